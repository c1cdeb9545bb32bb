import Derived.Test.YteeiibdkpdaniaaCF2
import Derived.KernelRfl
namespace Go.Proofs.Sx
open Go.RowKit
set_option linter.unusedVariables false
set_option linter.unusedSimpArgs false
set_option maxRecDepth 20000
set_option maxHeartbeats 1000000
/-! spec.PutNode -/
theorem spec_PutNode_c {w : World} {k : Nat} {p0 : TNode} {a_0 : Option Addr} {c_0 : Nat} (hb_0 : BorS kTEntry a_0 c_0 p0.L w.heap (Lt w Nil)) {r : (List Int)} (H : spec_PutNode k p0 = some r) :
    Calls Try.prog 65 #[.agg #[.bool p0.Leaf, .slice a_0 (List.length p0.L) c_0]] w (Rt w Nil (fun g : Option Addr × Nat => .slice g.1 (List.length r) g.2) (fun g => [OwnS kU8 g.1 g.2 r])) := by
  rw [spec_PutNode] at H
  refine Calls.enter0 (N := 37) (us := [_]) Try.func65 rfl rfl rfl ?_
  refine HQ.rseq ?_
  refine HQ.op [] [1] (OT.box (cs := [.bool p0.Leaf, .slice a_0 (List.length p0.L) c_0]) rfl) ⟨rfl, trivial⟩ trivial rfl rfl rfl rfl (fun _ => rfl) fun b1 => ?_
  refine HQ.pu Pu.assign ⟨rfl, trivial⟩ rfl rfl rfl ?_
  refine HQ.done ?_
  refine HQ.keep [(1, _), (2, _)] ⟨rfl, rfl, trivial⟩ ?_
  refine HQ.seq ?_
  refine HQ.rseq ?_
  refine HQ.op [1] [1] (OT.loadBA (vs := [.bool p0.Leaf, .slice a_0 (List.length p0.L) c_0]) ag58 sz58 rfl rfl) ⟨rfl, trivial⟩ ⟨rfl, trivial⟩ rfl rfl rfl rfl (fun _ => rfl) fun _ => ?_
  obtain ⟨t2, h3, H⟩ := bnd H
  refine HQ.op [] [] (OT.call (us := [_]) (Pre := []) [.tmp 6] Try.call58 rfl rfl fun w F hs hF hp => spec_NodeOk_c (hb_0.pass hp) h3) ⟨rfl, rfl, trivial⟩ trivial rfl rfl rfl rfl (fun _ => rfl) fun _ => ?_
  refine HQ.pu Pu.not ⟨rfl, trivial⟩ rfl rfl rfl ?_
  refine HQ.done ?_
  refine HQ.keep [(1, _), (2, _), (8, _)] ⟨rfl, rfl, rfl, trivial⟩ ?_
  rcases brk H with ⟨hc, H⟩ | ⟨hc, H⟩
  · refine HQ.condT rfl hc ?_
    clear hc
    refine HQ.rseq ?_
    refine HQ.op [] [2] (OT.buildF (us := []) (ys := ([] : (List Int))) (enc := (encI .u8)) (hl := fun _ => ⟨rfl, rfl⟩) [] sl27.ul sl27.szE sl27.zc rfl rfl rfl rfl rfl) trivial trivial rfl rfl rfl rfl (fun _ => rfl) fun ⟨a4, c5⟩ => ?_
    refine HQ.pu Pu.assign ⟨rfl, trivial⟩ rfl rfl rfl ?_
    refine HQ.done ?_
    refine HQ.keep [(1, _), (2, _)] ⟨rfl, rfl, trivial⟩ ?_
    refine HQ.ret ?_
    refine HQ.thenR ?_
    obtain rfl := Option.some.inj H
    exact HQ.fin (vs := [_]) Try.results65 (a4, c5) ⟨rfl, trivial⟩ rfl [2] ⟨rfl, trivial⟩ rfl
  · refine HQ.condF rfl hc ?_
    clear hc
    refine HQ.skipThen ?_
    refine HQ.rseq ?_
    refine HQ.pu (Pu.fieldB fo58_1 rfl) ⟨rfl, trivial⟩ rfl rfl rfl ?_
    refine HQ.op [1] [1] (OT.loadB sc56 rfl) ⟨rfl, trivial⟩ ⟨rfl, trivial⟩ rfl rfl rfl rfl (fun _ => rfl) fun _ => ?_
    refine HQ.pu (Pu.len ul56) ⟨rfl, trivial⟩ rfl rfl rfl ?_
    refine HQ.pu Pu.assign ⟨rfl, trivial⟩ rfl rfl rfl ?_
    refine HQ.done ?_
    refine HQ.keep [(1, _), (2, _), (3, _)] ⟨rfl, rfl, rfl, trivial⟩ ?_
    refine HQ.seq ?_
    refine HQ.rseq ?_
    refine HQ.pu (Pu.fieldB fo58_0 rfl) ⟨rfl, trivial⟩ rfl rfl rfl ?_
    refine HQ.op [1] [1] (OT.loadB sc4 rfl) ⟨rfl, trivial⟩ ⟨rfl, trivial⟩ rfl rfl rfl rfl (fun _ => rfl) fun _ => ?_
    refine HQ.done ?_
    refine HQ.keep [(1, _), (2, _), (3, _), (14, _)] ⟨rfl, rfl, rfl, rfl, trivial⟩ ?_
    rcases brk H with ⟨hc, H⟩ | ⟨hc, H⟩
    · refine HQ.condT rfl hc ?_
      clear hc
      refine HQ.region ?_
      refine HQ.pu Pu.move ⟨rfl, trivial⟩ rfl rfl rfl ?_
      refine HQ.pu Pu.add ⟨rfl, rfl, trivial⟩ rfl rfl rfl ?_
      refine HQ.pu Pu.assign ⟨rfl, trivial⟩ rfl rfl rfl ?_
      refine HQ.done ?_
      refine HQ.keep [(1, _), (2, _), (3, _)] ⟨rfl, rfl, rfl, trivial⟩ ?_
      refine HQ.rseq ?_
      refine HQ.pu Pu.move ⟨rfl, trivial⟩ rfl rfl rfl ?_
      refine HQ.pu (Pu.conv ul3 ul5) ⟨rfl, trivial⟩ rfl rfl rfl ?_
      refine HQ.op [] [3] (OT.buildF (us := [.int .u8 (IntKind.u8.wrap (wrap64 (((List.length p0.L : Nat) : Int) + 16)))]) (ys := ([(IntKind.u8.wrap (wrap64 (((List.length p0.L : Nat) : Int) + 16)))] : (List Int))) (enc := (encI .u8)) (hl := fun _ => ⟨rfl, rfl⟩) [.tmp 18] sl27.ul sl27.szE sl27.zc rfl rfl rfl rfl rfl) ⟨rfl, trivial⟩ trivial rfl rfl rfl rfl (fun _ => rfl) fun ⟨a6, c7⟩ => ?_
      refine HQ.pu Pu.assign ⟨rfl, trivial⟩ rfl rfl rfl ?_
      refine HQ.done ?_
      refine HQ.keep [(1, _), (2, _), (4, _)] ⟨rfl, rfl, rfl, trivial⟩ ?_
      refine HQ.seq ?_
      refine HQ.rseq ?_
      refine HQ.pu Pu.assign ⟨rfl, trivial⟩ rfl rfl rfl ?_
      refine HQ.done ?_
      refine HQ.keep [(1, _), (2, _), (4, _), (5, _)] ⟨rfl, rfl, rfl, rfl, trivial⟩ ?_
      refine HQ.block ?_
      obtain ⟨o36, h45, H⟩ := bnd H
      refine HQ.loop h45 0 (fun (s : (List Int) × Int) (g : Option Addr × Nat) => match s, g with | (l16, i19), (a17, c18) => [(1, BP b1 0), (2, .slice none 0 0), (4, .slice a17 (List.length l16) c18), (5, .int .i64 i19)]) (fun (s : (List Int) × Int) (g : Option Addr × Nat) => match s, g with | (l16, i19), (a17, c18) => [(1, Box b1 [.bool p0.Leaf, .slice a_0 (List.length p0.L) c_0]), (3, OwnS kU8 a17 c18 l16)]) (fun _ _ _ => False) (a6, c7) ⟨rfl, rfl, rfl, rfl, trivial⟩ ⟨rfl, rfl, trivial⟩ rfl ?_ ?_ ?_
      · clear H h45
        rintro ⟨l16, i19⟩ ⟨a17, c18⟩ o H
        rw [spec_PutNode_b0] at H
        refine HQ.keep [(1, _), (2, _), (4, _), (5, _)] ⟨rfl, rfl, rfl, rfl, trivial⟩ ?_
        refine HQ.keepR [(1, _), (3, _)] ⟨rfl, rfl, trivial⟩ rfl ?_
        refine HQ.seq ?_
        refine HQ.rseq ?_
        refine HQ.pu Pu.move ⟨rfl, trivial⟩ rfl rfl rfl ?_
        refine HQ.pu (Pu.fieldB fo58_1 rfl) ⟨rfl, trivial⟩ rfl rfl rfl ?_
        refine HQ.op [1] [1] (OT.loadB sc56 rfl) ⟨rfl, trivial⟩ ⟨rfl, trivial⟩ rfl rfl rfl rfl (fun _ => rfl) fun _ => ?_
        refine HQ.pu (Pu.len ul56) ⟨rfl, trivial⟩ rfl rfl rfl ?_
        refine HQ.pu Pu.lss ⟨rfl, rfl, trivial⟩ rfl rfl rfl ?_
        refine HQ.done ?_
        refine HQ.keep [(1, _), (2, _), (4, _), (5, _), (20, _), (21, _), (22, _), (23, _), (24, _)] ⟨rfl, rfl, rfl, rfl, rfl, rfl, rfl, rfl, rfl, trivial⟩ ?_
        rcases brk H with ⟨hc, H⟩ | ⟨hc, H⟩
        · refine HQ.condT rfl hc ?_
          clear hc
          refine HQ.skipThen ?_
          refine HQ.seq ?_
          refine HQ.block ?_
          refine HQ.regionQ ?_
          refine HQ.pu Pu.move ⟨rfl, trivial⟩ rfl rfl rfl ?_
          refine HQ.pu (Pu.fieldB fo58_1 rfl) ⟨rfl, trivial⟩ rfl rfl rfl ?_
          refine HQ.op [1] [1] (OT.loadB sc56 rfl) ⟨rfl, trivial⟩ ⟨rfl, trivial⟩ rfl rfl rfl rfl (fun _ => rfl) fun _ => ?_
          refine HQ.pu Pu.move ⟨rfl, trivial⟩ rfl rfl rfl ?_
          obtain ⟨h28, H⟩ := asr H
          refine HQ.op [] [] (OT.indexB ul56 sz135 hb_0 h28) ⟨rfl, rfl, trivial⟩ trivial rfl rfl rfl rfl (fun _ => rfl) fun _ => ?_
          refine HQ.op [] [] (OT.loadFA (vs := [.int .i64 ((gt p0.L i19).N), .int .i64 ((gt p0.L i19).R.X0), .int .i64 ((gt p0.L i19).R.Y0), .int .i64 ((gt p0.L i19).R.X1), .int .i64 ((gt p0.L i19).R.Y1)]) ag135 sz135 hb_0 h28 rfl rfl) ⟨rfl, trivial⟩ trivial rfl rfl rfl rfl (fun _ => rfl) fun _ => ?_
          obtain ⟨t29, h30, H⟩ := bnd H
          refine HQ.op [] [6] (OT.call (us := [_]) (Pre := []) [.tmp 32] Try.call99 rfl rfl fun w F hs hF hp => spec_PutEntry_c h30) ⟨rfl, rfl, trivial⟩ trivial rfl rfl rfl rfl (fun _ => rfl) fun ⟨a31, c32⟩ => ?_
          obtain ⟨h35, H⟩ := asr H
          refine HQ.op [3, 6] [3, 6] (OT.appendG (enc := (encI .u8)) (hl := fun _ => ⟨rfl, rfl⟩) sl27 ul27 h35) ⟨rfl, rfl, trivial⟩ ⟨rfl, rfl, trivial⟩ rfl rfl rfl rfl (fun _ => rfl) fun ⟨a33, c34⟩ => ?_
          refine HQ.pu Pu.assign ⟨rfl, trivial⟩ rfl rfl rfl ?_
          refine HQ.done ?_
          refine HQ.keep [(1, _), (2, _), (4, _), (5, _), (20, _), (21, _), (22, _), (23, _), (24, _), (27, _), (28, _), (29, _), (30, _), (31, _), (32, _), (33, _), (34, _)] ⟨rfl, rfl, rfl, rfl, rfl, rfl, rfl, rfl, rfl, rfl, rfl, rfl, rfl, rfl, rfl, rfl, rfl, trivial⟩ ?_
          refine HQ.blkN ?_
          refine HQ.thenN ?_
          refine HQ.regionQ ?_
          refine HQ.pu Pu.move ⟨rfl, trivial⟩ rfl rfl rfl ?_
          refine HQ.pu Pu.add ⟨rfl, rfl, trivial⟩ rfl rfl rfl ?_
          refine HQ.pu Pu.assign ⟨rfl, trivial⟩ rfl rfl rfl ?_
          refine HQ.done ?_
          refine HQ.keep [(1, _), (2, _), (4, _), (5, _), (20, _), (21, _), (22, _), (23, _), (24, _), (27, _), (28, _), (29, _), (30, _), (31, _), (32, _), (33, _), (34, _), (25, _), (26, _)] ⟨rfl, rfl, rfl, rfl, rfl, rfl, rfl, rfl, rfl, rfl, rfl, rfl, rfl, rfl, rfl, rfl, rfl, rfl, rfl, trivial⟩ ?_
          obtain rfl := Option.some.inj H
          exact HQ.next (a33, c34) ⟨rfl, rfl, rfl, rfl, trivial⟩ ⟨rfl, rfl, trivial⟩ rfl
        · refine HQ.condF rfl hc ?_
          clear hc
          refine HQ.exit ?_
          refine HQ.thenE ?_
          obtain rfl := Option.some.inj H
          exact HQ.out (a17, c18) ⟨rfl, rfl, rfl, rfl, trivial⟩ ⟨rfl, rfl, trivial⟩ rfl
      · rintro ⟨l37, i40⟩ rfl ⟨a38, c39⟩
        clear h45
        replace H := H
        refine HQ.keep [(1, _), (2, _), (4, _), (5, _)] ⟨rfl, rfl, rfl, rfl, trivial⟩ ?_
        refine HQ.keepR [(1, _), (3, _)] ⟨rfl, rfl, trivial⟩ rfl ?_
        refine HQ.blkE ?_
        refine HQ.thenN ?_
        refine HQ.rseq ?_
        refine HQ.pu Pu.move ⟨rfl, trivial⟩ rfl rfl rfl ?_
        obtain ⟨t41, h42, H⟩ := bnd H
        refine HQ.op [3] [7, 3] (OT.call (us := [_, _]) (Pre := [OwnS kU8 a38 c39 l37]) [.tmp 35, .const (.int .i64 25)] Try.call100 rfl rfl fun w F hs hF hp => spec_Pad_c (hs.lend hF 0 rfl) h42) ⟨rfl, rfl, rfl, trivial⟩ ⟨rfl, trivial⟩ rfl rfl rfl rfl (fun _ => rfl) fun ⟨a43, c44⟩ => ?_
        refine HQ.pu Pu.assign ⟨rfl, trivial⟩ rfl rfl rfl ?_
        refine HQ.done ?_
        refine HQ.keep [(2, _)] ⟨rfl, trivial⟩ ?_
        refine HQ.ret ?_
        obtain rfl := Option.some.inj H
        exact HQ.fin (vs := [_]) Try.results65 (a43, c44) ⟨rfl, trivial⟩ rfl [7] ⟨rfl, trivial⟩ rfl
      · exact fun r h a w hf => hf.elim
    · refine HQ.condF rfl hc ?_
      clear hc
      refine HQ.skipThen ?_
      refine HQ.rseq ?_
      refine HQ.pu Pu.move ⟨rfl, trivial⟩ rfl rfl rfl ?_
      refine HQ.pu (Pu.conv ul3 ul5) ⟨rfl, trivial⟩ rfl rfl rfl ?_
      refine HQ.op [] [8] (OT.buildF (us := [.int .u8 (IntKind.u8.wrap ((List.length p0.L : Nat) : Int))]) (ys := ([(IntKind.u8.wrap ((List.length p0.L : Nat) : Int))] : (List Int))) (enc := (encI .u8)) (hl := fun _ => ⟨rfl, rfl⟩) [.tmp 18] sl27.ul sl27.szE sl27.zc rfl rfl rfl rfl rfl) ⟨rfl, trivial⟩ trivial rfl rfl rfl rfl (fun _ => rfl) fun ⟨a46, c47⟩ => ?_
      refine HQ.pu Pu.assign ⟨rfl, trivial⟩ rfl rfl rfl ?_
      refine HQ.done ?_
      refine HQ.keep [(1, _), (2, _), (4, _)] ⟨rfl, rfl, rfl, trivial⟩ ?_
      refine HQ.seq ?_
      refine HQ.rseq ?_
      refine HQ.pu Pu.assign ⟨rfl, trivial⟩ rfl rfl rfl ?_
      refine HQ.done ?_
      refine HQ.keep [(1, _), (2, _), (4, _), (5, _)] ⟨rfl, rfl, rfl, rfl, trivial⟩ ?_
      refine HQ.block ?_
      obtain ⟨o76, h85, H⟩ := bnd H
      refine HQ.loop h85 0 (fun (s : (List Int) × Int) (g : Option Addr × Nat) => match s, g with | (l56, i59), (a57, c58) => [(1, BP b1 0), (2, .slice none 0 0), (4, .slice a57 (List.length l56) c58), (5, .int .i64 i59)]) (fun (s : (List Int) × Int) (g : Option Addr × Nat) => match s, g with | (l56, i59), (a57, c58) => [(1, Box b1 [.bool p0.Leaf, .slice a_0 (List.length p0.L) c_0]), (8, OwnS kU8 a57 c58 l56)]) (fun _ _ _ => False) (a46, c47) ⟨rfl, rfl, rfl, rfl, trivial⟩ ⟨rfl, rfl, trivial⟩ rfl ?_ ?_ ?_
      · clear H h85
        rintro ⟨l56, i59⟩ ⟨a57, c58⟩ o H
        rw [spec_PutNode_b1] at H
        refine HQ.keep [(1, _), (2, _), (4, _), (5, _)] ⟨rfl, rfl, rfl, rfl, trivial⟩ ?_
        refine HQ.keepR [(1, _), (8, _)] ⟨rfl, rfl, trivial⟩ rfl ?_
        refine HQ.seq ?_
        refine HQ.rseq ?_
        refine HQ.pu Pu.move ⟨rfl, trivial⟩ rfl rfl rfl ?_
        refine HQ.pu (Pu.fieldB fo58_1 rfl) ⟨rfl, trivial⟩ rfl rfl rfl ?_
        refine HQ.op [1] [1] (OT.loadB sc56 rfl) ⟨rfl, trivial⟩ ⟨rfl, trivial⟩ rfl rfl rfl rfl (fun _ => rfl) fun _ => ?_
        refine HQ.pu (Pu.len ul56) ⟨rfl, trivial⟩ rfl rfl rfl ?_
        refine HQ.pu Pu.lss ⟨rfl, rfl, trivial⟩ rfl rfl rfl ?_
        refine HQ.done ?_
        refine HQ.keep [(1, _), (2, _), (4, _), (5, _), (20, _), (21, _), (22, _), (23, _), (24, _)] ⟨rfl, rfl, rfl, rfl, rfl, rfl, rfl, rfl, rfl, trivial⟩ ?_
        rcases brk H with ⟨hc, H⟩ | ⟨hc, H⟩
        · refine HQ.condT rfl hc ?_
          clear hc
          refine HQ.skipThen ?_
          refine HQ.seq ?_
          refine HQ.block ?_
          refine HQ.regionQ ?_
          refine HQ.pu Pu.move ⟨rfl, trivial⟩ rfl rfl rfl ?_
          refine HQ.pu (Pu.fieldB fo58_1 rfl) ⟨rfl, trivial⟩ rfl rfl rfl ?_
          refine HQ.op [1] [1] (OT.loadB sc56 rfl) ⟨rfl, trivial⟩ ⟨rfl, trivial⟩ rfl rfl rfl rfl (fun _ => rfl) fun _ => ?_
          refine HQ.pu Pu.move ⟨rfl, trivial⟩ rfl rfl rfl ?_
          obtain ⟨h68, H⟩ := asr H
          refine HQ.op [] [] (OT.indexB ul56 sz135 hb_0 h68) ⟨rfl, rfl, trivial⟩ trivial rfl rfl rfl rfl (fun _ => rfl) fun _ => ?_
          refine HQ.op [] [] (OT.loadFA (vs := [.int .i64 ((gt p0.L i59).N), .int .i64 ((gt p0.L i59).R.X0), .int .i64 ((gt p0.L i59).R.Y0), .int .i64 ((gt p0.L i59).R.X1), .int .i64 ((gt p0.L i59).R.Y1)]) ag135 sz135 hb_0 h68 rfl rfl) ⟨rfl, trivial⟩ trivial rfl rfl rfl rfl (fun _ => rfl) fun _ => ?_
          obtain ⟨t69, h70, H⟩ := bnd H
          refine HQ.op [] [11] (OT.call (us := [_]) (Pre := []) [.tmp 32] Try.call99 rfl rfl fun w F hs hF hp => spec_PutEntry_c h70) ⟨rfl, rfl, trivial⟩ trivial rfl rfl rfl rfl (fun _ => rfl) fun ⟨a71, c72⟩ => ?_
          obtain ⟨h75, H⟩ := asr H
          refine HQ.op [8, 11] [8, 11] (OT.appendG (enc := (encI .u8)) (hl := fun _ => ⟨rfl, rfl⟩) sl27 ul27 h75) ⟨rfl, rfl, trivial⟩ ⟨rfl, rfl, trivial⟩ rfl rfl rfl rfl (fun _ => rfl) fun ⟨a73, c74⟩ => ?_
          refine HQ.pu Pu.assign ⟨rfl, trivial⟩ rfl rfl rfl ?_
          refine HQ.done ?_
          refine HQ.keep [(1, _), (2, _), (4, _), (5, _), (20, _), (21, _), (22, _), (23, _), (24, _), (27, _), (28, _), (29, _), (30, _), (31, _), (32, _), (33, _), (34, _)] ⟨rfl, rfl, rfl, rfl, rfl, rfl, rfl, rfl, rfl, rfl, rfl, rfl, rfl, rfl, rfl, rfl, rfl, trivial⟩ ?_
          refine HQ.blkN ?_
          refine HQ.thenN ?_
          refine HQ.regionQ ?_
          refine HQ.pu Pu.move ⟨rfl, trivial⟩ rfl rfl rfl ?_
          refine HQ.pu Pu.add ⟨rfl, rfl, trivial⟩ rfl rfl rfl ?_
          refine HQ.pu Pu.assign ⟨rfl, trivial⟩ rfl rfl rfl ?_
          refine HQ.done ?_
          refine HQ.keep [(1, _), (2, _), (4, _), (5, _), (20, _), (21, _), (22, _), (23, _), (24, _), (27, _), (28, _), (29, _), (30, _), (31, _), (32, _), (33, _), (34, _), (25, _), (26, _)] ⟨rfl, rfl, rfl, rfl, rfl, rfl, rfl, rfl, rfl, rfl, rfl, rfl, rfl, rfl, rfl, rfl, rfl, rfl, rfl, trivial⟩ ?_
          obtain rfl := Option.some.inj H
          exact HQ.next (a73, c74) ⟨rfl, rfl, rfl, rfl, trivial⟩ ⟨rfl, rfl, trivial⟩ rfl
        · refine HQ.condF rfl hc ?_
          clear hc
          refine HQ.exit ?_
          refine HQ.thenE ?_
          obtain rfl := Option.some.inj H
          exact HQ.out (a57, c58) ⟨rfl, rfl, rfl, rfl, trivial⟩ ⟨rfl, rfl, trivial⟩ rfl
      · rintro ⟨l77, i80⟩ rfl ⟨a78, c79⟩
        clear h85
        replace H := H
        refine HQ.keep [(1, _), (2, _), (4, _), (5, _)] ⟨rfl, rfl, rfl, rfl, trivial⟩ ?_
        refine HQ.keepR [(1, _), (8, _)] ⟨rfl, rfl, trivial⟩ rfl ?_
        refine HQ.blkE ?_
        refine HQ.thenN ?_
        refine HQ.rseq ?_
        refine HQ.pu Pu.move ⟨rfl, trivial⟩ rfl rfl rfl ?_
        obtain ⟨t81, h82, H⟩ := bnd H
        refine HQ.op [8] [12, 8] (OT.call (us := [_, _]) (Pre := [OwnS kU8 a78 c79 l77]) [.tmp 35, .const (.int .i64 25)] Try.call100 rfl rfl fun w F hs hF hp => spec_Pad_c (hs.lend hF 0 rfl) h82) ⟨rfl, rfl, rfl, trivial⟩ ⟨rfl, trivial⟩ rfl rfl rfl rfl (fun _ => rfl) fun ⟨a83, c84⟩ => ?_
        refine HQ.pu Pu.assign ⟨rfl, trivial⟩ rfl rfl rfl ?_
        refine HQ.done ?_
        refine HQ.keep [(2, _)] ⟨rfl, trivial⟩ ?_
        refine HQ.ret ?_
        obtain rfl := Option.some.inj H
        exact HQ.fin (vs := [_]) Try.results65 (a83, c84) ⟨rfl, trivial⟩ rfl [12] ⟨rfl, trivial⟩ rfl
      · exact fun r h a w hf => hf.elim

/-! spec.PutCell -/
theorem spec_PutCell_c {w : World} {k : Nat} {p0 : Int} {p1 : TChange} {a_0 : Option Addr} {c_0 : Nat} (hb_0 : BorS kTEntry a_0 c_0 p1.N.L w.heap (Lt w Nil)) {r : (List Int)} (H : spec_PutCell k p0 p1 = some r) :
    Calls Try.prog 35 #[.int .i64 p0, .agg #[.int .i64 p1.Page, .bool p1.N.Leaf, .slice a_0 (List.length p1.N.L) c_0]] w (Rt w Nil (fun g : Option Addr × Nat => .slice g.1 (List.length r) g.2) (fun g => [OwnS kU8 g.1 g.2 r])) := by
  rw [spec_PutCell] at H
  refine Calls.enter0 (N := 33) (us := [_, _]) Try.func35 rfl rfl rfl ?_
  refine HQ.rseq ?_
  refine HQ.op [] [1] (OT.box (cs := [.int .i64 p1.Page, .bool p1.N.Leaf, .slice a_0 (List.length p1.N.L) c_0]) rfl) ⟨rfl, trivial⟩ trivial rfl rfl rfl rfl (fun _ => rfl) fun b1 => ?_
  refine HQ.pu Pu.assign ⟨rfl, trivial⟩ rfl rfl rfl ?_
  refine HQ.done ?_
  refine HQ.keep [(0, _), (3, _), (4, _)] ⟨rfl, rfl, rfl, trivial⟩ ?_
  refine HQ.seq ?_
  refine HQ.rseq ?_
  refine HQ.pu Pu.move ⟨rfl, trivial⟩ rfl rfl rfl ?_
  obtain ⟨t2, h3, H⟩ := bnd H
  refine HQ.op [] [] (OT.call (us := [_, _, _]) (Pre := []) [.tmp 5, .const (.int .i64 0), .const (.int .i64 65535)] Try.call49 rfl rfl fun w F hs hF hp => spec_l1In_c h3) ⟨rfl, rfl, rfl, rfl, trivial⟩ trivial rfl rfl rfl rfl (fun _ => rfl) fun _ => ?_
  refine HQ.pu Pu.not ⟨rfl, trivial⟩ rfl rfl rfl ?_
  refine HQ.pu Pu.move ⟨rfl, trivial⟩ rfl rfl rfl ?_
  obtain ⟨c7, h8, H⟩ := bnd H
  refine HQ.cutAt 5 [(13, .bool c7), (0, .int .i64 p0), (3, BP b1 0), (4, .slice none 0 0)] [(1, Box b1 [.int .i64 p1.Page, .bool p1.N.Leaf, .slice a_0 (List.length p1.N.L) c_0])] ?_ ?_
  · clear H
    have H := h8
    rcases brk H with ⟨hg4, H⟩ | ⟨hg4, H⟩
    · obtain rfl := Option.some.inj H
      refine HQ.off rfl rfl hg4 rfl ?_
      refine HQ.off rfl rfl hg4 rfl ?_
      refine HQ.off rfl rfl hg4 rfl ?_
      refine HQ.off rfl rfl hg4 rfl ?_
      refine HQ.pu (Pu.pickC1 hg4) ⟨rfl, rfl, trivial⟩ rfl rfl rfl ?_
      exact HQ.mid ⟨rfl, rfl, rfl, rfl, trivial⟩ ⟨rfl, trivial⟩ rfl
    · refine HQ.on rfl rfl hg4 ?_
      refine HQ.pu (Pu.fieldB fo73_0 rfl) ⟨rfl, trivial⟩ rfl rfl rfl ?_
      refine HQ.on rfl rfl hg4 ?_
      refine HQ.op [1] [1] (OT.loadB sc3 rfl) ⟨rfl, trivial⟩ ⟨rfl, trivial⟩ rfl rfl rfl rfl (fun _ => rfl) fun _ => ?_
      refine HQ.on rfl rfl hg4 ?_
      obtain ⟨t5, h6, H⟩ := bnd H
      refine HQ.op [] [] (OT.call (us := [_, _, _]) (Pre := []) [.tmp 10, .const (.int .i64 0), .const (.int .i64 47)] Try.call49 rfl rfl fun w F hs hF hp => spec_l1In_c h6) ⟨rfl, rfl, rfl, rfl, trivial⟩ trivial rfl rfl rfl rfl (fun _ => rfl) fun _ => ?_
      refine HQ.on rfl rfl hg4 ?_
      refine HQ.pu Pu.not ⟨rfl, trivial⟩ rfl rfl rfl ?_
      obtain rfl := Option.some.inj H
      refine HQ.pu (Pu.pickC0 hg4) ⟨rfl, rfl, trivial⟩ rfl rfl rfl ?_
      exact HQ.mid ⟨rfl, rfl, rfl, rfl, trivial⟩ ⟨rfl, trivial⟩ rfl
  refine HQ.pu Pu.move ⟨rfl, trivial⟩ rfl rfl rfl ?_
  obtain ⟨c12, h13, H⟩ := bnd H
  refine HQ.cutAt 5 [(19, .bool c12), (0, .int .i64 p0), (3, BP b1 0), (4, .slice none 0 0)] [(1, Box b1 [.int .i64 p1.Page, .bool p1.N.Leaf, .slice a_0 (List.length p1.N.L) c_0])] ?_ ?_
  · clear H
    have H := h13
    rcases brk H with ⟨hg9, H⟩ | ⟨hg9, H⟩
    · obtain rfl := Option.some.inj H
      refine HQ.off rfl rfl hg9 rfl ?_
      refine HQ.off rfl rfl hg9 rfl ?_
      refine HQ.off rfl rfl hg9 rfl ?_
      refine HQ.off rfl rfl hg9 rfl ?_
      refine HQ.pu (Pu.pickC1 hg9) ⟨rfl, rfl, trivial⟩ rfl rfl rfl ?_
      exact HQ.mid ⟨rfl, rfl, rfl, rfl, trivial⟩ ⟨rfl, trivial⟩ rfl
    · refine HQ.on rfl rfl hg9 ?_
      refine HQ.pu (Pu.fieldB fo73_1 rfl) ⟨rfl, trivial⟩ rfl rfl rfl ?_
      refine HQ.on rfl rfl hg9 ?_
      refine HQ.op [1] [1] (OT.loadBA (vs := [.bool p1.N.Leaf, .slice a_0 (List.length p1.N.L) c_0]) ag58 sz58 rfl rfl) ⟨rfl, trivial⟩ ⟨rfl, trivial⟩ rfl rfl rfl rfl (fun _ => rfl) fun _ => ?_
      refine HQ.on rfl rfl hg9 ?_
      obtain ⟨t10, h11, H⟩ := bnd H
      refine HQ.op [] [] (OT.call (us := [_]) (Pre := []) [.tmp 16] Try.call58 rfl rfl fun w F hs hF hp => spec_NodeOk_c (hb_0.pass hp) h11) ⟨rfl, rfl, trivial⟩ trivial rfl rfl rfl rfl (fun _ => rfl) fun _ => ?_
      refine HQ.on rfl rfl hg9 ?_
      refine HQ.pu Pu.not ⟨rfl, trivial⟩ rfl rfl rfl ?_
      obtain rfl := Option.some.inj H
      refine HQ.pu (Pu.pickC0 hg9) ⟨rfl, rfl, trivial⟩ rfl rfl rfl ?_
      exact HQ.mid ⟨rfl, rfl, rfl, rfl, trivial⟩ ⟨rfl, trivial⟩ rfl
  refine HQ.done ?_
  refine HQ.keep [(19, _), (0, _), (3, _), (4, _)] ⟨rfl, rfl, rfl, rfl, trivial⟩ ?_
  rcases brk H with ⟨hc, H⟩ | ⟨hc, H⟩
  · refine HQ.condT rfl hc ?_
    clear hc
    refine HQ.rseq ?_
    refine HQ.op [] [2] (OT.buildF (us := []) (ys := ([] : (List Int))) (enc := (encI .u8)) (hl := fun _ => ⟨rfl, rfl⟩) [] sl27.ul sl27.szE sl27.zc rfl rfl rfl rfl rfl) trivial trivial rfl rfl rfl rfl (fun _ => rfl) fun ⟨a14, c15⟩ => ?_
    refine HQ.pu Pu.assign ⟨rfl, trivial⟩ rfl rfl rfl ?_
    refine HQ.done ?_
    refine HQ.keep [(0, _), (3, _), (4, _)] ⟨rfl, rfl, rfl, trivial⟩ ?_
    refine HQ.ret ?_
    refine HQ.thenR ?_
    obtain rfl := Option.some.inj H
    exact HQ.fin (vs := [_]) Try.results35 (a14, c15) ⟨rfl, trivial⟩ rfl [2] ⟨rfl, trivial⟩ rfl
  · refine HQ.condF rfl hc ?_
    clear hc
    refine HQ.skipThen ?_
    obtain ⟨t19, h20, H⟩ := bnd H
    obtain ⟨h27, H⟩ := asr H
    refine HQ.drawS mixd [(0, .int .i64 p0), (3, BP b1 0), (4, .slice none 0 0)] 10 [⟨[], [0], []⟩, ⟨[], [], []⟩, ⟨[0], [1, 0], [0, 1]⟩, ⟨[], [], []⟩, ⟨[2], [2], [3]⟩, ⟨[], [], [4]⟩, ⟨[], [3], [5]⟩, ⟨[1, 3], [4, 3], [2, 6]⟩, ⟨[], [], []⟩, ⟨[2], [2], [8]⟩] [⟨some 0, none⟩, ⟨some 2, some 7⟩, ⟨none, none⟩, ⟨some 6, none⟩, ⟨some 7, none⟩] (fun (g16 : (Option Addr × Nat) × (Option Addr × Nat) × (Option Addr × Nat) × (Option Addr × Nat)) => [.slice g16.1.1 (List.length ([1] : (List Int))) g16.1.2, .int .i64 p0, .slice g16.2.1.1 (List.length t19) g16.2.1.2, BP b1 0, .int .i64 p1.Page, .int .u8 (IntKind.u8.wrap p1.Page), .slice g16.2.2.1.1 (List.length ([(IntKind.u8.wrap p1.Page)] : (List Int))) g16.2.2.1.2, .slice g16.2.2.2.1 (List.length (t19 ++ ([(IntKind.u8.wrap p1.Page)] : (List Int)))) g16.2.2.2.2, BP b1 1, .agg #[.bool p1.N.Leaf, .slice a_0 (List.length p1.N.L) c_0]]) (fun (g16 : (Option Addr × Nat) × (Option Addr × Nat) × (Option Addr × Nat) × (Option Addr × Nat)) => [OwnS kU8 g16.1.1 g16.1.2 ([1] : (List Int)), OwnS kU8 g16.2.1.1 g16.2.1.2 t19, Box b1 [.int .i64 p1.Page, .bool p1.N.Leaf, .slice a_0 (List.length p1.N.L) c_0], OwnS kU8 g16.2.2.1.1 g16.2.2.1.2 ([(IntKind.u8.wrap p1.Page)] : (List Int)), OwnS kU8 g16.2.2.2.1 g16.2.2.2.2 (t19 ++ ([(IntKind.u8.wrap p1.Page)] : (List Int)))]) ((none, 0), (none, 0), (none, 0), (none, 0)) [1] [3, 1, 5, 4] [] ⟨rfl, rfl, rfl, trivial⟩ ⟨rfl, trivial⟩ rfl (by kernel_rfl) (fun _ => rfl) (by kernel_rfl) (fun _ => rfl) ⟨?_, ?_, ?_, ?_, ?_, ?_, ?_, ?_, ?_, ?_, trivial⟩ fun g16 => ?_
    · exact OpOK.of (fun g16 => [(.const (.int .u8 1), .int .u8 1)]) _ _ (fun g16 x => (x, g16.2.1, g16.2.2.1, g16.2.2.2)) rfl rfl (fun _ => ⟨rfl, trivial⟩) (fun g16 => OT.buildF (us := [.int .u8 1]) (ys := ([1] : (List Int))) (enc := (encI .u8)) (hl := fun _ => ⟨rfl, rfl⟩) [.const (.int .u8 1)] sl27.ul sl27.szE sl27.zc rfl rfl rfl rfl rfl) (fun _ _ => ⟨rfl, rfl, ⟨rfl, rfl, rfl, rfl, rfl, trivial⟩⟩)
    · exact OpOK.of (fun g16 => [(.tmp 0, .int .i64 p0)]) _ _ (fun g16 _ => g16) rfl rfl (fun _ => ⟨rfl, trivial⟩) (fun g16 => Pu.toOT Pu.move) (fun _ _ => ⟨rfl, rfl, ⟨rfl, rfl, rfl, rfl, rfl, trivial⟩⟩)
    · exact OpOK.of (fun g16 => [(.func 77, .func (.func 77) #[] #[]), (.tmp 21, .slice g16.1.1 (List.length ([1] : (List Int))) g16.1.2), (.tmp 22, .int .i64 p0)]) _ _ (fun g16 x => (g16.1, x, g16.2.2.1, g16.2.2.2)) rfl rfl (fun _ => ⟨rfl, rfl, rfl, trivial⟩) (fun g16 => OT.call (us := [_, _]) (Pre := [OwnS kU8 g16.1.1 g16.1.2 ([1] : (List Int))]) [.tmp 21, .tmp 22] Try.call77 rfl rfl fun w F hs hF hp => spec_Put2_c (hs.lend hF 0 rfl) h20) (fun _ _ => ⟨rfl, rfl, ⟨rfl, rfl, rfl, rfl, rfl, trivial⟩⟩)
    · exact OpOK.of (fun g16 => [(.tmp 3, BP b1 0)]) _ _ (fun g16 _ => g16) rfl rfl (fun _ => ⟨rfl, trivial⟩) (fun g16 => Pu.toOT (Pu.fieldB fo73_0 rfl)) (fun _ _ => ⟨rfl, rfl, ⟨rfl, rfl, rfl, rfl, rfl, trivial⟩⟩)
    · exact OpOK.of (fun g16 => [(.tmp 24, BP b1 0)]) _ _ (fun g16 _ => g16) rfl rfl (fun _ => ⟨rfl, trivial⟩) (fun g16 => OT.loadB sc3 rfl) (fun _ _ => ⟨rfl, rfl, ⟨rfl, rfl, rfl, rfl, rfl, trivial⟩⟩)
    · exact OpOK.of (fun g16 => [(.tmp 25, .int .i64 p1.Page)]) _ _ (fun g16 _ => g16) rfl rfl (fun _ => ⟨rfl, trivial⟩) (fun g16 => Pu.toOT (Pu.conv ul3 ul5)) (fun _ _ => ⟨rfl, rfl, ⟨rfl, rfl, rfl, rfl, rfl, trivial⟩⟩)
    · exact OpOK.of (fun g16 => [(.tmp 26, .int .u8 (IntKind.u8.wrap p1.Page))]) _ _ (fun g16 x => (g16.1, g16.2.1, x, g16.2.2.2)) rfl rfl (fun _ => ⟨rfl, trivial⟩) (fun g16 => OT.buildF (us := [.int .u8 (IntKind.u8.wrap p1.Page)]) (ys := ([(IntKind.u8.wrap p1.Page)] : (List Int))) (enc := (encI .u8)) (hl := fun _ => ⟨rfl, rfl⟩) [.tmp 26] sl27.ul sl27.szE sl27.zc rfl rfl rfl rfl rfl) (fun _ _ => ⟨rfl, rfl, ⟨rfl, rfl, rfl, rfl, rfl, trivial⟩⟩)
    · exact OpOK.of (fun g16 => [(.tmp 23, .slice g16.2.1.1 (List.length t19) g16.2.1.2), (.tmp 27, .slice g16.2.2.1.1 (List.length ([(IntKind.u8.wrap p1.Page)] : (List Int))) g16.2.2.1.2)]) _ _ (fun g16 x => (g16.1, g16.2.1, g16.2.2.1, x)) rfl rfl (fun _ => ⟨rfl, rfl, trivial⟩) (fun g16 => OT.appendG (enc := (encI .u8)) (hl := fun _ => ⟨rfl, rfl⟩) sl27 ul27 h27) (fun _ _ => ⟨rfl, rfl, ⟨rfl, rfl, rfl, rfl, rfl, trivial⟩⟩)
    · exact OpOK.of (fun g16 => [(.tmp 3, BP b1 0)]) _ _ (fun g16 _ => g16) rfl rfl (fun _ => ⟨rfl, trivial⟩) (fun g16 => Pu.toOT (Pu.fieldB fo73_1 rfl)) (fun _ _ => ⟨rfl, rfl, ⟨rfl, rfl, rfl, rfl, rfl, trivial⟩⟩)
    · exact OpOK.of (fun g16 => [(.tmp 29, BP b1 1)]) _ _ (fun g16 _ => g16) rfl rfl (fun _ => ⟨rfl, trivial⟩) (fun g16 => OT.loadBA (vs := [.bool p1.N.Leaf, .slice a_0 (List.length p1.N.L) c_0]) ag58 sz58 rfl rfl) (fun _ _ => ⟨rfl, rfl, ⟨rfl, rfl, rfl, rfl, rfl, trivial⟩⟩)
    refine HQ.keep [(4, _), (28, _), (30, _)] ⟨rfl, rfl, rfl, trivial⟩ ?_
    refine HQ.keepR [(1, _), (3, _), (5, _), (4, _)] ⟨rfl, rfl, rfl, rfl, trivial⟩ rfl ?_
    obtain ⟨t28, h29, H⟩ := bnd H
    refine HQ.op [] [6] (OT.call (us := [_]) (Pre := []) [.tmp 30] Try.call65 rfl rfl fun w F hs hF hp => spec_PutNode_c (hb_0.pass hp) h29) ⟨rfl, rfl, trivial⟩ trivial rfl rfl rfl rfl (fun _ => rfl) fun ⟨a30, c31⟩ => ?_
    obtain ⟨h34, H⟩ := asr H
    refine HQ.op [4, 6] [4, 6] (OT.appendG (enc := (encI .u8)) (hl := fun _ => ⟨rfl, rfl⟩) sl27 ul27 h34) ⟨rfl, rfl, trivial⟩ ⟨rfl, rfl, trivial⟩ rfl rfl rfl rfl (fun _ => rfl) fun ⟨a32, c33⟩ => ?_
    refine HQ.pu Pu.assign ⟨rfl, trivial⟩ rfl rfl rfl ?_
    refine HQ.done ?_
    refine HQ.keep [(4, _)] ⟨rfl, trivial⟩ ?_
    refine HQ.ret ?_
    obtain rfl := Option.some.inj H
    exact HQ.fin (vs := [_]) Try.results35 (a32, c33) ⟨rfl, trivial⟩ rfl [4] ⟨rfl, trivial⟩ rfl

/-! impl.in -/
theorem impl_in_c {w : World} {p0 : Int} {p1 : Int} {p2 : Int}   {r : Bool} (H : impl_in p0 p1 p2 = some r) :
    Calls Try.prog 60 #[.int .i64 p0, .int .i64 p1, .int .i64 p2] w (Rt w Nil (fun _ : Unit => .bool r) (fun _ => [])) := by
  rw [impl_in] at H
  refine Calls.enter0 (N := 15) (us := [_, _, _]) Try.func60 rfl rfl rfl ?_
  refine HQ.rseq ?_
  refine HQ.pu Pu.assign ⟨rfl, trivial⟩ rfl rfl rfl ?_
  refine HQ.done ?_
  refine HQ.keep [(0, _), (1, _), (2, _), (6, _)] ⟨rfl, rfl, rfl, rfl, trivial⟩ ?_
  refine HQ.rseq ?_
  refine HQ.pu Pu.move ⟨rfl, trivial⟩ rfl rfl rfl ?_
  refine HQ.pu Pu.move ⟨rfl, trivial⟩ rfl rfl rfl ?_
  refine HQ.pu Pu.leq ⟨rfl, rfl, trivial⟩ rfl rfl rfl ?_
  refine HQ.pu Pu.move ⟨rfl, trivial⟩ rfl rfl rfl ?_
  refine HQ.cutAt 4 [(14, .bool ((decide (p1 ≤ p0)) && (decide (p0 ≤ p2)))), (6, .bool false)] [] ?_ ?_
  · rcases Bool.eq_false_or_eq_true (decide (p1 ≤ p0)) with hg1 | hg1
    · refine HQ.on rfl rfl hg1 ?_
      refine HQ.pu Pu.move ⟨rfl, trivial⟩ rfl rfl rfl ?_
      refine HQ.on rfl rfl hg1 ?_
      refine HQ.pu Pu.move ⟨rfl, trivial⟩ rfl rfl rfl ?_
      refine HQ.on rfl rfl hg1 ?_
      refine HQ.pu Pu.leq ⟨rfl, rfl, trivial⟩ rfl rfl rfl ?_
      refine HQ.pu (Pu.pickAT hg1) ⟨rfl, rfl, trivial⟩ rfl rfl rfl ?_
      exact HQ.mid ⟨rfl, rfl, trivial⟩ trivial rfl
    · refine HQ.off rfl rfl hg1 rfl ?_
      refine HQ.off rfl rfl hg1 rfl ?_
      refine HQ.off rfl rfl hg1 rfl ?_
      refine HQ.pu (Pu.pickAF (u := (decide (p0 ≤ p2))) hg1) ⟨rfl, rfl, trivial⟩ rfl rfl rfl ?_
      exact HQ.mid ⟨rfl, rfl, trivial⟩ trivial rfl
  refine HQ.pu Pu.assign ⟨rfl, trivial⟩ rfl rfl rfl ?_
  refine HQ.done ?_
  refine HQ.keep [(6, _)] ⟨rfl, trivial⟩ ?_
  refine HQ.ret ?_
  obtain rfl := Option.some.inj H
  exact HQ.fin (vs := [_]) Try.results60 () ⟨rfl, trivial⟩ rfl [] trivial rfl

/-! impl.BoxOk -/
theorem impl_BoxOk_c {w : World} {p0 : TBox}   {r : Bool} (H : impl_BoxOk p0 = some r) :
    Calls Try.prog 97 #[.agg #[.int .i64 p0.X0, .int .i64 p0.Y0, .int .i64 p0.X1, .int .i64 p0.Y1]] w (Rt w Nil (fun _ : Unit => .bool r) (fun _ => [])) := by
  rw [impl_BoxOk] at H
  refine Calls.enter0 (N := 25) (us := [_]) Try.func97 rfl rfl rfl ?_
  refine HQ.rseq ?_
  refine HQ.op [] [1] (OT.box (cs := [.int .i64 p0.X0, .int .i64 p0.Y0, .int .i64 p0.X1, .int .i64 p0.Y1]) rfl) ⟨rfl, trivial⟩ trivial rfl rfl rfl rfl (fun _ => rfl) fun b1 => ?_
  refine HQ.pu Pu.assign ⟨rfl, trivial⟩ rfl rfl rfl ?_
  refine HQ.done ?_
  refine HQ.keep [(1, _), (2, _)] ⟨rfl, rfl, trivial⟩ ?_
  refine HQ.rseq ?_
  refine HQ.pu (Pu.fieldB fo133_0 rfl) ⟨rfl, trivial⟩ rfl rfl rfl ?_
  refine HQ.op [1] [1] (OT.loadB sc3 rfl) ⟨rfl, trivial⟩ ⟨rfl, trivial⟩ rfl rfl rfl rfl (fun _ => rfl) fun _ => ?_
  refine HQ.pu (Pu.fieldB fo133_2 rfl) ⟨rfl, trivial⟩ rfl rfl rfl ?_
  refine HQ.op [1] [1] (OT.loadB sc3 rfl) ⟨rfl, trivial⟩ ⟨rfl, trivial⟩ rfl rfl rfl rfl (fun _ => rfl) fun _ => ?_
  obtain ⟨t2, h3, H⟩ := bnd H
  refine HQ.op [] [] (OT.call (us := [_, _, _]) (Pre := []) [.tmp 4, .const (.int .i64 0), .tmp 6] Try.call60 rfl rfl fun w F hs hF hp => impl_in_c h3) ⟨rfl, rfl, rfl, rfl, trivial⟩ trivial rfl rfl rfl rfl (fun _ => rfl) fun _ => ?_
  refine HQ.pu Pu.move ⟨rfl, trivial⟩ rfl rfl rfl ?_
  obtain ⟨c7, h8, H⟩ := bnd H
  refine HQ.cutAt 4 [(12, .bool c7), (1, BP b1 0), (2, .bool false)] [(1, Box b1 [.int .i64 p0.X0, .int .i64 p0.Y0, .int .i64 p0.X1, .int .i64 p0.Y1])] ?_ ?_
  · clear H
    have H := h8
    rcases brk H with ⟨hg4, H⟩ | ⟨hg4, H⟩
    · refine HQ.on rfl rfl hg4 ?_
      refine HQ.pu (Pu.fieldB fo133_2 rfl) ⟨rfl, trivial⟩ rfl rfl rfl ?_
      refine HQ.on rfl rfl hg4 ?_
      refine HQ.op [1] [1] (OT.loadB sc3 rfl) ⟨rfl, trivial⟩ ⟨rfl, trivial⟩ rfl rfl rfl rfl (fun _ => rfl) fun _ => ?_
      refine HQ.on rfl rfl hg4 ?_
      obtain ⟨t5, h6, H⟩ := bnd H
      refine HQ.op [] [] (OT.call (us := [_, _, _]) (Pre := []) [.tmp 10, .const (.int .i64 0), .const (.int .i64 255)] Try.call60 rfl rfl fun w F hs hF hp => impl_in_c h6) ⟨rfl, rfl, rfl, rfl, trivial⟩ trivial rfl rfl rfl rfl (fun _ => rfl) fun _ => ?_
      obtain rfl := Option.some.inj H
      refine HQ.pu (Pu.pickC1 hg4) ⟨rfl, rfl, trivial⟩ rfl rfl rfl ?_
      exact HQ.mid ⟨rfl, rfl, rfl, trivial⟩ ⟨rfl, trivial⟩ rfl
    · obtain rfl := Option.some.inj H
      refine HQ.off rfl rfl hg4 rfl ?_
      refine HQ.off rfl rfl hg4 rfl ?_
      refine HQ.off rfl rfl hg4 rfl ?_
      refine HQ.pu (Pu.pickC0 hg4) ⟨rfl, rfl, trivial⟩ rfl rfl rfl ?_
      exact HQ.mid ⟨rfl, rfl, rfl, trivial⟩ ⟨rfl, trivial⟩ rfl
  refine HQ.pu Pu.move ⟨rfl, trivial⟩ rfl rfl rfl ?_
  obtain ⟨c12, h13, H⟩ := bnd H
  refine HQ.cutAt 6 [(19, .bool c12), (1, BP b1 0), (2, .bool false)] [(1, Box b1 [.int .i64 p0.X0, .int .i64 p0.Y0, .int .i64 p0.X1, .int .i64 p0.Y1])] ?_ ?_
  · clear H
    have H := h13
    rcases brk H with ⟨hg9, H⟩ | ⟨hg9, H⟩
    · refine HQ.on rfl rfl hg9 ?_
      refine HQ.pu (Pu.fieldB fo133_1 rfl) ⟨rfl, trivial⟩ rfl rfl rfl ?_
      refine HQ.on rfl rfl hg9 ?_
      refine HQ.op [1] [1] (OT.loadB sc3 rfl) ⟨rfl, trivial⟩ ⟨rfl, trivial⟩ rfl rfl rfl rfl (fun _ => rfl) fun _ => ?_
      refine HQ.on rfl rfl hg9 ?_
      refine HQ.pu (Pu.fieldB fo133_3 rfl) ⟨rfl, trivial⟩ rfl rfl rfl ?_
      refine HQ.on rfl rfl hg9 ?_
      refine HQ.op [1] [1] (OT.loadB sc3 rfl) ⟨rfl, trivial⟩ ⟨rfl, trivial⟩ rfl rfl rfl rfl (fun _ => rfl) fun _ => ?_
      refine HQ.on rfl rfl hg9 ?_
      obtain ⟨t10, h11, H⟩ := bnd H
      refine HQ.op [] [] (OT.call (us := [_, _, _]) (Pre := []) [.tmp 15, .const (.int .i64 0), .tmp 17] Try.call60 rfl rfl fun w F hs hF hp => impl_in_c h11) ⟨rfl, rfl, rfl, rfl, trivial⟩ trivial rfl rfl rfl rfl (fun _ => rfl) fun _ => ?_
      obtain rfl := Option.some.inj H
      refine HQ.pu (Pu.pickC1 hg9) ⟨rfl, rfl, trivial⟩ rfl rfl rfl ?_
      exact HQ.mid ⟨rfl, rfl, rfl, trivial⟩ ⟨rfl, trivial⟩ rfl
    · obtain rfl := Option.some.inj H
      refine HQ.off rfl rfl hg9 rfl ?_
      refine HQ.off rfl rfl hg9 rfl ?_
      refine HQ.off rfl rfl hg9 rfl ?_
      refine HQ.off rfl rfl hg9 rfl ?_
      refine HQ.off rfl rfl hg9 rfl ?_
      refine HQ.pu (Pu.pickC0 hg9) ⟨rfl, rfl, trivial⟩ rfl rfl rfl ?_
      exact HQ.mid ⟨rfl, rfl, rfl, trivial⟩ ⟨rfl, trivial⟩ rfl
  refine HQ.pu Pu.move ⟨rfl, trivial⟩ rfl rfl rfl ?_
  obtain ⟨c17, h18, H⟩ := bnd H
  refine HQ.cutAt 4 [(24, .bool c17), (2, .bool false)] [(1, Box b1 [.int .i64 p0.X0, .int .i64 p0.Y0, .int .i64 p0.X1, .int .i64 p0.Y1])] ?_ ?_
  · clear H
    have H := h18
    rcases brk H with ⟨hg14, H⟩ | ⟨hg14, H⟩
    · refine HQ.on rfl rfl hg14 ?_
      refine HQ.pu (Pu.fieldB fo133_3 rfl) ⟨rfl, trivial⟩ rfl rfl rfl ?_
      refine HQ.on rfl rfl hg14 ?_
      refine HQ.op [1] [1] (OT.loadB sc3 rfl) ⟨rfl, trivial⟩ ⟨rfl, trivial⟩ rfl rfl rfl rfl (fun _ => rfl) fun _ => ?_
      refine HQ.on rfl rfl hg14 ?_
      obtain ⟨t15, h16, H⟩ := bnd H
      refine HQ.op [] [] (OT.call (us := [_, _, _]) (Pre := []) [.tmp 22, .const (.int .i64 0), .const (.int .i64 255)] Try.call60 rfl rfl fun w F hs hF hp => impl_in_c h16) ⟨rfl, rfl, rfl, rfl, trivial⟩ trivial rfl rfl rfl rfl (fun _ => rfl) fun _ => ?_
      obtain rfl := Option.some.inj H
      refine HQ.pu (Pu.pickC1 hg14) ⟨rfl, rfl, trivial⟩ rfl rfl rfl ?_
      exact HQ.mid ⟨rfl, rfl, trivial⟩ ⟨rfl, trivial⟩ rfl
    · obtain rfl := Option.some.inj H
      refine HQ.off rfl rfl hg14 rfl ?_
      refine HQ.off rfl rfl hg14 rfl ?_
      refine HQ.off rfl rfl hg14 rfl ?_
      refine HQ.pu (Pu.pickC0 hg14) ⟨rfl, rfl, trivial⟩ rfl rfl rfl ?_
      exact HQ.mid ⟨rfl, rfl, trivial⟩ ⟨rfl, trivial⟩ rfl
  refine HQ.pu Pu.assign ⟨rfl, trivial⟩ rfl rfl rfl ?_
  refine HQ.done ?_
  refine HQ.keep [(2, _)] ⟨rfl, trivial⟩ ?_
  refine HQ.ret ?_
  obtain rfl := Option.some.inj H
  exact HQ.fin (vs := [_]) Try.results97 () ⟨rfl, trivial⟩ rfl [] trivial rfl

/-! impl.EntryAt$1 -/
theorem impl_EntryAt_1_c {w : World} {p0 : TEntry} {q0 : Int} {β_q0 : Nat} {F0 : Fp} (hs0 : Sat [Box β_q0 [.int .i64 q0]] w.heap F0) (hF0 : ∀ b, F0 b → b < w.heap.size)  {r : Bool × Int} (H : impl_EntryAt_1 p0 q0 = some r) :
    Calls Try.prog 112 #[.agg #[.int .i64 p0.N, .int .i64 p0.R.X0, .int .i64 p0.R.Y0, .int .i64 p0.R.X1, .int .i64 p0.R.Y1], BP β_q0 0] w (Rt w F0 (fun _ : Unit => .bool r.1) (fun _ => [Box β_q0 [.int .i64 r.2]])) := by
  rw [impl_EntryAt_1] at H
  refine Calls.enter (N := 8) (us := [_, _]) (F0 := F0) (Γ0 := [(1, Box β_q0 [.int .i64 q0])]) Try.func112 rfl rfl rfl hs0 hF0 ?_
  refine HQ.rseq ?_
  refine HQ.op [] [2] (OT.box (cs := [.int .i64 p0.N, .int .i64 p0.R.X0, .int .i64 p0.R.Y0, .int .i64 p0.R.X1, .int .i64 p0.R.Y1]) rfl) ⟨rfl, trivial⟩ trivial rfl rfl rfl rfl (fun _ => rfl) fun b1 => ?_
  refine HQ.pu Pu.assign ⟨rfl, trivial⟩ rfl rfl rfl ?_
  refine HQ.done ?_
  refine HQ.keep [(1, _), (2, _), (3, _)] ⟨rfl, rfl, rfl, trivial⟩ ?_
  refine HQ.rseq ?_
  refine HQ.pu (Pu.fieldB fo135_0 rfl) ⟨rfl, trivial⟩ rfl rfl rfl ?_
  refine HQ.op [2] [2] (OT.loadB sc3 rfl) ⟨rfl, trivial⟩ ⟨rfl, trivial⟩ rfl rfl rfl rfl (fun _ => rfl) fun _ => ?_
  refine HQ.op [1] [1] (OT.loadB sc3 rfl) ⟨rfl, trivial⟩ ⟨rfl, trivial⟩ rfl rfl rfl rfl (fun _ => rfl) fun _ => ?_
  refine HQ.pu Pu.eql ⟨rfl, rfl, trivial⟩ rfl rfl rfl ?_
  refine HQ.pu Pu.assign ⟨rfl, trivial⟩ rfl rfl rfl ?_
  refine HQ.done ?_
  refine HQ.keep [(3, _)] ⟨rfl, trivial⟩ ?_
  refine HQ.ret ?_
  obtain rfl := Option.some.inj H
  exact HQ.fin (vs := [_]) Try.results112 () ⟨rfl, trivial⟩ rfl [1] ⟨rfl, trivial⟩ rfl

/-! slices.IndexFunc(()impl.Entry,impl.Entry) -/
theorem slices_IndexFunc_impl_Entry_impl_Entry_impl_EntryAt_1_c {w : World} {k : Nat} {p0 : (List TEntry)} {p1_0 : Int} {a_0 : Option Addr} {c_0 : Nat} {β_1_0 : Nat} {F0 : Fp} (hs0 : Sat [Box β_1_0 [.int .i64 p1_0]] w.heap F0) (hF0 : ∀ b, F0 b → b < w.heap.size) (hb_0 : BorS kTEntry a_0 c_0 p0 w.heap (Lt w F0)) {r : Int × Int} (H : slices_IndexFunc_impl_Entry_impl_Entry_impl_EntryAt_1 k p0 p1_0 = some r) :
    Calls Try.prog 111 #[.slice a_0 (List.length p0) c_0, .func (.func 112) #[] #[BP β_1_0 0]] w (Rt w F0 (fun _ : Unit => .int .i64 r.1) (fun _ => [Box β_1_0 [.int .i64 r.2]])) := by
  rw [slices_IndexFunc_impl_Entry_impl_Entry_impl_EntryAt_1] at H
  refine Calls.enter (N := 19) (us := [_, _]) (F0 := F0) (Γ0 := [(1, Box β_1_0 [.int .i64 p1_0])]) Try.func111 rfl rfl rfl hs0 hF0 ?_
  refine HQ.rseq ?_
  refine HQ.pu Pu.assign ⟨rfl, trivial⟩ rfl rfl rfl ?_
  refine HQ.done ?_
  refine HQ.keep [(0, _), (1, _), (4, _)] ⟨rfl, rfl, rfl, trivial⟩ ?_
  refine HQ.seq ?_
  refine HQ.rseq ?_
  refine HQ.pu Pu.move ⟨rfl, trivial⟩ rfl rfl rfl ?_
  refine HQ.pu (Pu.len ul56) ⟨rfl, trivial⟩ rfl rfl rfl ?_
  refine HQ.pu Pu.move ⟨rfl, trivial⟩ rfl rfl rfl ?_
  refine HQ.done ?_
  refine HQ.keep [(0, _), (1, _), (4, _), (7, _), (8, _)] ⟨rfl, rfl, rfl, rfl, rfl, trivial⟩ ?_
  refine HQ.block ?_
  obtain ⟨o12, h15, H⟩ := bnd H
  refine HQ.loop h15 0 (fun (s : Int × Int) (g : Unit) => match s, g with | (i4, i5), () => [(0, .slice a_0 (List.length p0) c_0), (1, .func (.func 112) #[] #[BP β_1_0 0]), (4, .int .i64 0), (7, .int .i64 ((List.length p0 : Nat) : Int)), (8, .int .i64 i4)]) (fun (s : Int × Int) (g : Unit) => match s, g with | (i4, i5), () => [(1, Box β_1_0 [.int .i64 i5])]) (fun r => bodyPost Try.prog Try.f111 (Rt w F0 (fun _ : Unit => .int .i64 r.1) (fun _ => [Box β_1_0 [.int .i64 r.2]])) .ret) () ⟨rfl, rfl, rfl, rfl, rfl, trivial⟩ ⟨rfl, trivial⟩ rfl ?_ ?_ ?_
  · clear H h15
    rintro ⟨i4, i5⟩ _ o H
    rw [slices_IndexFunc_impl_Entry_impl_Entry_impl_EntryAt_1_b0] at H
    refine HQ.keep [(0, _), (1, _), (4, _), (7, _), (8, _)] ⟨rfl, rfl, rfl, rfl, rfl, trivial⟩ ?_
    refine HQ.keepR [(1, _)] ⟨rfl, trivial⟩ rfl ?_
    refine HQ.rseq ?_
    refine HQ.pu Pu.lss ⟨rfl, rfl, trivial⟩ rfl rfl rfl ?_
    refine HQ.done ?_
    refine HQ.keep [(0, _), (1, _), (4, _), (7, _), (8, _), (9, _)] ⟨rfl, rfl, rfl, rfl, rfl, rfl, trivial⟩ ?_
    refine HQ.seq ?_
    rcases brk H with ⟨hc, H⟩ | ⟨hc, H⟩
    · refine HQ.condT rfl hc ?_
      clear hc
      refine HQ.skipThen ?_
      refine HQ.seq ?_
      refine HQ.block ?_
      refine HQ.rseq ?_
      refine HQ.pu Pu.move ⟨rfl, trivial⟩ rfl rfl rfl ?_
      refine HQ.pu Pu.assign ⟨rfl, trivial⟩ rfl rfl rfl ?_
      refine HQ.done ?_
      refine HQ.keep [(0, _), (1, _), (4, _), (7, _), (8, _), (9, _), (10, _), (5, _)] ⟨rfl, rfl, rfl, rfl, rfl, rfl, rfl, rfl, trivial⟩ ?_
      refine HQ.rseq ?_
      refine HQ.pu Pu.move ⟨rfl, trivial⟩ rfl rfl rfl ?_
      refine HQ.pu Pu.move ⟨rfl, trivial⟩ rfl rfl rfl ?_
      refine HQ.pu Pu.move ⟨rfl, trivial⟩ rfl rfl rfl ?_
      obtain ⟨h9, H⟩ := asr H
      refine HQ.op [] [] (OT.indexB ul56 sz135 hb_0 h9) ⟨rfl, rfl, trivial⟩ trivial rfl rfl rfl rfl (fun _ => rfl) fun _ => ?_
      refine HQ.op [] [] (OT.loadFA (vs := [.int .i64 ((gt p0 i4).N), .int .i64 ((gt p0 i4).R.X0), .int .i64 ((gt p0 i4).R.Y0), .int .i64 ((gt p0 i4).R.X1), .int .i64 ((gt p0 i4).R.Y1)]) ag135 sz135 hb_0 h9 rfl rfl) ⟨rfl, trivial⟩ trivial rfl rfl rfl rfl (fun _ => rfl) fun _ => ?_
      obtain ⟨t10, h11, H⟩ := bnd H
      refine HQ.op [1] [1] (OT.callV (us := [.agg #[.int .i64 ((gt p0 i4).N), .int .i64 ((gt p0 i4).R.X0), .int .i64 ((gt p0 i4).R.Y0), .int .i64 ((gt p0 i4).R.X1), .int .i64 ((gt p0 i4).R.Y1)]]) (cap := #[BP β_1_0 0]) (all := #[.agg #[.int .i64 ((gt p0 i4).N), .int .i64 ((gt p0 i4).R.X0), .int .i64 ((gt p0 i4).R.Y0), .int .i64 ((gt p0 i4).R.X1), .int .i64 ((gt p0 i4).R.Y1)], BP β_1_0 0]) (PreX := [Box β_1_0 [.int .i64 i5]]) (PreL := []) [.tmp 15] Try.call112 rfl rfl rfl fun w FX FL hs1 hF1 hs2 hF2 hp => impl_EntryAt_1_c hs1 hF1 h11) ⟨rfl, rfl, trivial⟩ ⟨rfl, trivial⟩ rfl rfl rfl rfl (fun _ => rfl) fun _ => ?_
      refine HQ.done ?_
      refine HQ.keep [(0, _), (1, _), (4, _), (7, _), (8, _), (9, _), (10, _), (5, _), (11, _), (12, _), (13, _), (14, _), (15, _), (16, _)] ⟨rfl, rfl, rfl, rfl, rfl, rfl, rfl, rfl, rfl, rfl, rfl, rfl, rfl, rfl, trivial⟩ ?_
      rcases brk H with ⟨hc, H⟩ | ⟨hc, H⟩
      · refine HQ.condT rfl hc ?_
        clear hc
        refine HQ.rseq ?_
        refine HQ.pu Pu.move ⟨rfl, trivial⟩ rfl rfl rfl ?_
        refine HQ.pu Pu.assign ⟨rfl, trivial⟩ rfl rfl rfl ?_
        refine HQ.done ?_
        refine HQ.keep [(0, _), (1, _), (4, _), (7, _), (8, _), (9, _), (10, _), (5, _), (11, _), (12, _), (13, _), (14, _), (15, _), (16, _), (17, _)] ⟨rfl, rfl, rfl, rfl, rfl, rfl, rfl, rfl, rfl, rfl, rfl, rfl, rfl, rfl, rfl, trivial⟩ ?_
        refine HQ.ret ?_
        refine HQ.blkR ?_
        refine HQ.thenR ?_
        obtain rfl := Option.some.inj H
        refine HQ.retL ?_
        exact HQ.fin (vs := [_]) Try.results111 () ⟨rfl, trivial⟩ rfl [1] ⟨rfl, trivial⟩ rfl
      · refine HQ.condF rfl hc ?_
        clear hc
        refine HQ.skip ?_
        refine HQ.blkN ?_
        refine HQ.thenN ?_
        refine HQ.regionQ ?_
        refine HQ.pu Pu.add ⟨rfl, rfl, trivial⟩ rfl rfl rfl ?_
        refine HQ.pu Pu.move ⟨rfl, trivial⟩ rfl rfl rfl ?_
        refine HQ.done ?_
        refine HQ.keep [(0, _), (1, _), (4, _), (7, _), (8, _), (9, _), (10, _), (5, _), (11, _), (12, _), (13, _), (14, _), (15, _), (16, _), (18, _)] ⟨rfl, rfl, rfl, rfl, rfl, rfl, rfl, rfl, rfl, rfl, rfl, rfl, rfl, rfl, rfl, trivial⟩ ?_
        obtain rfl := Option.some.inj H
        exact HQ.next () ⟨rfl, rfl, rfl, rfl, rfl, trivial⟩ ⟨rfl, trivial⟩ rfl
    · refine HQ.condF rfl hc ?_
      clear hc
      refine HQ.exit ?_
      refine HQ.thenE ?_
      obtain rfl := Option.some.inj H
      exact HQ.out () ⟨rfl, rfl, rfl, rfl, rfl, trivial⟩ ⟨rfl, trivial⟩ rfl
  · rintro ⟨i13, i14⟩ rfl _
    clear h15
    replace H := H
    refine HQ.keep [(0, _), (1, _), (4, _), (7, _), (8, _)] ⟨rfl, rfl, rfl, rfl, rfl, trivial⟩ ?_
    refine HQ.keepR [(1, _)] ⟨rfl, trivial⟩ rfl ?_
    refine HQ.blkE ?_
    refine HQ.thenN ?_
    refine HQ.rseq ?_
    refine HQ.pu Pu.assign ⟨rfl, trivial⟩ rfl rfl rfl ?_
    refine HQ.done ?_
    refine HQ.keep [(4, _)] ⟨rfl, trivial⟩ ?_
    refine HQ.ret ?_
    obtain rfl := Option.some.inj H
    exact HQ.fin (vs := [_]) Try.results111 () ⟨rfl, trivial⟩ rfl [1] ⟨rfl, trivial⟩ rfl
  · rintro r rfl a w hr
    obtain rfl := Option.some.inj H
    exact hr

/-! impl.EntryAt -/
theorem impl_EntryAt_c {w : World} {k : Nat} {p0 : (List TEntry)} {p1 : Int} {a_0 : Option Addr} {c_0 : Nat} (hb_0 : BorS kTEntry a_0 c_0 p0 w.heap (Lt w Nil)) {r : Int} (H : impl_EntryAt k p0 p1 = some r) :
    Calls Try.prog 98 #[.slice a_0 (List.length p0) c_0, .int .i64 p1] w (Rt w Nil (fun _ : Unit => .int .i64 r) (fun _ => [])) := by
  rw [impl_EntryAt] at H
  refine Calls.enter0 (N := 8) (us := [_, _]) Try.func98 rfl rfl rfl ?_
  refine HQ.rseq ?_
  refine HQ.op [] [1] (OT.box (cs := [.int .i64 p1]) rfl) ⟨rfl, trivial⟩ trivial rfl rfl rfl rfl (fun _ => rfl) fun b1 => ?_
  refine HQ.pu Pu.assign ⟨rfl, trivial⟩ rfl rfl rfl ?_
  refine HQ.done ?_
  refine HQ.keep [(0, _), (3, _), (4, _)] ⟨rfl, rfl, rfl, trivial⟩ ?_
  refine HQ.rseq ?_
  refine HQ.pu Pu.move ⟨rfl, trivial⟩ rfl rfl rfl ?_
  refine HQ.pu (Pu.makeFunc (us := [BP b1 0]) [.tmp 3] rfl rfl) ⟨rfl, trivial⟩ rfl rfl rfl ?_
  obtain ⟨t2, h3, H⟩ := bnd H
  refine HQ.op [1] [1] (OT.callM (us := [_, _]) (PreX := [Box b1 [.int .i64 p1]]) (PreL := []) [.tmp 5, .tmp 6] Try.call111 rfl rfl fun w FX FL hs1 hF1 hs2 hF2 hp => slices_IndexFunc_impl_Entry_impl_Entry_impl_EntryAt_1_c hs1 hF1 (hb_0.passY hp) h3) ⟨rfl, rfl, rfl, trivial⟩ ⟨rfl, trivial⟩ rfl rfl rfl rfl (fun _ => rfl) fun _ => ?_
  refine HQ.pu Pu.assign ⟨rfl, trivial⟩ rfl rfl rfl ?_
  refine HQ.done ?_
  refine HQ.keep [(4, _)] ⟨rfl, trivial⟩ ?_
  refine HQ.ret ?_
  obtain rfl := Option.some.inj H
  exact HQ.fin (vs := [_]) Try.results98 () ⟨rfl, trivial⟩ rfl [] trivial rfl

end Go.Proofs.Sx
