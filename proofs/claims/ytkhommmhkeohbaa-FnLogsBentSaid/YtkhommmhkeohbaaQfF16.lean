import Derived.Test.YtkhommmhkeohbaaQfF15
import Derived.KernelRfl
namespace Go.Proofs.Sx
open Go.RowKit
set_option linter.unusedVariables false
set_option linter.unusedSimpArgs false
set_option maxRecDepth 20000
set_option maxHeartbeats 1000000
theorem laws_FnLogsBent_c {w : World} {k : Nat} {p0 : (List Int)} {a_0 : Option Addr} {c_0 : Nat} (hb_0 : BorS kU8 a_0 c_0 p0 w.heap (Lt w Nil)) {r : Bool} (H : laws_FnLogsBent k p0 = some r) :
  Calls Try.prog 8 #[vS a_0 p0 c_0] w (Rt w Nil (fun _ : Unit => .bool r) (fun _ => [])) := by
 rw [laws_FnLogsBent] at H
 refine Calls.enter0 (N := 133) (us := [_]) Try.func8 rfl rfl rfl ?_
 refine HQ.rseq ?_
 refine pu Pu.assign z1 z3 ?_
 refine HQ.done ?_
 refine HQ.keep [(0, _), (2, _)] z2 ?_
 refine HQ.seq ?_
 refine HQ.rseq ?_
 refine pu Pu.move z1 z3 ?_
 obtain ⟨t1, h2, H⟩ := bnd H
 refine op [] [] (OT.call (us := [_]) (Pre := []) [.tmp 25] Try.call9 rfl rfl fun w F hs hF hp => laws_big_c h2) z2 trivial z4 (fun _ => rfl) fun _ => ?_
 refine HQ.done ?_
 refine HQ.keep [(0, _), (2, _), (26, _)] z3 ?_
 rcases brk H with ⟨hc, H⟩ | ⟨hc, H⟩
 ·refine HQ.condT rfl hc ?_
  clear hc
  refine HQ.rseq ?_
  refine pu Pu.assign z1 z3 ?_
  refine HQ.done ?_
  refine HQ.keep [(0, _), (2, _)] z2 ?_
  refine HQ.ret ?_
  refine HQ.thenR ?_
  obtain rfl := Option.some.inj H
  exact HQ.fin (vs := [_]) Try.results8 () z1 rfl [] trivial rfl
 ·refine HQ.condF rfl hc ?_
  clear hc
  refine HQ.skipThen ?_
  refine HQ.rseq ?_
  refine pu Pu.move z1 z3 ?_
  obtain ⟨t3, h4, H⟩ := bnd H
  refine op [] [1, 2, 3] (OT.call (us := [_]) (Pre := []) [.tmp 28] Try.call67 rfl rfl fun w F hs hF hp => spec_DrawAppend_c (hb_0.pass hp) h4) z2 trivial z4 (fun _ => rfl) fun ⟨⟨a5, c6⟩, ⟨a7, c8⟩, ⟨a9, c10⟩⟩ => ?_
  refine pu Pu.move z1 z3 ?_
  refine pu (Pu.extract rfl) z1 z3 ?_
  refine pu (Pu.extract rfl) z1 z3 ?_
  refine pu (Pu.extract rfl) z1 z3 ?_
  refine pu (Pu.extract rfl) z1 z3 ?_
  refine op [] [4] (OT.alloc zc27) trivial trivial z4 (fun _ => rfl) fun b11 => ?_
  refine op [] [5] (OT.alloc zc57) trivial trivial z4 (fun _ => rfl) fun b12 => ?_
  refine HQ.opN [4] [4] [] (OT.storeC (cs' := [vS a5 t3.1.Cells c6, vS a7 t3.1.Wet c8, vI t3.1.Fuse, .bool t3.1.Dead]) sz27 rfl rfl rfl rfl rfl) z2 z1 rfl rfl rfl (fun _ => rfl) fun _ => ?_
  refine pu Pu.assign z1 z3 ?_
  refine pu Pu.assign z1 z3 ?_
  refine HQ.opN [5] [5] [] (OT.storeC (cs' := [vI t3.2.2.2.Seq, vI t3.2.2.2.Root, vI t3.2.2.2.Size, vS a9 t3.2.2.2.Puts c10]) sz57 rfl rfl rfl rfl rfl) z2 z1 rfl rfl rfl (fun _ => rfl) fun _ => ?_
  refine HQ.done ?_
  refine HQ.keep [(0, _), (2, _), (3, _), (6, _), (4, _), (5, _)] z6 ?_
  refine HQ.rseq ?_
  refine op [4] [4] (OT.loadBA (vs := [vS a5 t3.1.Cells c6, vS a7 t3.1.Wet c8, vI t3.1.Fuse, .bool t3.1.Dead]) ag27 sz27 rfl rfl) z1 z1 z4 (fun _ => rfl) fun _ => ?_
  refine pu Pu.move z1 z3 ?_
  refine pu Pu.move z1 z3 ?_
  refine op [5] [5] (OT.loadBA (vs := [vI t3.2.2.2.Seq, vI t3.2.2.2.Root, vI t3.2.2.2.Size, vS a9 t3.2.2.2.Puts c10]) ag57 sz57 rfl rfl) z1 z1 z4 (fun _ => rfl) fun _ => ?_
  obtain ⟨t13, h14, H⟩ := bnd H
  refine op [1, 2, 3] [6, 7, 1, 2, 3] (OT.call (us := [_, _, _, _]) (Pre := [OwnS kTCell a5 c6 t3.1.Cells, OwnS kTWet a7 c8 t3.1.Wet, OwnS kTChange a9 c10 t3.2.2.2.Puts]) [.tmp 35, .tmp 36, .tmp 37, .tmp 38] Try.call68 rfl rfl fun w F hs hF hp => impl_Append_c (p0 := t3.1) (p1 := t3.2.1) (p2 := t3.2.2.1) (p3 := t3.2.2.2) (hs.lend hF 0 rfl) (hs.lend hF 1 rfl) (hs.lend hF 2 rfl) h14) z5 z3 z4 (fun _ => rfl) fun ⟨⟨a15, c16⟩, ⟨a17, c18⟩⟩ => ?_
  refine pu Pu.move z1 z3 ?_
  refine pu (Pu.extract rfl) z1 z3 ?_
  refine pu (Pu.extract rfl) z1 z3 ?_
  refine op [] [8] (OT.alloc zc27) trivial trivial z4 (fun _ => rfl) fun b19 => ?_
  refine HQ.opN [8] [8] [] (OT.storeC (cs' := [vS a15 t13.1.Cells c16, vS a17 t13.1.Wet c18, vI t13.1.Fuse, .bool t13.1.Dead]) sz27 rfl rfl rfl rfl rfl) z2 z1 rfl rfl rfl (fun _ => rfl) fun _ => ?_
  refine pu Pu.assign z1 z3 ?_
  refine HQ.done ?_
  refine HQ.keep [(0, _), (2, _), (3, _), (6, _), (4, _), (5, _), (7, _), (8, _)] z8 ?_
  refine HQ.rseq ?_
  refine op [4] [4] (OT.loadBA (vs := [vS a5 t3.1.Cells c6, vS a7 t3.1.Wet c8, vI t3.1.Fuse, .bool t3.1.Dead]) ag27 sz27 rfl rfl) z1 z1 z4 (fun _ => rfl) fun _ => ?_
  refine pu Pu.move z1 z3 ?_
  refine pu Pu.move z1 z3 ?_
  refine op [5] [5] (OT.loadBA (vs := [vI t3.2.2.2.Seq, vI t3.2.2.2.Root, vI t3.2.2.2.Size, vS a9 t3.2.2.2.Puts c10]) ag57 sz57 rfl rfl) z1 z1 z4 (fun _ => rfl) fun _ => ?_
  obtain ⟨t20, h21, H⟩ := bnd H
  refine op [1, 2, 3] [9, 10, 1, 2, 3] (OT.call (us := [_, _, _, _]) (Pre := [OwnS kTCell a5 c6 t3.1.Cells, OwnS kTWet a7 c8 t3.1.Wet, OwnS kTChange a9 c10 t3.2.2.2.Puts]) [.tmp 43, .tmp 44, .tmp 45, .tmp 46] Try.call69 rfl rfl fun w F hs hF hp => spec_Append_c (p0 := t3.1) (p1 := t3.2.1) (p2 := t3.2.2.1) (p3 := t3.2.2.2) (hs.lend hF 0 rfl) (hs.lend hF 1 rfl) (hs.lend hF 2 rfl) h21) z5 z3 z4 (fun _ => rfl) fun ⟨⟨a22, c23⟩, ⟨a24, c25⟩⟩ => ?_
  refine pu Pu.move z1 z3 ?_
  refine pu (Pu.extract rfl) z1 z3 ?_
  refine pu (Pu.extract rfl) z1 z3 ?_
  refine op [] [11] (OT.alloc zc27) trivial trivial z4 (fun _ => rfl) fun b26 => ?_
  refine HQ.opN [11] [11] [] (OT.storeC (cs' := [vS a22 t20.1.Cells c23, vS a24 t20.1.Wet c25, vI t20.1.Fuse, .bool t20.1.Dead]) sz27 rfl rfl rfl rfl rfl) z2 z1 rfl rfl rfl (fun _ => rfl) fun _ => ?_
  refine pu Pu.assign z1 z3 ?_
  refine HQ.done ?_
  refine HQ.keep [(0, _), (2, _), (3, _), (7, _), (8, _), (9, _), (10, _)] z7 ?_
  refine HQ.rseq ?_
  refine pu Pu.move z1 z3 ?_
  obtain ⟨t27, h28, H⟩ := bnd H
  refine op [] [12, 13] (OT.call (us := [_]) (Pre := []) [.tmp 51] Try.call70 rfl rfl fun w F hs hF hp => spec_DrawReadLog_c (hb_0.pass hp) h28) z2 trivial z4 (fun _ => rfl) fun ⟨⟨a29, c30⟩, ⟨a31, c32⟩⟩ => ?_
  refine pu Pu.move z1 z3 ?_
  refine pu (Pu.extract rfl) z1 z3 ?_
  refine pu (Pu.extract rfl) z1 z3 ?_
  refine pu (Pu.extract rfl) z1 z3 ?_
  refine op [] [14] (OT.alloc zc27) trivial trivial z4 (fun _ => rfl) fun b33 => ?_
  refine HQ.opN [14] [14] [] (OT.storeC (cs' := [vS a29 t27.1.Cells c30, vS a31 t27.1.Wet c32, vI t27.1.Fuse, .bool t27.1.Dead]) sz27 rfl rfl rfl rfl rfl) z2 z1 rfl rfl rfl (fun _ => rfl) fun _ => ?_
  refine pu Pu.assign z1 z3 ?_
  refine pu Pu.assign z1 z3 ?_
  refine HQ.done ?_
  refine HQ.keep [(0, _), (2, _), (3, _), (7, _), (8, _), (9, _), (10, _), (11, _), (12, _), (13, _)] z10 ?_
  refine HQ.rseq ?_
  refine op [14] [14] (OT.loadBA (vs := [vS a29 t27.1.Cells c30, vS a31 t27.1.Wet c32, vI t27.1.Fuse, .bool t27.1.Dead]) ag27 sz27 rfl rfl) z1 z1 z4 (fun _ => rfl) fun _ => ?_
  refine pu Pu.move z1 z3 ?_
  refine pu Pu.move z1 z3 ?_
  obtain ⟨t34, h35, H⟩ := bnd H
  refine op [12, 13] [15, 12, 13] (OT.call (us := [_, _, _]) (Pre := [OwnS kTCell a29 c30 t27.1.Cells, OwnS kTWet a31 c32 t27.1.Wet]) [.tmp 57, .tmp 58, .tmp 59] Try.call55 rfl rfl fun w F hs hF hp => impl_ReadLog_c (hs.lend hF 0 rfl) (hs.lend hF 1 rfl) h35) z4 z2 z4 (fun _ => rfl) fun ⟨a36, c37⟩ => ?_
  refine pu Pu.move z1 z3 ?_
  refine pu (Pu.extract rfl) z1 z3 ?_
  refine pu (Pu.extract rfl) z1 z3 ?_
  refine pu Pu.assign z1 z3 ?_
  refine pu Pu.assign z1 z3 ?_
  refine HQ.done ?_
  refine HQ.keep [(0, _), (2, _), (3, _), (7, _), (8, _), (9, _), (10, _), (11, _), (12, _), (13, _), (14, _), (15, _)] z12 ?_
  refine HQ.rseq ?_
  refine op [14] [14] (OT.loadBA (vs := [vS a29 t27.1.Cells c30, vS a31 t27.1.Wet c32, vI t27.1.Fuse, .bool t27.1.Dead]) ag27 sz27 rfl rfl) z1 z1 z4 (fun _ => rfl) fun _ => ?_
  refine pu Pu.move z1 z3 ?_
  refine pu Pu.move z1 z3 ?_
  obtain ⟨t38, h39, H⟩ := bnd H
  refine op [12, 13] [16, 12, 13] (OT.call (us := [_, _, _]) (Pre := [OwnS kTCell a29 c30 t27.1.Cells, OwnS kTWet a31 c32 t27.1.Wet]) [.tmp 64, .tmp 65, .tmp 66] Try.call71 rfl rfl fun w F hs hF hp => spec_ReadLog_c (hs.lend hF 0 rfl) (hs.lend hF 1 rfl) h39) z4 z2 z4 (fun _ => rfl) fun ⟨a40, c41⟩ => ?_
  refine pu Pu.move z1 z3 ?_
  refine pu (Pu.extract rfl) z1 z3 ?_
  refine pu (Pu.extract rfl) z1 z3 ?_
  refine pu Pu.assign z1 z3 ?_
  refine pu Pu.assign z1 z3 ?_
  refine HQ.done ?_
  refine HQ.keep [(0, _), (2, _), (3, _), (7, _), (8, _), (9, _), (10, _), (14, _), (15, _), (16, _), (17, _)] z11 ?_
  refine HQ.rseq ?_
  refine pu Pu.move z1 z3 ?_
  obtain ⟨t42, h43, H⟩ := bnd H
  refine op [] [17] (OT.call (us := [_]) (Pre := []) [.tmp 71] Try.call72 rfl rfl fun w F hs hF hp => spec_DrawLastOf_c (hb_0.pass hp) h43) z2 trivial z4 (fun _ => rfl) fun ⟨a44, c45⟩ => ?_
  refine pu Pu.move z1 z3 ?_
  refine pu (Pu.extract rfl) z1 z3 ?_
  refine pu (Pu.extract rfl) z1 z3 ?_
  refine pu Pu.assign z1 z3 ?_
  refine pu Pu.assign z1 z3 ?_
  refine HQ.done ?_
  refine HQ.keep [(0, _), (2, _), (3, _), (7, _), (8, _), (9, _), (10, _), (14, _), (15, _), (16, _), (17, _), (18, _), (19, _)] z13 ?_
  refine HQ.rseq ?_
  refine pu Pu.move z1 z3 ?_
  refine pu Pu.move z1 z3 ?_
  obtain ⟨t46, h47, H⟩ := bnd H
  refine op [17] [18, 17] (OT.call (us := [_, _]) (Pre := [OwnS kTTx a44 c45 t42.1]) [.tmp 76, .tmp 77] Try.call58 rfl rfl fun w F hs hF hp => impl_LastOf_c (hs.lend hF 0 rfl) h47) z3 z1 z4 (fun _ => rfl) fun ⟨a48, c49⟩ => ?_
  refine pu Pu.move z1 z3 ?_
  refine pu (Pu.extract rfl) z1 z3 ?_
  refine pu (Pu.extract rfl) z1 z3 ?_
  refine op [] [19] (OT.alloc zc47) trivial trivial z4 (fun _ => rfl) fun b50 => ?_
  refine HQ.opN [19] [19] [] (OT.storeC (cs' := [.bool t46.1.Leaf, vS a48 t46.1.L c49]) sz47 rfl rfl rfl rfl rfl) z2 z1 rfl rfl rfl (fun _ => rfl) fun _ => ?_
  refine pu Pu.assign z1 z3 ?_
  refine HQ.done ?_
  refine HQ.keep [(0, _), (2, _), (3, _), (7, _), (8, _), (9, _), (10, _), (14, _), (15, _), (16, _), (17, _), (18, _), (19, _), (20, _), (21, _)] z15 ?_
  refine HQ.rseq ?_
  refine pu Pu.move z1 z3 ?_
  refine pu Pu.move z1 z3 ?_
  obtain ⟨t51, h52, H⟩ := bnd H
  refine op [17] [20, 17] (OT.call (us := [_, _]) (Pre := [OwnS kTTx a44 c45 t42.1]) [.tmp 82, .tmp 83] Try.call73 rfl rfl fun w F hs hF hp => spec_LastOf_c (hs.lend hF 0 rfl) h52) z3 z1 z4 (fun _ => rfl) fun ⟨a53, c54⟩ => ?_
  refine pu Pu.move z1 z3 ?_
  refine pu (Pu.extract rfl) z1 z3 ?_
  refine pu (Pu.extract rfl) z1 z3 ?_
  refine op [] [21] (OT.alloc zc47) trivial trivial z4 (fun _ => rfl) fun b55 => ?_
  refine HQ.opN [21] [21] [] (OT.storeC (cs' := [.bool t51.1.Leaf, vS a53 t51.1.L c54]) sz47 rfl rfl rfl rfl rfl) z2 z1 rfl rfl rfl (fun _ => rfl) fun _ => ?_
  refine pu Pu.assign z1 z3 ?_
  refine HQ.done ?_
  refine HQ.keep [(0, _), (2, _), (3, _), (7, _), (8, _), (9, _), (10, _), (14, _), (15, _), (16, _), (17, _), (20, _), (21, _), (22, _), (23, _)] z15 ?_
  refine HQ.rseq ?_
  refine pu Pu.move z1 z3 ?_
  obtain ⟨t56, h57, H⟩ := bnd H
  refine op [] [22] (OT.call (us := [_]) (Pre := []) [.tmp 87] Try.call74 rfl rfl fun w F hs hF hp => spec_DrawChangedBy_c (hb_0.pass hp) h57) z2 trivial z4 (fun _ => rfl) fun ⟨a58, c59⟩ => ?_
  refine pu Pu.assign z1 z3 ?_
  refine HQ.done ?_
  refine HQ.keep [(2, _), (3, _), (7, _), (8, _), (9, _), (10, _), (14, _), (15, _), (16, _), (17, _), (20, _), (21, _), (22, _), (23, _), (24, _)] z15 ?_
  refine HQ.rseq ?_
  refine op [8] [8] (OT.loadBA (vs := [vS a15 t13.1.Cells c16, vS a17 t13.1.Wet c18, vI t13.1.Fuse, .bool t13.1.Dead]) ag27 sz27 rfl rfl) z1 z1 z4 (fun _ => rfl) fun _ => ?_
  refine op [11] [11] (OT.loadBA (vs := [vS a22 t20.1.Cells c23, vS a24 t20.1.Wet c25, vI t20.1.Fuse, .bool t20.1.Dead]) ag27 sz27 rfl rfl) z1 z1 z4 (fun _ => rfl) fun _ => ?_
  obtain ⟨t60, h61, H⟩ := bnd H
  refine op [6, 7, 9, 10] [6, 7, 9, 10] (OT.call (us := [_, _]) (Pre := [OwnS kTCell a15 c16 t13.1.Cells, OwnS kTWet a17 c18 t13.1.Wet, OwnS kTCell a22 c23 t20.1.Cells, OwnS kTWet a24 c25 t20.1.Wet]) [.tmp 89, .tmp 90] Try.call19 rfl rfl fun w F hs hF hp => laws_sameDisk_c (p0 := t13.1) (p1 := t20.1) (hs.lend hF 0 rfl) (hs.lend hF 1 rfl) (hs.lend hF 2 rfl) (hs.lend hF 3 rfl) h61) z3 z4 z4 (fun _ => rfl) fun _ => ?_
  refine pu Pu.move z1 z3 ?_
  refine HQ.cutAt 4 [(96, .bool (t60 && (decide (t13.2 = t20.2)))), (2, .bool false), (3, BP b11 0), (7, BP b19 0), (8, vI t13.2), (14, vS a36 t34.1 c37), (15, vI t34.2), (16, vS a40 t38.1 c41), (17, vI t38.2), (20, BP b50 0), (21, .bool t46.2), (22, BP b55 0), (23, .bool t51.2), (24, vS a58 t56 c59)] [(1, OwnS kTCell a5 c6 t3.1.Cells), (2, OwnS kTWet a7 c8 t3.1.Wet), (3, OwnS kTChange a9 c10 t3.2.2.2.Puts), (4, Box b11 [vS a5 t3.1.Cells c6, vS a7 t3.1.Wet c8, vI t3.1.Fuse, .bool t3.1.Dead]), (5, Box b12 [vI t3.2.2.2.Seq, vI t3.2.2.2.Root, vI t3.2.2.2.Size, vS a9 t3.2.2.2.Puts c10]), (6, OwnS kTCell a15 c16 t13.1.Cells), (7, OwnS kTWet a17 c18 t13.1.Wet), (8, Box b19 [vS a15 t13.1.Cells c16, vS a17 t13.1.Wet c18, vI t13.1.Fuse, .bool t13.1.Dead]), (9, OwnS kTCell a22 c23 t20.1.Cells), (10, OwnS kTWet a24 c25 t20.1.Wet), (11, Box b26 [vS a22 t20.1.Cells c23, vS a24 t20.1.Wet c25, vI t20.1.Fuse, .bool t20.1.Dead]), (12, OwnS kTCell a29 c30 t27.1.Cells), (13, OwnS kTWet a31 c32 t27.1.Wet), (14, Box b33 [vS a29 t27.1.Cells c30, vS a31 t27.1.Wet c32, vI t27.1.Fuse, .bool t27.1.Dead]), (15, OwnS kTTx a36 c37 t34.1), (16, OwnS kTTx a40 c41 t38.1), (17, OwnS kTTx a44 c45 t42.1), (18, OwnS kTEntry a48 c49 t46.1.L), (19, Box b50 [.bool t46.1.Leaf, vS a48 t46.1.L c49]), (20, OwnS kTEntry a53 c54 t51.1.L), (21, Box b55 [.bool t51.1.Leaf, vS a53 t51.1.L c54]), (22, OwnS kTTx a58 c59 t56)] ?_ ?_
  ·rcases Bool.eq_false_or_eq_true t60 with hg62 | hg62
   ·refine HQ.on rfl rfl hg62 ?_
    refine pu Pu.move z1 z3 ?_
    refine HQ.on rfl rfl hg62 ?_
    refine pu Pu.move z1 z3 ?_
    refine HQ.on rfl rfl hg62 ?_
    refine pu Pu.eql z2 z3 ?_
    refine pu (Pu.pickAT hg62) z2 z3 ?_
    exact HQ.mid z14 z22 rfl
   ·refine HQ.off rfl rfl hg62 rfl ?_
    refine HQ.off rfl rfl hg62 rfl ?_
    refine HQ.off rfl rfl hg62 rfl ?_
    refine pu (Pu.pickAF (u := (decide (t13.2 = t20.2))) hg62) z2 z3 ?_
    exact HQ.mid z14 z22 rfl
  refine pu Pu.move z1 z3 ?_
  obtain ⟨c66, h67, H⟩ := bnd H
  refine HQ.cutAt 4 [(101, .bool c66), (2, .bool false), (3, BP b11 0), (7, BP b19 0), (8, vI t13.2), (15, vI t34.2), (17, vI t38.2), (20, BP b50 0), (21, .bool t46.2), (22, BP b55 0), (23, .bool t51.2), (24, vS a58 t56 c59)] [(1, OwnS kTCell a5 c6 t3.1.Cells), (2, OwnS kTWet a7 c8 t3.1.Wet), (3, OwnS kTChange a9 c10 t3.2.2.2.Puts), (4, Box b11 [vS a5 t3.1.Cells c6, vS a7 t3.1.Wet c8, vI t3.1.Fuse, .bool t3.1.Dead]), (5, Box b12 [vI t3.2.2.2.Seq, vI t3.2.2.2.Root, vI t3.2.2.2.Size, vS a9 t3.2.2.2.Puts c10]), (6, OwnS kTCell a15 c16 t13.1.Cells), (7, OwnS kTWet a17 c18 t13.1.Wet), (8, Box b19 [vS a15 t13.1.Cells c16, vS a17 t13.1.Wet c18, vI t13.1.Fuse, .bool t13.1.Dead]), (9, OwnS kTCell a22 c23 t20.1.Cells), (10, OwnS kTWet a24 c25 t20.1.Wet), (11, Box b26 [vS a22 t20.1.Cells c23, vS a24 t20.1.Wet c25, vI t20.1.Fuse, .bool t20.1.Dead]), (12, OwnS kTCell a29 c30 t27.1.Cells), (13, OwnS kTWet a31 c32 t27.1.Wet), (14, Box b33 [vS a29 t27.1.Cells c30, vS a31 t27.1.Wet c32, vI t27.1.Fuse, .bool t27.1.Dead]), (15, OwnS kTTx a36 c37 t34.1), (16, OwnS kTTx a40 c41 t38.1), (17, OwnS kTTx a44 c45 t42.1), (18, OwnS kTEntry a48 c49 t46.1.L), (19, Box b50 [.bool t46.1.Leaf, vS a48 t46.1.L c49]), (20, OwnS kTEntry a53 c54 t51.1.L), (21, Box b55 [.bool t51.1.Leaf, vS a53 t51.1.L c54]), (22, OwnS kTTx a58 c59 t56)] ?_ ?_
  ·clear H
   have H := h67
   rcases brk H with ⟨hg63, H⟩ | ⟨hg63, H⟩
   ·refine HQ.on rfl rfl hg63 ?_
    refine pu Pu.move z1 z3 ?_
    refine HQ.on rfl rfl hg63 ?_
    refine pu Pu.move z1 z3 ?_
    refine HQ.on rfl rfl hg63 ?_
    obtain ⟨t64, h65, H⟩ := bnd H
    refine op [15, 16] [15, 16] (OT.call (us := [_, _]) (Pre := [OwnS kTTx a36 c37 t34.1, OwnS kTTx a40 c41 t38.1]) [.tmp 98, .tmp 99] Try.call56 rfl rfl fun w F hs hF hp => laws_sameTxs_c (hs.lend hF 0 rfl) (hs.lend hF 1 rfl) h65) z3 z2 z4 (fun _ => rfl) fun _ => ?_
    obtain rfl := Option.some.inj H
    refine pu (Pu.pickC1 hg63) z2 z3 ?_
    exact HQ.mid z12 z22 rfl
   ·obtain rfl := Option.some.inj H
    refine HQ.off rfl rfl hg63 rfl ?_
    refine HQ.off rfl rfl hg63 rfl ?_
    refine HQ.off rfl rfl hg63 rfl ?_
    refine pu (Pu.pickC0 hg63) z2 z3 ?_
    exact HQ.mid z12 z22 rfl
  refine pu Pu.move z1 z3 ?_
  refine HQ.cutAt 4 [(106, .bool (c66 && (decide (t34.2 = t38.2)))), (2, .bool false), (3, BP b11 0), (7, BP b19 0), (8, vI t13.2), (20, BP b50 0), (21, .bool t46.2), (22, BP b55 0), (23, .bool t51.2), (24, vS a58 t56 c59)] [(1, OwnS kTCell a5 c6 t3.1.Cells), (2, OwnS kTWet a7 c8 t3.1.Wet), (3, OwnS kTChange a9 c10 t3.2.2.2.Puts), (4, Box b11 [vS a5 t3.1.Cells c6, vS a7 t3.1.Wet c8, vI t3.1.Fuse, .bool t3.1.Dead]), (5, Box b12 [vI t3.2.2.2.Seq, vI t3.2.2.2.Root, vI t3.2.2.2.Size, vS a9 t3.2.2.2.Puts c10]), (6, OwnS kTCell a15 c16 t13.1.Cells), (7, OwnS kTWet a17 c18 t13.1.Wet), (8, Box b19 [vS a15 t13.1.Cells c16, vS a17 t13.1.Wet c18, vI t13.1.Fuse, .bool t13.1.Dead]), (9, OwnS kTCell a22 c23 t20.1.Cells), (10, OwnS kTWet a24 c25 t20.1.Wet), (11, Box b26 [vS a22 t20.1.Cells c23, vS a24 t20.1.Wet c25, vI t20.1.Fuse, .bool t20.1.Dead]), (12, OwnS kTCell a29 c30 t27.1.Cells), (13, OwnS kTWet a31 c32 t27.1.Wet), (14, Box b33 [vS a29 t27.1.Cells c30, vS a31 t27.1.Wet c32, vI t27.1.Fuse, .bool t27.1.Dead]), (15, OwnS kTTx a36 c37 t34.1), (16, OwnS kTTx a40 c41 t38.1), (17, OwnS kTTx a44 c45 t42.1), (18, OwnS kTEntry a48 c49 t46.1.L), (19, Box b50 [.bool t46.1.Leaf, vS a48 t46.1.L c49]), (20, OwnS kTEntry a53 c54 t51.1.L), (21, Box b55 [.bool t51.1.Leaf, vS a53 t51.1.L c54]), (22, OwnS kTTx a58 c59 t56)] ?_ ?_
  ·rcases Bool.eq_false_or_eq_true c66 with hg68 | hg68
   ·refine HQ.on rfl rfl hg68 ?_
    refine pu Pu.move z1 z3 ?_
    refine HQ.on rfl rfl hg68 ?_
    refine pu Pu.move z1 z3 ?_
    refine HQ.on rfl rfl hg68 ?_
    refine pu Pu.eql z2 z3 ?_
    refine pu (Pu.pickAT hg68) z2 z3 ?_
    exact HQ.mid z10 z22 rfl
   ·refine HQ.off rfl rfl hg68 rfl ?_
    refine HQ.off rfl rfl hg68 rfl ?_
    refine HQ.off rfl rfl hg68 rfl ?_
    refine pu (Pu.pickAF (u := (decide (t34.2 = t38.2))) hg68) z2 z3 ?_
    exact HQ.mid z10 z22 rfl
  refine pu Pu.move z1 z3 ?_
  obtain ⟨c72, h73, H⟩ := bnd H
  refine HQ.cutAt 4 [(111, .bool c72), (2, .bool false), (3, BP b11 0), (7, BP b19 0), (8, vI t13.2), (21, .bool t46.2), (23, .bool t51.2), (24, vS a58 t56 c59)] [(1, OwnS kTCell a5 c6 t3.1.Cells), (2, OwnS kTWet a7 c8 t3.1.Wet), (3, OwnS kTChange a9 c10 t3.2.2.2.Puts), (4, Box b11 [vS a5 t3.1.Cells c6, vS a7 t3.1.Wet c8, vI t3.1.Fuse, .bool t3.1.Dead]), (5, Box b12 [vI t3.2.2.2.Seq, vI t3.2.2.2.Root, vI t3.2.2.2.Size, vS a9 t3.2.2.2.Puts c10]), (6, OwnS kTCell a15 c16 t13.1.Cells), (7, OwnS kTWet a17 c18 t13.1.Wet), (8, Box b19 [vS a15 t13.1.Cells c16, vS a17 t13.1.Wet c18, vI t13.1.Fuse, .bool t13.1.Dead]), (9, OwnS kTCell a22 c23 t20.1.Cells), (10, OwnS kTWet a24 c25 t20.1.Wet), (11, Box b26 [vS a22 t20.1.Cells c23, vS a24 t20.1.Wet c25, vI t20.1.Fuse, .bool t20.1.Dead]), (12, OwnS kTCell a29 c30 t27.1.Cells), (13, OwnS kTWet a31 c32 t27.1.Wet), (14, Box b33 [vS a29 t27.1.Cells c30, vS a31 t27.1.Wet c32, vI t27.1.Fuse, .bool t27.1.Dead]), (15, OwnS kTTx a36 c37 t34.1), (16, OwnS kTTx a40 c41 t38.1), (17, OwnS kTTx a44 c45 t42.1), (18, OwnS kTEntry a48 c49 t46.1.L), (19, Box b50 [.bool t46.1.Leaf, vS a48 t46.1.L c49]), (20, OwnS kTEntry a53 c54 t51.1.L), (21, Box b55 [.bool t51.1.Leaf, vS a53 t51.1.L c54]), (22, OwnS kTTx a58 c59 t56)] ?_ ?_
  ·clear H
   have H := h73
   rcases brk H with ⟨hg69, H⟩ | ⟨hg69, H⟩
   ·refine HQ.on rfl rfl hg69 ?_
    refine op [19] [19] (OT.loadBA (vs := [.bool t46.1.Leaf, vS a48 t46.1.L c49]) ag47 sz47 rfl rfl) z1 z1 z4 (fun _ => rfl) fun _ => ?_
    refine HQ.on rfl rfl hg69 ?_
    refine op [21] [21] (OT.loadBA (vs := [.bool t51.1.Leaf, vS a53 t51.1.L c54]) ag47 sz47 rfl rfl) z1 z1 z4 (fun _ => rfl) fun _ => ?_
    refine HQ.on rfl rfl hg69 ?_
    obtain ⟨t70, h71, H⟩ := bnd H
    refine op [18, 20] [18, 20] (OT.call (us := [_, _]) (Pre := [OwnS kTEntry a48 c49 t46.1.L, OwnS kTEntry a53 c54 t51.1.L]) [.tmp 108, .tmp 109] Try.call37 rfl rfl fun w F hs hF hp => impl_SameNode_c (p0 := t46.1) (p1 := t51.1) (hs.lend hF 0 rfl) (hs.lend hF 1 rfl) h71) z3 z2 z4 (fun _ => rfl) fun _ => ?_
    obtain rfl := Option.some.inj H
    refine pu (Pu.pickC1 hg69) z2 z3 ?_
    exact HQ.mid z8 z22 rfl
   ·obtain rfl := Option.some.inj H
    refine HQ.off rfl rfl hg69 rfl ?_
    refine HQ.off rfl rfl hg69 rfl ?_
    refine HQ.off rfl rfl hg69 rfl ?_
    refine pu (Pu.pickC0 hg69) z2 z3 ?_
    exact HQ.mid z8 z22 rfl
  refine pu Pu.move z1 z3 ?_
  refine HQ.cutAt 4 [(116, .bool (c72 && (t46.2 == t51.2))), (2, .bool false), (3, BP b11 0), (7, BP b19 0), (8, vI t13.2), (24, vS a58 t56 c59)] [(1, OwnS kTCell a5 c6 t3.1.Cells), (2, OwnS kTWet a7 c8 t3.1.Wet), (3, OwnS kTChange a9 c10 t3.2.2.2.Puts), (4, Box b11 [vS a5 t3.1.Cells c6, vS a7 t3.1.Wet c8, vI t3.1.Fuse, .bool t3.1.Dead]), (5, Box b12 [vI t3.2.2.2.Seq, vI t3.2.2.2.Root, vI t3.2.2.2.Size, vS a9 t3.2.2.2.Puts c10]), (6, OwnS kTCell a15 c16 t13.1.Cells), (7, OwnS kTWet a17 c18 t13.1.Wet), (8, Box b19 [vS a15 t13.1.Cells c16, vS a17 t13.1.Wet c18, vI t13.1.Fuse, .bool t13.1.Dead]), (9, OwnS kTCell a22 c23 t20.1.Cells), (10, OwnS kTWet a24 c25 t20.1.Wet), (11, Box b26 [vS a22 t20.1.Cells c23, vS a24 t20.1.Wet c25, vI t20.1.Fuse, .bool t20.1.Dead]), (12, OwnS kTCell a29 c30 t27.1.Cells), (13, OwnS kTWet a31 c32 t27.1.Wet), (14, Box b33 [vS a29 t27.1.Cells c30, vS a31 t27.1.Wet c32, vI t27.1.Fuse, .bool t27.1.Dead]), (15, OwnS kTTx a36 c37 t34.1), (16, OwnS kTTx a40 c41 t38.1), (17, OwnS kTTx a44 c45 t42.1), (18, OwnS kTEntry a48 c49 t46.1.L), (19, Box b50 [.bool t46.1.Leaf, vS a48 t46.1.L c49]), (20, OwnS kTEntry a53 c54 t51.1.L), (21, Box b55 [.bool t51.1.Leaf, vS a53 t51.1.L c54]), (22, OwnS kTTx a58 c59 t56)] ?_ ?_
  ·rcases Bool.eq_false_or_eq_true c72 with hg74 | hg74
   ·refine HQ.on rfl rfl hg74 ?_
    refine pu Pu.move z1 z3 ?_
    refine HQ.on rfl rfl hg74 ?_
    refine pu Pu.move z1 z3 ?_
    refine HQ.on rfl rfl hg74 ?_
    refine pu (Pu.eqlB ul4) z2 z3 ?_
    refine pu (Pu.pickAT hg74) z2 z3 ?_
    exact HQ.mid z6 z22 rfl
   ·refine HQ.off rfl rfl hg74 rfl ?_
    refine HQ.off rfl rfl hg74 rfl ?_
    refine HQ.off rfl rfl hg74 rfl ?_
    refine pu (Pu.pickAF (u := (t46.2 == t51.2)) hg74) z2 z3 ?_
    exact HQ.mid z6 z22 rfl
  refine pu Pu.move z1 z3 ?_
  obtain ⟨c86, h87, H⟩ := bnd H
  refine HQ.cutAt 6 [(123, .bool c86), (2, .bool false), (3, BP b11 0), (7, BP b19 0), (8, vI t13.2)] [(1, OwnS kTCell a5 c6 t3.1.Cells), (2, OwnS kTWet a7 c8 t3.1.Wet), (3, OwnS kTChange a9 c10 t3.2.2.2.Puts), (4, Box b11 [vS a5 t3.1.Cells c6, vS a7 t3.1.Wet c8, vI t3.1.Fuse, .bool t3.1.Dead]), (5, Box b12 [vI t3.2.2.2.Seq, vI t3.2.2.2.Root, vI t3.2.2.2.Size, vS a9 t3.2.2.2.Puts c10]), (6, OwnS kTCell a15 c16 t13.1.Cells), (7, OwnS kTWet a17 c18 t13.1.Wet), (8, Box b19 [vS a15 t13.1.Cells c16, vS a17 t13.1.Wet c18, vI t13.1.Fuse, .bool t13.1.Dead]), (9, OwnS kTCell a22 c23 t20.1.Cells), (10, OwnS kTWet a24 c25 t20.1.Wet), (11, Box b26 [vS a22 t20.1.Cells c23, vS a24 t20.1.Wet c25, vI t20.1.Fuse, .bool t20.1.Dead]), (12, OwnS kTCell a29 c30 t27.1.Cells), (13, OwnS kTWet a31 c32 t27.1.Wet), (14, Box b33 [vS a29 t27.1.Cells c30, vS a31 t27.1.Wet c32, vI t27.1.Fuse, .bool t27.1.Dead]), (15, OwnS kTTx a36 c37 t34.1), (16, OwnS kTTx a40 c41 t38.1), (17, OwnS kTTx a44 c45 t42.1), (18, OwnS kTEntry a48 c49 t46.1.L), (19, Box b50 [.bool t46.1.Leaf, vS a48 t46.1.L c49]), (20, OwnS kTEntry a53 c54 t51.1.L), (21, Box b55 [.bool t51.1.Leaf, vS a53 t51.1.L c54]), (22, OwnS kTTx a58 c59 t56)] ?_ ?_
  ·clear H
   have H := h87
   rcases brk H with ⟨hg75, H⟩ | ⟨hg75, H⟩
   ·refine HQ.on rfl rfl hg75 ?_
    refine pu Pu.move z1 z3 ?_
    refine HQ.on rfl rfl hg75 ?_
    obtain ⟨t76, h77, H⟩ := bnd H
    refine op [22] [23, 22] (OT.call (us := [_]) (Pre := [OwnS kTTx a58 c59 t56]) [.tmp 118] Try.call57 rfl rfl fun w F hs hF hp => impl_ChangedBy_c (hs.lend hF 0 rfl) h77) z2 z1 z4 (fun _ => rfl) fun ⟨a78, c79⟩ => ?_
    refine HQ.on rfl rfl hg75 ?_
    refine pu Pu.move z1 z3 ?_
    refine HQ.on rfl rfl hg75 ?_
    obtain ⟨t80, h81, H⟩ := bnd H
    refine op [22] [24, 22] (OT.call (us := [_]) (Pre := [OwnS kTTx a58 c59 t56]) [.tmp 120] Try.call76 rfl rfl fun w F hs hF hp => spec_ChangedBy_c (hs.lend hF 0 rfl) h81) z2 z1 z4 (fun _ => rfl) fun ⟨a82, c83⟩ => ?_
    refine HQ.on rfl rfl hg75 ?_
    obtain ⟨t84, h85, H⟩ := bnd H
    refine op [23, 24] [23, 24] (OT.call (us := [_, _]) (Pre := [OwnS kI a78 c79 t76, OwnS kI a82 c83 t80]) [.tmp 119, .tmp 121] Try.call75 rfl rfl fun w F hs hF hp => laws_sameInts_c (hs.lend hF 0 rfl) (hs.lend hF 1 rfl) h85) z3 z2 z4 (fun _ => rfl) fun _ => ?_
    obtain rfl := Option.some.inj H
    refine pu (Pu.pickC1 hg75) z2 z3 ?_
    exact HQ.mid z5 z22 rfl
   ·obtain rfl := Option.some.inj H
    refine HQ.off rfl rfl hg75 rfl ?_
    refine HQ.off rfl rfl hg75 rfl ?_
    refine HQ.off rfl rfl hg75 rfl ?_
    refine HQ.off rfl rfl hg75 rfl ?_
    refine HQ.off rfl rfl hg75 rfl ?_
    refine pu (Pu.pickC0 hg75) z2 z3 ?_
    exact HQ.mid z5 z22 rfl
  refine pu Pu.move z1 z3 ?_
  obtain ⟨c94, h95, H⟩ := bnd H
  refine HQ.cutAt 8 [(132, .bool c94), (2, .bool false)] [(1, OwnS kTCell a5 c6 t3.1.Cells), (2, OwnS kTWet a7 c8 t3.1.Wet), (3, OwnS kTChange a9 c10 t3.2.2.2.Puts), (4, Box b11 [vS a5 t3.1.Cells c6, vS a7 t3.1.Wet c8, vI t3.1.Fuse, .bool t3.1.Dead]), (5, Box b12 [vI t3.2.2.2.Seq, vI t3.2.2.2.Root, vI t3.2.2.2.Size, vS a9 t3.2.2.2.Puts c10]), (6, OwnS kTCell a15 c16 t13.1.Cells), (7, OwnS kTWet a17 c18 t13.1.Wet), (8, Box b19 [vS a15 t13.1.Cells c16, vS a17 t13.1.Wet c18, vI t13.1.Fuse, .bool t13.1.Dead]), (9, OwnS kTCell a22 c23 t20.1.Cells), (10, OwnS kTWet a24 c25 t20.1.Wet), (11, Box b26 [vS a22 t20.1.Cells c23, vS a24 t20.1.Wet c25, vI t20.1.Fuse, .bool t20.1.Dead]), (12, OwnS kTCell a29 c30 t27.1.Cells), (13, OwnS kTWet a31 c32 t27.1.Wet), (14, Box b33 [vS a29 t27.1.Cells c30, vS a31 t27.1.Wet c32, vI t27.1.Fuse, .bool t27.1.Dead]), (15, OwnS kTTx a36 c37 t34.1), (16, OwnS kTTx a40 c41 t38.1), (17, OwnS kTTx a44 c45 t42.1), (18, OwnS kTEntry a48 c49 t46.1.L), (19, Box b50 [.bool t46.1.Leaf, vS a48 t46.1.L c49]), (20, OwnS kTEntry a53 c54 t51.1.L), (21, Box b55 [.bool t51.1.Leaf, vS a53 t51.1.L c54]), (22, OwnS kTTx a58 c59 t56)] ?_ ?_
  ·clear H
   have H := h95
   rcases brk H with ⟨hg88, H⟩ | ⟨hg88, H⟩
   ·refine HQ.on rfl rfl hg88 ?_
    refine pu Pu.move z1 z3 ?_
    refine HQ.on rfl rfl hg88 ?_
    refine pu Pu.geq z2 z3 ?_
    refine HQ.on rfl rfl hg88 ?_
    refine pu Pu.move z1 z3 ?_
    obtain ⟨c92, h93, H⟩ := bnd H
    refine HQ.cutAt 4 [(131, .bool c92), (2, .bool false), (124, .bool c86)] [(1, OwnS kTCell a5 c6 t3.1.Cells), (2, OwnS kTWet a7 c8 t3.1.Wet), (3, OwnS kTChange a9 c10 t3.2.2.2.Puts), (4, Box b11 [vS a5 t3.1.Cells c6, vS a7 t3.1.Wet c8, vI t3.1.Fuse, .bool t3.1.Dead]), (5, Box b12 [vI t3.2.2.2.Seq, vI t3.2.2.2.Root, vI t3.2.2.2.Size, vS a9 t3.2.2.2.Puts c10]), (6, OwnS kTCell a15 c16 t13.1.Cells), (7, OwnS kTWet a17 c18 t13.1.Wet), (8, Box b19 [vS a15 t13.1.Cells c16, vS a17 t13.1.Wet c18, vI t13.1.Fuse, .bool t13.1.Dead]), (9, OwnS kTCell a22 c23 t20.1.Cells), (10, OwnS kTWet a24 c25 t20.1.Wet), (11, Box b26 [vS a22 t20.1.Cells c23, vS a24 t20.1.Wet c25, vI t20.1.Fuse, .bool t20.1.Dead]), (12, OwnS kTCell a29 c30 t27.1.Cells), (13, OwnS kTWet a31 c32 t27.1.Wet), (14, Box b33 [vS a29 t27.1.Cells c30, vS a31 t27.1.Wet c32, vI t27.1.Fuse, .bool t27.1.Dead]), (15, OwnS kTTx a36 c37 t34.1), (16, OwnS kTTx a40 c41 t38.1), (17, OwnS kTTx a44 c45 t42.1), (18, OwnS kTEntry a48 c49 t46.1.L), (19, Box b50 [.bool t46.1.Leaf, vS a48 t46.1.L c49]), (20, OwnS kTEntry a53 c54 t51.1.L), (21, Box b55 [.bool t51.1.Leaf, vS a53 t51.1.L c54]), (22, OwnS kTTx a58 c59 t56)] ?_ ?_
    ·clear H
     have H := h93
     rcases brk H with ⟨hg89, H⟩ | ⟨hg89, H⟩
     ·obtain rfl := Option.some.inj H
      refine HQ.off rfl rfl hg89 rfl ?_
      refine HQ.off rfl rfl hg89 rfl ?_
      refine HQ.off rfl rfl hg89 rfl ?_
      refine HQ.on rfl rfl hg88 ?_
      refine pu (Pu.pickC1 hg89) z2 z3 ?_
      exact HQ.mid z3 z22 rfl
     ·refine HQ.on rfl rfl hg89 ?_
      refine op [8] [8] (OT.loadBA (vs := [vS a15 t13.1.Cells c16, vS a17 t13.1.Wet c18, vI t13.1.Fuse, .bool t13.1.Dead]) ag27 sz27 rfl rfl) z1 z1 z4 (fun _ => rfl) fun _ => ?_
      refine HQ.on rfl rfl hg89 ?_
      refine op [4] [4] (OT.loadBA (vs := [vS a5 t3.1.Cells c6, vS a7 t3.1.Wet c8, vI t3.1.Fuse, .bool t3.1.Dead]) ag27 sz27 rfl rfl) z1 z1 z4 (fun _ => rfl) fun _ => ?_
      refine HQ.on rfl rfl hg89 ?_
      obtain ⟨t90, h91, H⟩ := bnd H
      refine op [6, 7, 1, 2] [6, 7, 1, 2] (OT.call (us := [_, _]) (Pre := [OwnS kTCell a15 c16 t13.1.Cells, OwnS kTWet a17 c18 t13.1.Wet, OwnS kTCell a5 c6 t3.1.Cells, OwnS kTWet a7 c8 t3.1.Wet]) [.tmp 128, .tmp 129] Try.call19 rfl rfl fun w F hs hF hp => laws_sameDisk_c (p0 := t13.1) (p1 := t3.1) (hs.lend hF 0 rfl) (hs.lend hF 1 rfl) (hs.lend hF 2 rfl) (hs.lend hF 3 rfl) h91) z3 z4 z4 (fun _ => rfl) fun _ => ?_
      obtain rfl := Option.some.inj H
      refine HQ.on rfl rfl hg88 ?_
      refine pu (Pu.pickC0 hg89) z2 z3 ?_
      exact HQ.mid z3 z22 rfl
    obtain rfl := Option.some.inj H
    refine pu (Pu.pickC1 hg88) z2 z3 ?_
    exact HQ.mid z2 z22 rfl
   ·obtain rfl := Option.some.inj H
    refine HQ.off rfl rfl hg88 rfl ?_
    refine HQ.off rfl rfl hg88 rfl ?_
    refine HQ.off rfl rfl hg88 rfl ?_
    refine HQ.offU rfl rfl rfl ?_
    refine HQ.offU rfl rfl rfl ?_
    refine HQ.offU rfl rfl rfl ?_
    refine HQ.off rfl rfl hg88 rfl ?_
    refine pu (Pu.pickC0 hg88) z2 z3 ?_
    exact HQ.mid z2 z22 rfl
  refine pu Pu.assign z1 z3 ?_
  refine HQ.done ?_
  refine HQ.keep [(2, _)] z1 ?_
  refine HQ.ret ?_
  obtain rfl := Option.some.inj H
  exact HQ.fin (vs := [_]) Try.results8 () z1 rfl [] trivial rfl

end Go.Proofs.Sx
