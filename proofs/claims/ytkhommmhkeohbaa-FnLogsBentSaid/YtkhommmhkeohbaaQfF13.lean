import Derived.Test.YtkhommmhkeohbaaQfF12
import Derived.KernelRfl
namespace Go.Proofs.Sx
open Go.RowKit
set_option linter.unusedVariables false
set_option linter.unusedSimpArgs false
set_option maxRecDepth 20000
set_option maxHeartbeats 1000000
theorem spec_ReadLog_c {w : World} {k : Nat} {p0 : TDisk} {p1 : Int} {p2 : Int} {a_0 : Option Addr} {c_0 : Nat} {a_1 : Option Addr} {c_1 : Nat} (hb_0 : BorS kTCell a_0 c_0 p0.Cells w.heap (Lt w Nil)) (hb_1 : BorS kTWet a_1 c_1 p0.Wet w.heap (Lt w Nil)) {r : (List TTx) × Int} (H : spec_ReadLog k p0 p1 p2 = some r) :
  Calls Try.prog 71 #[.agg #[vS a_0 p0.Cells c_0, vS a_1 p0.Wet c_1, vI p0.Fuse, .bool p0.Dead], vI p1, vI p2] w (Rt w Nil (fun g : Option Addr × Nat => .tuple #[vS g.1 r.1 g.2, vI r.2]) (fun g => [OwnS kTTx g.1 g.2 r.1])) := by
 rw [spec_ReadLog] at H
 refine Calls.enter0 (N := 86) (us := [_, _, _]) Try.func71 rfl rfl rfl ?_
 refine HQ.rseq ?_
 refine op [] [1] (OT.box (cs := [vS a_0 p0.Cells c_0, vS a_1 p0.Wet c_1, vI p0.Fuse, .bool p0.Dead]) rfl) z1 trivial z4 (fun _ => rfl) fun b1 => ?_
 refine pu Pu.assign z1 z3 ?_
 refine pu Pu.assign z1 z3 ?_
 refine HQ.done ?_
 refine HQ.keep [(1, _), (2, _), (3, _), (6, _), (7, _)] z5 ?_
 refine HQ.rseq ?_
 refine op [] [2] (OT.buildE (K := kTTx) sl80.ul sl80.szE sl80.zc rfl rfl) trivial trivial z4 (fun _ => rfl) fun ⟨a2, c3⟩ => ?_
 refine pu Pu.assign z1 z3 ?_
 refine HQ.done ?_
 refine HQ.keep [(1, _), (2, _), (3, _), (6, _), (7, _), (8, _)] z6 ?_
 refine HQ.rseq ?_
 refine pu Pu.assign z1 z3 ?_
 refine HQ.done ?_
 refine HQ.keep [(1, _), (2, _), (3, _), (6, _), (7, _), (8, _), (9, _)] z7 ?_
 refine HQ.rseq ?_
 refine op [] [3] (OT.buildE (K := kTChange) sl55.ul sl55.szE sl55.zc rfl rfl) trivial trivial z4 (fun _ => rfl) fun ⟨a4, c5⟩ => ?_
 refine pu Pu.assign z1 z3 ?_
 refine HQ.done ?_
 refine HQ.keep [(1, _), (2, _), (3, _), (6, _), (7, _), (8, _), (9, _), (10, _)] z8 ?_
 refine HQ.seq ?_
 refine HQ.rseq ?_
 refine pu Pu.assign z1 z3 ?_
 refine HQ.done ?_
 refine HQ.keep [(1, _), (2, _), (3, _), (6, _), (7, _), (8, _), (9, _), (10, _), (11, _)] z9 ?_
 refine HQ.block ?_
 obtain ⟨o113, h122, H⟩ := bnd H
 refine HQ.loop h122 0 (fun (s : (List TChange) × Int × (List TTx) × Int) (g : (Option Addr × Nat) × (Option Addr × Nat)) => match s, g with | (l39, i42, l43, i46), ((a40, c41), (a44, c45)) => [(1, vI p1), (2, vI p2), (3, BP b1 0), (6, .slice none 0 0), (7, vI 0), (8, vS a44 l43 c45), (9, vI i46), (10, vS a40 l39 c41), (11, vI i42)]) (fun (s : (List TChange) × Int × (List TTx) × Int) (g : (Option Addr × Nat) × (Option Addr × Nat)) => match s, g with | (l39, i42, l43, i46), ((a40, c41), (a44, c45)) => [(1, Box b1 [vS a_0 p0.Cells c_0, vS a_1 p0.Wet c_1, vI p0.Fuse, .bool p0.Dead]), (2, OwnS kTTx a44 c45 l43), (3, OwnS kTChange a40 c41 l39)]) (fun _ _ _ => False) ((a4, c5), (a2, c3)) z9 z3 rfl ?_ ?_ ?_
 ·clear H h122
  rintro ⟨l39, i42, l43, i46⟩ ⟨⟨a40, c41⟩, ⟨a44, c45⟩⟩ o H
  rw [spec_ReadLog_b0] at H
  refine HQ.keep [(1, _), (2, _), (3, _), (6, _), (7, _), (8, _), (9, _), (10, _), (11, _)] z9 ?_
  refine HQ.keepR [(1, _), (2, _), (3, _)] z3 rfl ?_
  refine HQ.seq ?_
  refine HQ.rseq ?_
  refine pu Pu.move z1 z3 ?_
  refine pu Pu.lss z2 z3 ?_
  refine HQ.done ?_
  refine HQ.keep [(1, _), (2, _), (3, _), (6, _), (7, _), (8, _), (9, _), (10, _), (11, _), (22, _)] z10 ?_
  rcases brk H with ⟨hc, H⟩ | ⟨hc, H⟩
  ·refine HQ.condT rfl hc ?_
   clear hc
   refine HQ.skipThen ?_
   refine HQ.seq ?_
   refine HQ.block ?_
   refine HQ.rseq ?_
   refine op [1] [1] (OT.loadBA (vs := [vS a_0 p0.Cells c_0, vS a_1 p0.Wet c_1, vI p0.Fuse, .bool p0.Dead]) ag27 sz27 rfl rfl) z1 z1 z4 (fun _ => rfl) fun _ => ?_
   refine pu Pu.move z1 z3 ?_
   refine pu Pu.add z2 z3 ?_
   obtain ⟨t80, h81, H⟩ := bnd H
   refine op [] [20] (OT.call (us := [_, _]) (Pre := []) [.tmp 26, .tmp 28] Try.call18 rfl rfl fun w F hs hF hp => spec_Read_c (hb_0.pass hp) (hb_1.pass hp) h81) z3 trivial z4 (fun _ => rfl) fun ⟨a82, c83⟩ => ?_
   refine pu Pu.move z1 z3 ?_
   refine pu (Pu.extract rfl) z1 z3 ?_
   refine pu (Pu.extract rfl) z1 z3 ?_
   refine pu Pu.assign z1 z3 ?_
   refine pu Pu.assign z1 z3 ?_
   refine HQ.done ?_
   refine HQ.keep [(1, _), (2, _), (3, _), (6, _), (7, _), (8, _), (9, _), (10, _), (11, _), (12, _), (13, _)] z11 ?_
   refine HQ.seq ?_
   refine HQ.rseq ?_
   refine pu Pu.move z1 z3 ?_
   refine pu Pu.not z1 z3 ?_
   refine HQ.done ?_
   refine HQ.keep [(1, _), (2, _), (3, _), (6, _), (7, _), (8, _), (9, _), (10, _), (11, _), (12, _), (33, _)] z11 ?_
   rcases brk H with ⟨hc, H⟩ | ⟨hc, H⟩
   ·refine HQ.condT rfl hc ?_
    clear hc
    refine HQ.exit ?_
    refine HQ.thenE ?_
    refine HQ.blkO rfl ?_
    refine HQ.thenE ?_
    obtain rfl := Option.some.inj H
    exact HQ.out ((a40, c41), (a44, c45)) z9 z3 rfl
   ·refine HQ.condF rfl hc ?_
    clear hc
    refine HQ.skipThen ?_
    refine HQ.seq ?_
    refine HQ.rseq ?_
    refine pu Pu.move z1 z3 ?_
    refine pu Pu.move z1 z3 ?_
    obtain ⟨t84, h85, H⟩ := bnd H
    refine op [20] [21, 20] (OT.call (us := [_, _]) (Pre := [OwnS kU8 a82 c83 t80.1]) [.tmp 35, .tmp 36] Try.call60 rfl rfl fun w F hs hF hp => spec_GetPut_c (hs.lend hF 0 rfl) h85) z3 z1 z4 (fun _ => rfl) fun ⟨a86, c87⟩ => ?_
    refine pu Pu.move z1 z3 ?_
    refine pu (Pu.extract rfl) z1 z3 ?_
    refine pu (Pu.extract rfl) z1 z3 ?_
    refine op [] [22] (OT.alloc zc49) trivial trivial z4 (fun _ => rfl) fun b88 => ?_
    refine HQ.opN [22] [22] [] (OT.storeC (cs' := [vI t84.1.Page, .bool t84.1.N.Leaf, vS a86 t84.1.N.L c87]) sz49 rfl rfl rfl rfl rfl) z2 z1 rfl rfl rfl (fun _ => rfl) fun _ => ?_
    refine pu Pu.assign z1 z3 ?_
    refine HQ.done ?_
    refine HQ.keep [(1, _), (2, _), (3, _), (6, _), (7, _), (8, _), (9, _), (10, _), (11, _), (12, _), (14, _), (15, _)] z12 ?_
    refine HQ.rseq ?_
    refine pu Pu.move z1 z3 ?_
    refine HQ.done ?_
    refine HQ.keep [(1, _), (2, _), (3, _), (6, _), (7, _), (8, _), (9, _), (10, _), (11, _), (12, _), (14, _), (40, _)] z12 ?_
    rcases brk H with ⟨hc, H⟩ | ⟨hc, H⟩
    ·refine HQ.condT rfl hc ?_
     clear hc
     refine HQ.rseq ?_
     refine pu Pu.move z1 z3 ?_
     refine op [22] [22] (OT.loadBA (vs := [vI t84.1.Page, .bool t84.1.N.Leaf, vS a86 t84.1.N.L c87]) ag49 sz49 rfl rfl) z1 z1 z4 (fun _ => rfl) fun _ => ?_
     refine HQ.opD [21] [23] [21] (OT.buildO (u := .agg #[vI t84.1.Page, .bool t84.1.N.Leaf, vS a86 t84.1.N.L c87]) (enc := encTChange) (hl := hlTChange) (sub := fun (x : TChange) => x.N.L) (.tmp 42) t84.1 sl55.ul sl55.szE sl55.zc rfl rfl rfl rfl) z1 z1 rfl rfl rfl rfl (fun _ => rfl) fun ⟨a89, c90⟩ => ?_
     obtain ⟨h93, H⟩ := asr H
     refine HQ.opD [3, 23] [3] [23] (OT.appendO (K := kTChange) sl55 ul55 h93) z2 z2 rfl rfl rfl rfl (fun _ => rfl) fun ⟨a91, c92⟩ => ?_
     refine pu Pu.assign z1 z3 ?_
     refine HQ.done ?_
     refine HQ.keep [(1, _), (2, _), (3, _), (6, _), (7, _), (8, _), (9, _), (10, _), (11, _), (12, _)] z10 ?_
     refine HQ.exit ?_
     refine HQ.thenE ?_
     refine HQ.blkE ?_
     refine HQ.thenN ?_
     refine HQ.regionQ ?_
     refine pu Pu.move z1 z3 ?_
     refine pu Pu.add z2 z3 ?_
     refine pu Pu.assign z1 z3 ?_
     refine HQ.done ?_
     refine HQ.keep [(1, _), (2, _), (3, _), (6, _), (7, _), (8, _), (9, _), (10, _), (11, _)] z9 ?_
     obtain rfl := Option.some.inj H
     exact HQ.next ((a91, c92), (a44, c45)) z9 z3 rfl
    ·refine HQ.condF rfl hc ?_
     clear hc
     refine HQ.skipThen ?_
     refine HQ.rseq ?_
     refine pu Pu.move z1 z3 ?_
     refine pu Pu.move z1 z3 ?_
     obtain ⟨t94, h95, H⟩ := bnd H
     refine op [20] [24, 20] (OT.call (us := [_, _]) (Pre := [OwnS kU8 a82 c83 t80.1]) [.tmp 46, .tmp 47] Try.call62 rfl rfl fun w F hs hF hp => spec_GetEnd_c (hs.lend hF 0 rfl) h95) z3 z1 z4 (fun _ => rfl) fun ⟨a96, c97⟩ => ?_
     refine pu Pu.move z1 z3 ?_
     refine pu (Pu.extract rfl) z1 z3 ?_
     refine pu (Pu.extract rfl) z1 z3 ?_
     refine pu (Pu.extract rfl) z1 z3 ?_
     refine op [] [25] (OT.alloc zc57) trivial trivial z4 (fun _ => rfl) fun b98 => ?_
     refine HQ.opN [25] [25] [] (OT.storeC (cs' := [vI t94.1.Seq, vI t94.1.Root, vI t94.1.Size, vS a96 t94.1.Puts c97]) sz57 rfl rfl rfl rfl rfl) z2 z1 rfl rfl rfl (fun _ => rfl) fun _ => ?_
     refine pu Pu.assign z1 z3 ?_
     refine pu Pu.assign z1 z3 ?_
     refine HQ.done ?_
     refine HQ.keep [(1, _), (2, _), (3, _), (6, _), (7, _), (8, _), (9, _), (10, _), (11, _), (16, _), (17, _), (18, _)] z12 ?_
     refine HQ.rseq ?_
     refine pu Pu.move z1 z3 ?_
     refine pu (Pu.fieldB fo57_3 rfl) z1 z3 ?_
     refine HQ.opN [25] [25] [] (OT.storeC (cs' := [vI t94.1.Seq, vI t94.1.Root, vI t94.1.Size, vS a40 l39 c41]) sz55 rfl rfl rfl rfl rfl) z2 z1 rfl rfl rfl (fun _ => rfl) fun _ => ?_
     refine HQ.done ?_
     refine HQ.keep [(1, _), (2, _), (3, _), (6, _), (7, _), (8, _), (9, _), (10, _), (11, _), (16, _), (17, _), (18, _)] z12 ?_
     refine HQ.seq ?_
     refine HQ.rseq ?_
     refine pu Pu.move z1 z3 ?_
     refine pu Pu.not z1 z3 ?_
     refine pu Pu.move z1 z3 ?_
     refine HQ.cutAt 5 [(61, .bool ((!t94.2.2) || (!decide (t94.2.1 = ((List.length l39 : Nat) : Int))))), (1, vI p1), (2, vI p2), (3, BP b1 0), (6, .slice none 0 0), (7, vI 0), (8, vS a44 l43 c45), (9, vI i46), (10, vS a40 l39 c41), (11, vI i42), (16, BP b98 0)] [(1, Box b1 [vS a_0 p0.Cells c_0, vS a_1 p0.Wet c_1, vI p0.Fuse, .bool p0.Dead]), (2, OwnS kTTx a44 c45 l43), (3, OwnS kTChange a40 c41 l39), (20, OwnS kU8 a82 c83 t80.1), (21, OwnS kTEntry a86 c87 t84.1.N.L), (22, Box b88 [vI t84.1.Page, .bool t84.1.N.Leaf, vS a86 t84.1.N.L c87]), (24, OwnS kTChange a96 c97 t94.1.Puts), (25, Box b98 [vI t94.1.Seq, vI t94.1.Root, vI t94.1.Size, vS a40 l39 c41])] ?_ ?_
     ·rcases Bool.eq_false_or_eq_true (!t94.2.2) with hg99 | hg99
      ·refine HQ.off rfl rfl hg99 rfl ?_
       refine HQ.off rfl rfl hg99 rfl ?_
       refine HQ.off rfl rfl hg99 rfl ?_
       refine HQ.off rfl rfl hg99 rfl ?_
       refine pu (Pu.pickOT (u := (!decide (t94.2.1 = ((List.length l39 : Nat) : Int)))) hg99) z2 z3 ?_
       exact HQ.mid z11 z8 rfl
      ·refine HQ.on rfl rfl hg99 ?_
       refine pu Pu.move z1 z3 ?_
       refine HQ.on rfl rfl hg99 ?_
       refine pu Pu.move z1 z3 ?_
       refine HQ.on rfl rfl hg99 ?_
       refine pu (Pu.len ul55) z1 z3 ?_
       refine HQ.on rfl rfl hg99 ?_
       refine pu Pu.neq z2 z3 ?_
       refine pu (Pu.pickOF hg99) z2 z3 ?_
       exact HQ.mid z11 z8 rfl
     refine pu Pu.move z1 z3 ?_
     refine HQ.cutAt 9 [(71, .bool (((!t94.2.2) || (!decide (t94.2.1 = ((List.length l39 : Nat) : Int)))) || (!decide (t94.1.Seq = (wrap64 ((wrap64 (p2 + ((List.length l43 : Nat) : Int))) + 1)))))), (1, vI p1), (2, vI p2), (3, BP b1 0), (6, .slice none 0 0), (7, vI 0), (8, vS a44 l43 c45), (9, vI i46), (10, vS a40 l39 c41), (11, vI i42), (16, BP b98 0)] [(1, Box b1 [vS a_0 p0.Cells c_0, vS a_1 p0.Wet c_1, vI p0.Fuse, .bool p0.Dead]), (2, OwnS kTTx a44 c45 l43), (3, OwnS kTChange a40 c41 l39), (20, OwnS kU8 a82 c83 t80.1), (21, OwnS kTEntry a86 c87 t84.1.N.L), (22, Box b88 [vI t84.1.Page, .bool t84.1.N.Leaf, vS a86 t84.1.N.L c87]), (24, OwnS kTChange a96 c97 t94.1.Puts), (25, Box b98 [vI t94.1.Seq, vI t94.1.Root, vI t94.1.Size, vS a40 l39 c41])] ?_ ?_
     ·rcases Bool.eq_false_or_eq_true ((!t94.2.2) || (!decide (t94.2.1 = ((List.length l39 : Nat) : Int)))) with hg100 | hg100
      ·refine HQ.off rfl rfl hg100 rfl ?_
       refine HQ.off rfl rfl hg100 rfl ?_
       refine HQ.off rfl rfl hg100 rfl ?_
       refine HQ.off rfl rfl hg100 rfl ?_
       refine HQ.off rfl rfl hg100 rfl ?_
       refine HQ.off rfl rfl hg100 rfl ?_
       refine HQ.off rfl rfl hg100 rfl ?_
       refine HQ.off rfl rfl hg100 rfl ?_
       refine pu (Pu.pickOT (u := (!decide (t94.1.Seq = (wrap64 ((wrap64 (p2 + ((List.length l43 : Nat) : Int))) + 1))))) hg100) z2 z3 ?_
       exact HQ.mid z11 z8 rfl
      ·refine HQ.on rfl rfl hg100 ?_
       refine pu (Pu.fieldB fo57_0 rfl) z1 z3 ?_
       refine HQ.on rfl rfl hg100 ?_
       refine op [25] [25] (OT.loadB sc3 rfl) z1 z1 z4 (fun _ => rfl) fun _ => ?_
       refine HQ.on rfl rfl hg100 ?_
       refine pu Pu.move z1 z3 ?_
       refine HQ.on rfl rfl hg100 ?_
       refine pu Pu.move z1 z3 ?_
       refine HQ.on rfl rfl hg100 ?_
       refine pu (Pu.len ul80) z1 z3 ?_
       refine HQ.on rfl rfl hg100 ?_
       refine pu Pu.add z2 z3 ?_
       refine HQ.on rfl rfl hg100 ?_
       refine pu Pu.add z2 z3 ?_
       refine HQ.on rfl rfl hg100 ?_
       refine pu Pu.neq z2 z3 ?_
       refine pu (Pu.pickOF hg100) z2 z3 ?_
       exact HQ.mid z11 z8 rfl
     refine pu Pu.move z1 z3 ?_
     obtain ⟨c104, h105, H⟩ := bnd H
     refine HQ.cutAt 4 [(76, .bool c104), (1, vI p1), (2, vI p2), (3, BP b1 0), (6, .slice none 0 0), (7, vI 0), (8, vS a44 l43 c45), (9, vI i46), (10, vS a40 l39 c41), (11, vI i42), (16, BP b98 0)] [(1, Box b1 [vS a_0 p0.Cells c_0, vS a_1 p0.Wet c_1, vI p0.Fuse, .bool p0.Dead]), (2, OwnS kTTx a44 c45 l43), (3, OwnS kTChange a40 c41 l39), (20, OwnS kU8 a82 c83 t80.1), (21, OwnS kTEntry a86 c87 t84.1.N.L), (22, Box b88 [vI t84.1.Page, .bool t84.1.N.Leaf, vS a86 t84.1.N.L c87]), (24, OwnS kTChange a96 c97 t94.1.Puts), (25, Box b98 [vI t94.1.Seq, vI t94.1.Root, vI t94.1.Size, vS a40 l39 c41])] ?_ ?_
     ·clear H
      have H := h105
      rcases brk H with ⟨hg101, H⟩ | ⟨hg101, H⟩
      ·obtain rfl := Option.some.inj H
       refine HQ.off rfl rfl hg101 rfl ?_
       refine HQ.off rfl rfl hg101 rfl ?_
       refine HQ.off rfl rfl hg101 rfl ?_
       refine pu (Pu.pickC1 hg101) z2 z3 ?_
       exact HQ.mid z11 z8 rfl
      ·refine HQ.on rfl rfl hg101 ?_
       refine op [25] [25] (OT.loadBA (vs := [vI t94.1.Seq, vI t94.1.Root, vI t94.1.Size, vS a40 l39 c41]) ag57 sz57 rfl rfl) z1 z1 z4 (fun _ => rfl) fun _ => ?_
       refine HQ.on rfl rfl hg101 ?_
       obtain ⟨t102, h103, H⟩ := bnd H
       refine op [3] [3] (OT.call (us := [_]) (Pre := [OwnS kTChange a40 c41 l39]) [.tmp 73] Try.call36 rfl rfl fun w F hs hF hp => spec_TxOk_c (hs.lend hF 0 rfl) h103) z2 z1 z4 (fun _ => rfl) fun _ => ?_
       refine HQ.on rfl rfl hg101 ?_
       refine pu Pu.not z1 z3 ?_
       obtain rfl := Option.some.inj H
       refine pu (Pu.pickC0 hg101) z2 z3 ?_
       exact HQ.mid z11 z8 rfl
     refine HQ.done ?_
     refine HQ.keep [(76, _), (1, _), (2, _), (3, _), (6, _), (7, _), (8, _), (9, _), (10, _), (11, _), (16, _)] z11 ?_
     rcases brk H with ⟨hc, H⟩ | ⟨hc, H⟩
     ·refine HQ.condT rfl hc ?_
      clear hc
      refine HQ.exit ?_
      refine HQ.thenE ?_
      refine HQ.blkO rfl ?_
      refine HQ.thenE ?_
      obtain rfl := Option.some.inj H
      exact HQ.out ((a40, c41), (a44, c45)) z9 z3 rfl
     ·refine HQ.condF rfl hc ?_
      clear hc
      refine HQ.skipThen ?_
      refine HQ.rseq ?_
      refine pu Pu.move z1 z3 ?_
      refine op [25] [25] (OT.loadBA (vs := [vI t94.1.Seq, vI t94.1.Root, vI t94.1.Size, vS a40 l39 c41]) ag57 sz57 rfl rfl) z1 z1 z4 (fun _ => rfl) fun _ => ?_
      refine HQ.opD [3] [26] [3] (OT.buildO (u := .agg #[vI t94.1.Seq, vI t94.1.Root, vI t94.1.Size, vS a40 l39 c41]) (enc := encTTx) (hl := hlTTx) (sub := fun (x : TTx) => x.Puts) (.tmp 78) (⟨t94.1.Seq, t94.1.Root, t94.1.Size, l39⟩ : TTx) sl80.ul sl80.szE sl80.zc rfl rfl rfl rfl) z1 z1 rfl rfl rfl rfl (fun _ => rfl) fun ⟨a106, c107⟩ => ?_
      obtain ⟨h110, H⟩ := asr H
      refine HQ.opD [2, 26] [2] [26] (OT.appendO (K := kTTx) sl80 ul80 h110) z2 z2 rfl rfl rfl rfl (fun _ => rfl) fun ⟨a108, c109⟩ => ?_
      refine pu Pu.assign z1 z3 ?_
      refine HQ.done ?_
      refine HQ.keep [(1, _), (2, _), (3, _), (6, _), (7, _), (8, _), (9, _), (10, _), (11, _)] z9 ?_
      refine HQ.rseq ?_
      refine op [] [27] (OT.buildE (K := kTChange) sl55.ul sl55.szE sl55.zc rfl rfl) trivial trivial z4 (fun _ => rfl) fun ⟨a111, c112⟩ => ?_
      refine pu Pu.assign z1 z3 ?_
      refine HQ.done ?_
      refine HQ.keep [(1, _), (2, _), (3, _), (6, _), (7, _), (8, _), (9, _), (10, _), (11, _)] z9 ?_
      refine HQ.regionQ ?_
      refine pu Pu.move z1 z3 ?_
      refine pu Pu.add z2 z3 ?_
      refine pu Pu.assign z1 z3 ?_
      refine HQ.done ?_
      refine HQ.keep [(1, _), (2, _), (3, _), (6, _), (7, _), (8, _), (9, _), (10, _), (11, _)] z9 ?_
      refine HQ.blkN ?_
      refine HQ.thenN ?_
      refine HQ.regionQ ?_
      refine pu Pu.move z1 z3 ?_
      refine pu Pu.add z2 z3 ?_
      refine pu Pu.assign z1 z3 ?_
      refine HQ.done ?_
      refine HQ.keep [(1, _), (2, _), (3, _), (6, _), (7, _), (8, _), (9, _), (10, _), (11, _)] z9 ?_
      refine HQ.mv 3 27 rfl rfl ?_
      obtain rfl := Option.some.inj H
      exact HQ.next ((a111, c112), (a108, c109)) z9 z3 rfl
  ·refine HQ.condF rfl hc ?_
   clear hc
   refine HQ.exit ?_
   refine HQ.thenE ?_
   obtain rfl := Option.some.inj H
   exact HQ.out ((a40, c41), (a44, c45)) z9 z3 rfl
 ·rintro ⟨l114, i117, l118, i121⟩ rfl ⟨⟨a115, c116⟩, ⟨a119, c120⟩⟩
  clear h122
  replace H := H
  refine HQ.keep [(1, _), (2, _), (3, _), (6, _), (7, _), (8, _), (9, _), (10, _), (11, _)] z9 ?_
  refine HQ.keepR [(1, _), (2, _), (3, _)] z3 rfl ?_
  refine HQ.blkE ?_
  refine HQ.thenN ?_
  refine HQ.rseq ?_
  refine pu Pu.move z1 z3 ?_
  refine pu Pu.move z1 z3 ?_
  refine pu Pu.assign z1 z3 ?_
  refine pu Pu.assign z1 z3 ?_
  refine HQ.done ?_
  refine HQ.keep [(6, _), (7, _)] z2 ?_
  refine HQ.ret ?_
  obtain rfl := Option.some.inj H
  exact HQ.fin (vs := [_, _]) Try.results71 (a119, c120) z2 rfl [2] z1 rfl
 ·exact fun r h a w hf => hf.elim

theorem spec_DrawLastOf_c {w : World} {k : Nat} {p0 : (List Int)} {a_0 : Option Addr} {c_0 : Nat} (hb_0 : BorS kU8 a_0 c_0 p0 w.heap (Lt w Nil)) {r : (List TTx) × Int} (H : spec_DrawLastOf k p0 = some r) :
  Calls Try.prog 72 #[vS a_0 p0 c_0] w (Rt w Nil (fun g : Option Addr × Nat => .tuple #[vS g.1 r.1 g.2, vI r.2]) (fun g => [OwnS kTTx g.1 g.2 r.1])) := by
 rw [spec_DrawLastOf] at H
 refine Calls.enter0 (N := 11) (us := [_]) Try.func72 rfl rfl rfl ?_
 refine HQ.rseq ?_
 refine pu Pu.assign z1 z3 ?_
 refine pu Pu.assign z1 z3 ?_
 refine HQ.done ?_
 refine HQ.keep [(0, _), (2, _), (3, _)] z3 ?_
 refine HQ.rseq ?_
 refine pu Pu.move z1 z3 ?_
 obtain ⟨t1, h2, H⟩ := bnd H
 refine op [] [1] (OT.call (us := [_]) (Pre := []) [.tmp 5] Try.call77 rfl rfl fun w F hs hF hp => spec_l1New_c (hb_0.pass hp) h2) z2 trivial z4 (fun _ => rfl) fun b3 => ?_
 refine pu Pu.assign z1 z3 ?_
 refine HQ.done ?_
 refine HQ.keep [(2, _), (3, _), (4, _)] z3 ?_
 refine HQ.rseq ?_
 refine pu Pu.move z1 z3 ?_
 obtain ⟨t4, h5, H⟩ := bnd H
 refine op [1] [2, 1] (OT.callM (us := [_, _]) (PreX := [Box b3 [vS a_0 p0 c_0, vI t1.i, vI t1.h]]) (PreL := []) [.tmp 7, .const (vI 4)] Try.call121 rfl rfl fun w FX FL hs1 hF1 hs2 hF2 hp => spec_l20Txs_c (p0 := (⟨p0, t1.i, t1.h⟩ : TCur)) (p1 := 4) hs1 hF1 (hb_0.passY hp) h5) z3 z1 z4 (fun _ => rfl) fun ⟨a6, c7⟩ => ?_
 refine pu Pu.move z1 z3 ?_
 obtain ⟨t8, h9, H⟩ := bnd H
 refine op [1] [1] (OT.callM (us := [_, _]) (PreX := [Box b3 [vS a_0 p0 c_0, vI t4.2.i, vI t4.2.h]]) (PreL := []) [.tmp 9, .const (vI 10)] Try.call86 rfl rfl fun w FX FL hs1 hF1 hs2 hF2 hp => spec_l1Below_c (p0 := (⟨p0, t4.2.i, t4.2.h⟩ : TCur)) (p1 := 10) hs1 hF1 (hb_0.passY hp) h9) z3 z1 z4 (fun _ => rfl) fun _ => ?_
 refine pu Pu.assign z1 z3 ?_
 refine pu Pu.assign z1 z3 ?_
 refine HQ.done ?_
 refine HQ.keep [(2, _), (3, _)] z2 ?_
 refine HQ.ret ?_
 obtain rfl := Option.some.inj H
 exact HQ.fin (vs := [_, _]) Try.results72 (a6, c7) z2 rfl [2] z1 rfl

theorem slices_Clone_impl_Entry_impl_Entry_c {w : World} {p0 : (List TEntry)} {a_0 : Option Addr} {c_0 : Nat} (hb_0 : BorS kTEntry a_0 c_0 p0 w.heap (Lt w Nil)) {r : (List TEntry)} (H : slices_Clone_impl_Entry_impl_Entry p0 = some r) :
  Calls Try.prog 134 #[vS a_0 p0 c_0] w (Rt w Nil (fun g : Option Addr × Nat => vS g.1 r g.2) (fun g => [OwnS kTEntry g.1 g.2 r])) := by
 rw [slices_Clone_impl_Entry_impl_Entry] at H
 obtain ⟨h5, H⟩ := asr H
 obtain rfl := Option.some.inj H
 refine Calls.enter0 (N := 8) (us := [_]) Try.func134 rfl rfl rfl ?_
 refine HQ.rseq ?_
 refine pu Pu.assign z1 z3 ?_
 refine HQ.done ?_
 refine HQ.seq ?_
 refine HQ.rseq ?_
 refine pu Pu.move z1 z3 ?_
 refine pu (Pu.eqlNil ul45) z2 z3 ?_
 refine HQ.done ?_
 cases a_0 with
 | none =>
  refine HQ.condT rfl rfl ?_
  have hp : p0 = [] := by
   rcases hb_0.2 with h | ⟨b, off, cs, ty, fz, h, _⟩
   ·exact h
   ·cases h
  subst hp
  refine HQ.rseq ?_
  refine pu Pu.assign z1 z3 ?_
  refine HQ.done ?_
  refine HQ.ret ?_
  refine HQ.thenR ?_
  refine HQ.nil kTEntry 1 rfl ?_
  exact HQ.fin (vs := [_]) Try.results134 (none, 0) z1 rfl [1] z1 rfl
 | some a =>
  refine HQ.condF rfl rfl ?_
  refine HQ.skipThen ?_
  refine HQ.rseq ?_
  refine op [] [1] (OT.buildF (us := []) (ys := ([] : (List TEntry))) (enc := encTEntry) (hl := fun _ => ⟨rfl, rfl⟩) [] sl45.ul sl45.szE sl45.zc rfl rfl rfl rfl rfl) trivial trivial z4 (fun _ => rfl) fun ⟨a1, c2⟩ => ?_
  refine pu Pu.move z1 z3 ?_
  refine op [1] [1] (OT.appendF (enc := encTEntry) (hl := fun _ => ⟨rfl, rfl⟩) sl45 ul45 hb_0 (by simpa using h5)) z2 z1 z4 (fun _ => rfl) fun ⟨a3, c4⟩ => ?_
  refine pu Pu.assign z1 z3 ?_
  refine HQ.done ?_
  refine HQ.ret ?_
  exact HQ.fin (vs := [_]) Try.results134 (a3, c4) z1 rfl [1] z1 rfl

theorem impl_copyNode_c {w : World} {p0 : TNode} {a_0 : Option Addr} {c_0 : Nat} (hb_0 : BorS kTEntry a_0 c_0 p0.L w.heap (Lt w Nil)) {r : TNode} (H : impl_copyNode p0 = some r) :
  Calls Try.prog 118 #[.agg #[.bool p0.Leaf, vS a_0 p0.L c_0]] w (Rt w Nil (fun g : Option Addr × Nat => .agg #[.bool r.Leaf, vS g.1 r.L g.2]) (fun g => [OwnS kTEntry g.1 g.2 r.L])) := by
 rw [impl_copyNode] at H
 refine Calls.enter0 (N := 9) (us := [_]) Try.func118 rfl rfl rfl ?_
 refine HQ.rseq ?_
 refine op [] [1] (OT.box (cs := [.bool p0.Leaf, vS a_0 p0.L c_0]) rfl) z1 trivial z4 (fun _ => rfl) fun b1 => ?_
 refine op [] [2] (OT.alloc zc47) trivial trivial z4 (fun _ => rfl) fun b2 => ?_
 refine HQ.done ?_
 refine HQ.keep [(1, _), (2, _)] z2 ?_
 obtain ⟨t4, h5, H⟩ := bnd H
 refine HQ.drawS mixd [(1, BP b1 0), (2, BP b2 0)] 5 [⟨[], [], []⟩, ⟨[0], [0], [0]⟩, ⟨[], [], []⟩, ⟨[0], [0], [2]⟩, ⟨[], [1], [3]⟩] [⟨none, none⟩, ⟨some 4, none⟩] (fun (g3 : (Option Addr × Nat)) => [BP b1 0, .bool p0.Leaf, BP b1 1, vS a_0 p0.L c_0, vS g3.1 t4 g3.2]) (fun (g3 : (Option Addr × Nat)) => [Box b1 [.bool p0.Leaf, vS a_0 p0.L c_0], OwnS kTEntry g3.1 g3.2 t4]) (none, 0) [1] [1, 3] [] z2 z1 rfl (by kernel_rfl) (fun _ => rfl) (by kernel_rfl) (fun _ => rfl) ⟨?_, ?_, ?_, ?_, ?_, trivial⟩ fun g3 => ?_
 ·exact OpOK.pu (fun g3 => [(.tmp 1, BP b1 0)]) z2 (fun _ => z1) (fun _ => (Pu.fieldB fo47_0 rfl)) (fun _ => z1) (fun _ _ => z4)
 ·exact OpOK.of (fun g3 => [(.tmp 3, BP b1 0)]) _ _ (fun g3 _ => g3) rfl rfl (fun _ => z1) (fun g3 => OT.loadB sc4 rfl) (fun _ _ => z4)
 ·exact OpOK.pu (fun g3 => [(.tmp 1, BP b1 0)]) z2 (fun _ => z1) (fun _ => (Pu.fieldB fo47_1 rfl)) (fun _ => z1) (fun _ _ => z4)
 ·exact OpOK.of (fun g3 => [(.tmp 5, BP b1 1)]) _ _ (fun g3 _ => g3) rfl rfl (fun _ => z1) (fun g3 => OT.loadB sc45 rfl) (fun _ _ => z4)
 ·exact OpOK.of (fun g3 => [(.func 134, .func (.func 134) #[] #[]), (.tmp 6, vS a_0 p0.L c_0)]) _ _ (fun g3 x => x) rfl rfl (fun _ => z2) (fun g3 => OT.call (us := [_]) (Pre := []) [.tmp 6] Try.call134 rfl rfl fun w F hs hF hp => slices_Clone_impl_Entry_impl_Entry_c (hb_0.pass hp) h5) (fun _ _ => z4)
 refine HQ.keep [(2, _), (4, _), (7, _)] z3 ?_
 refine HQ.keepR [(1, _), (2, _), (3, _)] z3 rfl ?_
 refine pu (Pu.build (us := [.bool p0.Leaf, vS g3.1 t4 g3.2]) (cs := [.bool p0.Leaf, vS g3.1 t4 g3.2]) [(0, .tmp 4), (1, .tmp 7)] st47 rfl rfl rfl) z2 z3 ?_
 refine HQ.opN [2] [2] [] (OT.storeC (cs' := [.bool p0.Leaf, vS g3.1 t4 g3.2]) sz47 rfl rfl rfl rfl rfl) z2 z1 rfl rfl rfl (fun _ => rfl) fun _ => ?_
 refine HQ.done ?_
 refine HQ.keep [(2, _)] z1 ?_
 refine HQ.ret ?_
 obtain rfl := Option.some.inj H
 exact HQ.fin (vs := [_]) Try.results118 (g3.1, g3.2) ⟨⟨_, _, 2, rfl, rfl, ag47, sz47, rfl⟩, trivial⟩ rfl [3] z1 rfl

theorem impl_LastOf_c {w : World} {k : Nat} {p0 : (List TTx)} {p1 : Int} {a_0 : Option Addr} {c_0 : Nat} (hb_0 : BorS kTTx a_0 c_0 p0 w.heap (Lt w Nil)) {r : TNode × Bool} (H : impl_LastOf k p0 p1 = some r) :
  Calls Try.prog 58 #[vS a_0 p0 c_0, vI p1] w (Rt w Nil (fun g : Option Addr × Nat => .tuple #[.agg #[.bool r.1.Leaf, vS g.1 r.1.L g.2], .bool r.2]) (fun g => [OwnS kTEntry g.1 g.2 r.1.L])) := by
 rw [impl_LastOf] at H
 refine Calls.enter0 (N := 43) (us := [_, _]) Try.func58 rfl rfl rfl ?_
 refine HQ.rseq ?_
 refine op [] [1] (OT.alloc zc47) trivial trivial z4 (fun _ => rfl) fun b1 => ?_
 refine pu Pu.assign z1 z3 ?_
 refine HQ.done ?_
 refine HQ.keep [(0, _), (1, _), (4, _), (5, _)] z4 ?_
 refine HQ.seq ?_
 refine HQ.rseq ?_
 refine pu Pu.move z1 z3 ?_
 refine pu (Pu.len ul80) z1 z3 ?_
 refine pu Pu.sub z2 z3 ?_
 refine pu Pu.assign z1 z3 ?_
 refine HQ.done ?_
 refine HQ.keep [(0, _), (1, _), (4, _), (5, _), (6, _)] z5 ?_
 refine HQ.block ?_
 obtain ⟨o165, h167, H⟩ := bnd H
 refine HQ.loop h167 0 (fun (s : Int) (g : Unit) => match s, g with | i56, () => [(0, vS a_0 p0 c_0), (1, vI p1), (4, BP b1 0), (5, .bool false), (6, vI i56)]) (fun (s : Int) (g : Unit) => match s, g with | i56, () => [(1, Box b1 [.bool false, .slice none 0 0])]) (fun r => bodyPost Try.prog Try.f58 (Rt w Nil (fun g : Option Addr × Nat => .tuple #[.agg #[.bool r.1.Leaf, vS g.1 r.1.L g.2], .bool r.2]) (fun g => [OwnS kTEntry g.1 g.2 r.1.L])) .ret) () z5 z1 rfl ?_ ?_ ?_
 ·clear H h167
  rintro i56 _ o H
  rw [impl_LastOf_b2] at H
  refine HQ.keep [(0, _), (1, _), (4, _), (5, _), (6, _)] z5 ?_
  refine HQ.keepR [(1, _)] z1 rfl ?_
  refine HQ.seq ?_
  refine HQ.rseq ?_
  refine pu Pu.move z1 z3 ?_
  refine pu Pu.geq z2 z3 ?_
  refine HQ.done ?_
  refine HQ.keep [(0, _), (1, _), (4, _), (5, _), (6, _), (13, _)] z6 ?_
  rcases brk H with ⟨hc, H⟩ | ⟨hc, H⟩
  ·refine HQ.condT rfl hc ?_
   clear hc
   refine HQ.skipThen ?_
   refine HQ.seq ?_
   refine HQ.block ?_
   refine HQ.rseq ?_
   refine pu Pu.move z1 z3 ?_
   refine pu Pu.move z1 z3 ?_
   obtain ⟨h111, H⟩ := asr H
   refine op [] [] (OT.indexB ul80 sz57 hb_0 h111) z2 trivial z4 (fun _ => rfl) fun _ => ?_
   refine pu (Pu.fieldE fo57_3 rfl) z1 z3 ?_
   obtain ⟨⟨a112, c113⟩, hb114, hn115⟩ := BorS.nest hb_0 h111
   refine op [] [] (OT.loadN (v := vS a112 ((gt p0 i56).Puts) c113) sc55 hn115 hlTTx rfl) z1 trivial z4 (fun _ => rfl) fun _ => ?_
   refine pu (Pu.len ul55) z1 z3 ?_
   refine pu Pu.sub z2 z3 ?_
   refine pu Pu.assign z1 z3 ?_
   refine HQ.done ?_
   refine HQ.keep [(0, _), (1, _), (4, _), (5, _), (6, _), (7, _)] z6 ?_
   refine HQ.block ?_
   obtain ⟨o162, h164, H⟩ := bnd H
   refine HQ.loop h164 2 (fun (s : Int) (g : Unit) => match s, g with | i131, () => [(0, vS a_0 p0 c_0), (1, vI p1), (4, BP b1 0), (5, .bool false), (6, vI i56), (7, vI i131)]) (fun (s : Int) (g : Unit) => match s, g with | i131, () => [(1, Box b1 [.bool false, .slice none 0 0])]) (fun r => bodyPost Try.prog Try.f58 (Rt w Nil (fun g : Option Addr × Nat => .tuple #[.agg #[.bool r.1.Leaf, vS g.1 r.1.L g.2], .bool r.2]) (fun g => [OwnS kTEntry g.1 g.2 r.1.L])) .ret) () z6 z1 rfl ?_ ?_ ?_
   ·clear H h164
    rintro i131 _ o H
    rw [impl_LastOf_b3] at H
    refine HQ.keep [(0, _), (1, _), (4, _), (5, _), (6, _), (7, _)] z6 ?_
    refine HQ.keepR [(1, _)] z1 rfl ?_
    refine HQ.seq ?_
    refine HQ.rseq ?_
    refine pu Pu.move z1 z3 ?_
    refine pu Pu.geq z2 z3 ?_
    refine HQ.done ?_
    refine HQ.keep [(0, _), (1, _), (4, _), (5, _), (6, _), (7, _), (24, _)] z7 ?_
    rcases brk H with ⟨hc, H⟩ | ⟨hc, H⟩
    ·refine HQ.condT rfl hc ?_
     clear hc
     refine HQ.skipThen ?_
     refine HQ.seq ?_
     refine HQ.block ?_
     refine HQ.rseq ?_
     refine pu Pu.move z1 z3 ?_
     refine pu Pu.move z1 z3 ?_
     obtain ⟨h147, H⟩ := asr H
     refine op [] [] (OT.indexB ul80 sz57 hb_0 h147) z2 trivial z4 (fun _ => rfl) fun _ => ?_
     refine pu (Pu.fieldE fo57_3 rfl) z1 z3 ?_
     obtain ⟨⟨a148, c149⟩, hb150, hn151⟩ := BorS.nest hb_0 h147
     refine op [] [] (OT.loadN (v := vS a148 ((gt p0 i56).Puts) c149) sc55 hn151 hlTTx rfl) z1 trivial z4 (fun _ => rfl) fun _ => ?_
     refine pu Pu.move z1 z3 ?_
     obtain ⟨h152, H⟩ := asr H
     refine op [] [] (OT.indexB ul55 sz49 hb150 h152) z2 trivial z4 (fun _ => rfl) fun _ => ?_
     obtain ⟨⟨a153, c154⟩, hb155, hn156⟩ := BorS.nest hb150 h152
     refine op [] [] (OT.loadNA (vs := [vI ((gt ((gt p0 i56).Puts) i131).Page), .bool ((gt ((gt p0 i56).Puts) i131).N.Leaf), vS a153 ((gt ((gt p0 i56).Puts) i131).N.L) c154]) ag49 sz49 hn156 hlTChange rfl rfl) z1 trivial z4 (fun _ => rfl) fun _ => ?_
     refine op [] [18] (OT.alloc zc49) trivial trivial z4 (fun _ => rfl) fun b157 => ?_
     refine HQ.opN [18] [18] [] (OT.storeC (cs' := [vI ((gt ((gt p0 i56).Puts) i131).Page), .bool ((gt ((gt p0 i56).Puts) i131).N.Leaf), vS a153 ((gt ((gt p0 i56).Puts) i131).N.L) c154]) sz49 rfl rfl rfl rfl rfl) z2 z1 rfl rfl rfl (fun _ => rfl) fun _ => ?_
     refine HQ.done ?_
     refine HQ.keep [(0, _), (1, _), (4, _), (5, _), (6, _), (7, _), (8, _)] z7 ?_
     refine HQ.rseq ?_
     refine pu (Pu.fieldB fo49_0 rfl) z1 z3 ?_
     refine op [18] [18] (OT.loadB sc3 rfl) z1 z1 z4 (fun _ => rfl) fun _ => ?_
     refine pu Pu.move z1 z3 ?_
     refine pu Pu.eql z2 z3 ?_
     refine HQ.done ?_
     refine HQ.keep [(0, _), (1, _), (4, _), (5, _), (6, _), (7, _), (8, _), (38, _)] z8 ?_
     rcases brk H with ⟨hc, H⟩ | ⟨hc, H⟩
     ·refine HQ.condT rfl hc ?_
      clear hc
      refine HQ.rseq ?_
      refine pu (Pu.fieldB fo49_1 rfl) z1 z3 ?_
      refine op [18] [18] (OT.loadBA (vs := [.bool ((gt ((gt p0 i56).Puts) i131).N.Leaf), vS a153 ((gt ((gt p0 i56).Puts) i131).N.L) c154]) ag47 sz47 rfl rfl) z1 z1 z4 (fun _ => rfl) fun _ => ?_
      obtain ⟨t158, h159, H⟩ := bnd H
      refine op [] [19] (OT.call (us := [_]) (Pre := []) [.tmp 40] Try.call118 rfl rfl fun w F hs hF hp => impl_copyNode_c (hb155.pass hp) h159) z2 trivial z4 (fun _ => rfl) fun ⟨a160, c161⟩ => ?_
      refine HQ.opN [1] [1] [] (OT.storeC (cs' := [.bool t158.Leaf, vS a160 t158.L c161]) sz47 rfl rfl rfl rfl rfl) z2 z1 rfl rfl rfl (fun _ => rfl) fun _ => ?_
      refine pu Pu.assign z1 z3 ?_
      refine HQ.done ?_
      refine HQ.keep [(0, _), (1, _), (4, _), (5, _), (6, _), (7, _)] z6 ?_
      refine HQ.ret ?_
      refine HQ.blkR ?_
      refine HQ.thenR ?_
      obtain rfl := Option.some.inj H
      refine HQ.retL ?_
      exact HQ.fin (vs := [_, _]) Try.results58 (a160, c161) ⟨⟨_, _, 1, rfl, rfl, ag47, sz47, rfl⟩, rfl, trivial⟩ rfl [19] z1 rfl
     ·refine HQ.condF rfl hc ?_
      clear hc
      refine HQ.skip ?_
      refine HQ.blkN ?_
      refine HQ.thenN ?_
      refine HQ.regionQ ?_
      refine pu Pu.move z1 z3 ?_
      refine pu Pu.sub z2 z3 ?_
      refine pu Pu.assign z1 z3 ?_
      refine HQ.done ?_
      refine HQ.keep [(0, _), (1, _), (4, _), (5, _), (6, _), (7, _)] z6 ?_
      obtain rfl := Option.some.inj H
      exact HQ.next () z6 z1 rfl
    ·refine HQ.condF rfl hc ?_
     clear hc
     refine HQ.exit ?_
     refine HQ.thenE ?_
     obtain rfl := Option.some.inj H
     exact HQ.out () z6 z1 rfl
   ·rintro i163 rfl _
    clear h164
    replace H := H
    refine HQ.keep [(0, _), (1, _), (4, _), (5, _), (6, _), (7, _)] z6 ?_
    refine HQ.keepR [(1, _)] z1 rfl ?_
    refine HQ.blkE ?_
    refine HQ.blkN ?_
    refine HQ.thenN ?_
    refine HQ.regionQ ?_
    refine pu Pu.move z1 z3 ?_
    refine pu Pu.sub z2 z3 ?_
    refine pu Pu.assign z1 z3 ?_
    refine HQ.done ?_
    refine HQ.keep [(0, _), (1, _), (4, _), (5, _), (6, _)] z5 ?_
    obtain rfl := Option.some.inj H
    exact HQ.next () z5 z1 rfl
   ·rintro r rfl a w hr
    obtain rfl := Option.some.inj H
    exact ⟨rfl, hr⟩
  ·refine HQ.condF rfl hc ?_
   clear hc
   refine HQ.exit ?_
   refine HQ.thenE ?_
   obtain rfl := Option.some.inj H
   exact HQ.out () z5 z1 rfl
 ·rintro i166 rfl _
  clear h167
  replace H := H
  refine HQ.keep [(0, _), (1, _), (4, _), (5, _), (6, _)] z5 ?_
  refine HQ.keepR [(1, _)] z1 rfl ?_
  refine HQ.blkE ?_
  refine HQ.thenN ?_
  refine HQ.rseq ?_
  refine pu (Pu.build (us := []) (cs := [.bool false, .slice none 0 0]) [] st47 rfl rfl rfl) trivial z3 ?_
  refine HQ.opN [1] [1] [] (OT.storeC (cs' := [.bool false, .slice none 0 0]) sz47 rfl rfl rfl rfl rfl) z2 z1 rfl rfl rfl (fun _ => rfl) fun _ => ?_
  refine pu Pu.assign z1 z3 ?_
  refine HQ.done ?_
  refine HQ.keep [(4, _), (5, _)] z2 ?_
  refine HQ.ret ?_
  obtain rfl := Option.some.inj H
  refine HQ.nil kTEntry 20 rfl ?_
  exact HQ.fin (vs := [_, _]) Try.results58 (none, 0) ⟨⟨_, _, 1, rfl, rfl, ag47, sz47, rfl⟩, rfl, trivial⟩ rfl [20] z1 rfl
 ·rintro r rfl a w hr
  obtain rfl := Option.some.inj H
  exact hr

theorem spec_l5Copy_c {w : World} {p0 : TNode} {a_0 : Option Addr} {c_0 : Nat} (hb_0 : BorS kTEntry a_0 c_0 p0.L w.heap (Lt w Nil)) {r : TNode} (H : spec_l5Copy p0 = some r) :
  Calls Try.prog 122 #[.agg #[.bool p0.Leaf, vS a_0 p0.L c_0]] w (Rt w Nil (fun g : Option Addr × Nat => .agg #[.bool r.Leaf, vS g.1 r.L g.2]) (fun g => [OwnS kTEntry g.1 g.2 r.L])) := by
 rw [spec_l5Copy] at H
 refine Calls.enter0 (N := 10) (us := [_]) Try.func122 rfl rfl rfl ?_
 refine HQ.rseq ?_
 refine op [] [1] (OT.box (cs := [.bool p0.Leaf, vS a_0 p0.L c_0]) rfl) z1 trivial z4 (fun _ => rfl) fun b1 => ?_
 refine op [] [2] (OT.alloc zc47) trivial trivial z4 (fun _ => rfl) fun b2 => ?_
 refine HQ.done ?_
 refine HQ.keep [(1, _), (2, _)] z2 ?_
 obtain ⟨h8, H⟩ := asr H
 refine HQ.drawS mixd [(1, BP b1 0), (2, BP b2 0)] 6 [⟨[], [], []⟩, ⟨[0], [0], [0]⟩, ⟨[], [1], []⟩, ⟨[], [], []⟩, ⟨[0], [0], [3]⟩, ⟨[1], [2], [2, 4]⟩] [⟨none, none⟩, ⟨some 2, some 5⟩, ⟨some 5, none⟩] (fun (g3 : (Option Addr × Nat) × (Option Addr × Nat)) => [BP b1 0, .bool p0.Leaf, vS g3.1.1 ([] : (List TEntry)) g3.1.2, BP b1 1, vS a_0 p0.L c_0, vS g3.2.1 (([] : (List TEntry)) ++ p0.L) g3.2.2]) (fun (g3 : (Option Addr × Nat) × (Option Addr × Nat)) => [Box b1 [.bool p0.Leaf, vS a_0 p0.L c_0], OwnS kTEntry g3.1.1 g3.1.2 ([] : (List TEntry)), OwnS kTEntry g3.2.1 g3.2.2 (([] : (List TEntry)) ++ p0.L)]) ((none, 0), (none, 0)) [1] [1, 3] [] z2 z1 rfl (by kernel_rfl) (fun _ => rfl) (by kernel_rfl) (fun _ => rfl) ⟨?_, ?_, ?_, ?_, ?_, ?_, trivial⟩ fun g3 => ?_
 ·exact OpOK.pu (fun g3 => [(.tmp 1, BP b1 0)]) z2 (fun _ => z1) (fun _ => (Pu.fieldB fo47_0 rfl)) (fun _ => z1) (fun _ _ => z5)
 ·exact OpOK.of (fun g3 => [(.tmp 3, BP b1 0)]) _ _ (fun g3 _ => g3) rfl rfl (fun _ => z1) (fun g3 => OT.loadB sc4 rfl) (fun _ _ => z5)
 ·exact OpOK.of (fun g3 => []) _ _ (fun g3 x => (x, g3.2)) rfl rfl (fun _ => trivial) (fun g3 => OT.buildF (us := []) (ys := ([] : (List TEntry))) (enc := encTEntry) (hl := fun _ => ⟨rfl, rfl⟩) [] sl45.ul sl45.szE sl45.zc rfl rfl rfl rfl rfl) (fun _ _ => z5)
 ·exact OpOK.pu (fun g3 => [(.tmp 1, BP b1 0)]) z2 (fun _ => z1) (fun _ => (Pu.fieldB fo47_1 rfl)) (fun _ => z1) (fun _ _ => z5)
 ·exact OpOK.of (fun g3 => [(.tmp 6, BP b1 1)]) _ _ (fun g3 _ => g3) rfl rfl (fun _ => z1) (fun g3 => OT.loadB sc45 rfl) (fun _ _ => z5)
 ·exact OpOK.of (fun g3 => [(.tmp 5, vS g3.1.1 ([] : (List TEntry)) g3.1.2), (.tmp 7, vS a_0 p0.L c_0)]) _ _ (fun g3 x => (g3.1, x)) rfl rfl (fun _ => z2) (fun g3 => OT.appendF (enc := encTEntry) (hl := fun _ => ⟨rfl, rfl⟩) sl45 ul45 hb_0 h8) (fun _ _ => z5)
 refine HQ.keep [(2, _), (4, _), (8, _)] z3 ?_
 refine HQ.keepR [(1, _), (2, _), (3, _)] z3 rfl ?_
 refine pu (Pu.build (us := [.bool p0.Leaf, vS g3.2.1 (([] : (List TEntry)) ++ p0.L) g3.2.2]) (cs := [.bool p0.Leaf, vS g3.2.1 (([] : (List TEntry)) ++ p0.L) g3.2.2]) [(0, .tmp 4), (1, .tmp 8)] st47 rfl rfl rfl) z2 z3 ?_
 refine HQ.opN [2] [2] [] (OT.storeC (cs' := [.bool p0.Leaf, vS g3.2.1 (([] : (List TEntry)) ++ p0.L) g3.2.2]) sz47 rfl rfl rfl rfl rfl) z2 z1 rfl rfl rfl (fun _ => rfl) fun _ => ?_
 refine HQ.done ?_
 refine HQ.keep [(2, _)] z1 ?_
 refine HQ.ret ?_
 obtain rfl := Option.some.inj H
 exact HQ.fin (vs := [_]) Try.results122 (g3.2.1, g3.2.2) ⟨⟨_, _, 2, rfl, rfl, ag47, sz47, rfl⟩, trivial⟩ rfl [3] z1 rfl

theorem spec_LastOf_c {w : World} {k : Nat} {p0 : (List TTx)} {p1 : Int} {a_0 : Option Addr} {c_0 : Nat} (hb_0 : BorS kTTx a_0 c_0 p0 w.heap (Lt w Nil)) {r : TNode × Bool} (H : spec_LastOf k p0 p1 = some r) :
  Calls Try.prog 73 #[vS a_0 p0 c_0, vI p1] w (Rt w Nil (fun g : Option Addr × Nat => .tuple #[.agg #[.bool r.1.Leaf, vS g.1 r.1.L g.2], .bool r.2]) (fun g => [OwnS kTEntry g.1 g.2 r.1.L])) := by
 rw [spec_LastOf] at H
 refine Calls.enter0 (N := 47) (us := [_, _]) Try.func73 rfl rfl rfl ?_
 refine HQ.rseq ?_
 refine op [] [1] (OT.alloc zc47) trivial trivial z4 (fun _ => rfl) fun b1 => ?_
 refine pu Pu.assign z1 z3 ?_
 refine HQ.done ?_
 refine HQ.keep [(0, _), (1, _), (4, _), (5, _)] z4 ?_
 refine HQ.seq ?_
 refine HQ.rseq ?_
 refine pu Pu.move z1 z3 ?_
 refine pu (Pu.len ul80) z1 z3 ?_
 refine pu Pu.sub z2 z3 ?_
 refine pu Pu.assign z1 z3 ?_
 refine HQ.done ?_
 refine HQ.keep [(0, _), (1, _), (4, _), (5, _), (6, _)] z5 ?_
 refine HQ.block ?_
 obtain ⟨o276, h278, H⟩ := bnd H
 refine HQ.loop h278 0 (fun (s : Int) (g : Unit) => match s, g with | i93, () => [(0, vS a_0 p0 c_0), (1, vI p1), (4, BP b1 0), (5, .bool false), (6, vI i93)]) (fun (s : Int) (g : Unit) => match s, g with | i93, () => [(1, Box b1 [.bool false, .slice none 0 0])]) (fun r => bodyPost Try.prog Try.f73 (Rt w Nil (fun g : Option Addr × Nat => .tuple #[.agg #[.bool r.1.Leaf, vS g.1 r.1.L g.2], .bool r.2]) (fun g => [OwnS kTEntry g.1 g.2 r.1.L])) .ret) () z5 z1 rfl ?_ ?_ ?_
 ·clear H h278
  rintro i93 _ o H
  rw [spec_LastOf_b2] at H
  refine HQ.keep [(0, _), (1, _), (4, _), (5, _), (6, _)] z5 ?_
  refine HQ.keepR [(1, _)] z1 rfl ?_
  refine HQ.seq ?_
  refine HQ.rseq ?_
  refine pu Pu.move z1 z3 ?_
  refine pu Pu.geq z2 z3 ?_
  refine HQ.done ?_
  refine HQ.keep [(0, _), (1, _), (4, _), (5, _), (6, _), (12, _)] z6 ?_
  rcases brk H with ⟨hc, H⟩ | ⟨hc, H⟩
  ·refine HQ.condT rfl hc ?_
   clear hc
   refine HQ.skipThen ?_
   refine HQ.seq ?_
   refine HQ.block ?_
   refine HQ.rseq ?_
   refine pu Pu.assign z1 z3 ?_
   refine HQ.done ?_
   refine HQ.keep [(0, _), (1, _), (4, _), (5, _), (6, _), (7, _)] z6 ?_
   refine HQ.block ?_
   obtain ⟨o273, h275, H⟩ := bnd H
   refine HQ.loop h275 2 (fun (s : Int) (g : Unit) => match s, g with | i214, () => [(0, vS a_0 p0 c_0), (1, vI p1), (4, BP b1 0), (5, .bool false), (6, vI i93), (7, vI i214)]) (fun (s : Int) (g : Unit) => match s, g with | i214, () => [(1, Box b1 [.bool false, .slice none 0 0])]) (fun r => bodyPost Try.prog Try.f73 (Rt w Nil (fun g : Option Addr × Nat => .tuple #[.agg #[.bool r.1.Leaf, vS g.1 r.1.L g.2], .bool r.2]) (fun g => [OwnS kTEntry g.1 g.2 r.1.L])) .ret) () z6 z1 rfl ?_ ?_ ?_
   ·clear H h275
    rintro i214 _ o H
    rw [spec_LastOf_b3] at H
    refine HQ.keep [(0, _), (1, _), (4, _), (5, _), (6, _), (7, _)] z6 ?_
    refine HQ.keepR [(1, _)] z1 rfl ?_
    refine HQ.seq ?_
    refine HQ.rseq ?_
    refine pu Pu.move z1 z3 ?_
    refine pu Pu.move z1 z3 ?_
    refine pu Pu.move z1 z3 ?_
    obtain ⟨h244, H⟩ := asr H
    refine op [] [] (OT.indexB ul80 sz57 hb_0 h244) z2 trivial z4 (fun _ => rfl) fun _ => ?_
    refine pu (Pu.fieldE fo57_3 rfl) z1 z3 ?_
    obtain ⟨⟨a245, c246⟩, hb247, hn248⟩ := BorS.nest hb_0 h244
    refine op [] [] (OT.loadN (v := vS a245 ((gt p0 i93).Puts) c246) sc55 hn248 hlTTx rfl) z1 trivial z4 (fun _ => rfl) fun _ => ?_
    refine pu (Pu.len ul55) z1 z3 ?_
    refine pu Pu.lss z2 z3 ?_
    refine HQ.done ?_
    refine HQ.keep [(0, _), (1, _), (4, _), (5, _), (6, _), (7, _), (22, _)] z7 ?_
    rcases brk H with ⟨hc, H⟩ | ⟨hc, H⟩
    ·refine HQ.condT rfl hc ?_
     clear hc
     refine HQ.skipThen ?_
     refine HQ.seq ?_
     refine HQ.block ?_
     refine HQ.rseq ?_
     refine pu Pu.move z1 z3 ?_
     refine pu Pu.move z1 z3 ?_
     obtain ⟨h249, H⟩ := asr H
     refine op [] [] (OT.indexB ul80 sz57 hb_0 h249) z2 trivial z4 (fun _ => rfl) fun _ => ?_
     refine pu (Pu.fieldE fo57_3 rfl) z1 z3 ?_
     obtain ⟨⟨a250, c251⟩, hb252, hn253⟩ := BorS.nest hb_0 h249
     refine op [] [] (OT.loadN (v := vS a250 ((gt p0 i93).Puts) c251) sc55 hn253 hlTTx rfl) z1 trivial z4 (fun _ => rfl) fun _ => ?_
     refine pu Pu.move z1 z3 ?_
     obtain ⟨h254, H⟩ := asr H
     refine op [] [] (OT.indexB ul55 sz49 hb252 h254) z2 trivial z4 (fun _ => rfl) fun _ => ?_
     refine pu (Pu.fieldE fo49_0 rfl) z1 z3 ?_
     obtain ⟨⟨a255, c256⟩, hb257, hn258⟩ := BorS.nest hb252 h254
     refine op [] [] (OT.loadN (v := vI ((gt ((gt p0 i93).Puts) i214).Page)) sc3 hn258 hlTChange rfl) z1 trivial z4 (fun _ => rfl) fun _ => ?_
     refine pu Pu.move z1 z3 ?_
     refine pu Pu.eql z2 z3 ?_
     refine HQ.done ?_
     refine HQ.keep [(0, _), (1, _), (4, _), (5, _), (6, _), (7, _), (35, _)] z7 ?_
     rcases brk H with ⟨hc, H⟩ | ⟨hc, H⟩
     ·refine HQ.condT rfl hc ?_
      clear hc
      refine HQ.rseq ?_
      refine pu Pu.move z1 z3 ?_
      refine pu Pu.move z1 z3 ?_
      obtain ⟨h259, H⟩ := asr H
      refine op [] [] (OT.indexB ul80 sz57 hb_0 h259) z2 trivial z4 (fun _ => rfl) fun _ => ?_
      refine pu (Pu.fieldE fo57_3 rfl) z1 z3 ?_
      obtain ⟨⟨a260, c261⟩, hb262, hn263⟩ := BorS.nest hb_0 h259
      refine op [] [] (OT.loadN (v := vS a260 ((gt p0 i93).Puts) c261) sc55 hn263 hlTTx rfl) z1 trivial z4 (fun _ => rfl) fun _ => ?_
      refine pu Pu.move z1 z3 ?_
      obtain ⟨h264, H⟩ := asr H
      refine op [] [] (OT.indexB ul55 sz49 hb262 h264) z2 trivial z4 (fun _ => rfl) fun _ => ?_
      refine pu (Pu.fieldE fo49_1 rfl) z1 z3 ?_
      obtain ⟨⟨a265, c266⟩, hb267, hn268⟩ := BorS.nest hb262 h264
      refine op [] [] (OT.loadNA (vs := [.bool ((gt ((gt p0 i93).Puts) i214).N.Leaf), vS a265 ((gt ((gt p0 i93).Puts) i214).N.L) c266]) ag47 sz47 hn268 hlTChange rfl rfl) z1 trivial z4 (fun _ => rfl) fun _ => ?_
      obtain ⟨t269, h270, H⟩ := bnd H
      refine op [] [10] (OT.call (us := [_]) (Pre := []) [.tmp 44] Try.call122 rfl rfl fun w F hs hF hp => spec_l5Copy_c (hb267.pass hp) h270) z2 trivial z4 (fun _ => rfl) fun ⟨a271, c272⟩ => ?_
      refine HQ.opN [1] [1] [] (OT.storeC (cs' := [.bool t269.Leaf, vS a271 t269.L c272]) sz47 rfl rfl rfl rfl rfl) z2 z1 rfl rfl rfl (fun _ => rfl) fun _ => ?_
      refine pu Pu.assign z1 z3 ?_
      refine HQ.done ?_
      refine HQ.keep [(0, _), (1, _), (4, _), (5, _), (6, _), (7, _)] z6 ?_
      refine HQ.ret ?_
      refine HQ.blkR ?_
      refine HQ.thenR ?_
      obtain rfl := Option.some.inj H
      refine HQ.retL ?_
      exact HQ.fin (vs := [_, _]) Try.results73 (a271, c272) ⟨⟨_, _, 1, rfl, rfl, ag47, sz47, rfl⟩, rfl, trivial⟩ rfl [10] z1 rfl
     ·refine HQ.condF rfl hc ?_
      clear hc
      refine HQ.skip ?_
      refine HQ.blkN ?_
      refine HQ.thenN ?_
      refine HQ.regionQ ?_
      refine pu Pu.move z1 z3 ?_
      refine pu Pu.add z2 z3 ?_
      refine pu Pu.assign z1 z3 ?_
      refine HQ.done ?_
      refine HQ.keep [(0, _), (1, _), (4, _), (5, _), (6, _), (7, _)] z6 ?_
      obtain rfl := Option.some.inj H
      exact HQ.next () z6 z1 rfl
    ·refine HQ.condF rfl hc ?_
     clear hc
     refine HQ.exit ?_
     refine HQ.thenE ?_
     obtain rfl := Option.some.inj H
     exact HQ.out () z6 z1 rfl
   ·rintro i274 rfl _
    clear h275
    replace H := H
    refine HQ.keep [(0, _), (1, _), (4, _), (5, _), (6, _), (7, _)] z6 ?_
    refine HQ.keepR [(1, _)] z1 rfl ?_
    refine HQ.blkE ?_
    refine HQ.blkN ?_
    refine HQ.thenN ?_
    refine HQ.regionQ ?_
    refine pu Pu.move z1 z3 ?_
    refine pu Pu.sub z2 z3 ?_
    refine pu Pu.assign z1 z3 ?_
    refine HQ.done ?_
    refine HQ.keep [(0, _), (1, _), (4, _), (5, _), (6, _)] z5 ?_
    obtain rfl := Option.some.inj H
    exact HQ.next () z5 z1 rfl
   ·rintro r rfl a w hr
    obtain rfl := Option.some.inj H
    exact ⟨rfl, hr⟩
  ·refine HQ.condF rfl hc ?_
   clear hc
   refine HQ.exit ?_
   refine HQ.thenE ?_
   obtain rfl := Option.some.inj H
   exact HQ.out () z5 z1 rfl
 ·rintro i277 rfl _
  clear h278
  replace H := H
  refine HQ.keep [(0, _), (1, _), (4, _), (5, _), (6, _)] z5 ?_
  refine HQ.keepR [(1, _)] z1 rfl ?_
  refine HQ.blkE ?_
  refine HQ.thenN ?_
  refine HQ.rseq ?_
  refine pu (Pu.build (us := []) (cs := [.bool false, .slice none 0 0]) [] st47 rfl rfl rfl) trivial z3 ?_
  refine HQ.opN [1] [1] [] (OT.storeC (cs' := [.bool false, .slice none 0 0]) sz47 rfl rfl rfl rfl rfl) z2 z1 rfl rfl rfl (fun _ => rfl) fun _ => ?_
  refine pu Pu.assign z1 z3 ?_
  refine HQ.done ?_
  refine HQ.keep [(4, _), (5, _)] z2 ?_
  refine HQ.ret ?_
  obtain rfl := Option.some.inj H
  refine HQ.nil kTEntry 11 rfl ?_
  exact HQ.fin (vs := [_, _]) Try.results73 (none, 0) ⟨⟨_, _, 1, rfl, rfl, ag47, sz47, rfl⟩, rfl, trivial⟩ rfl [11] z1 rfl
 ·rintro r rfl a w hr
  obtain rfl := Option.some.inj H
  exact hr

theorem spec_DrawChangedBy_c {w : World} {k : Nat} {p0 : (List Int)} {a_0 : Option Addr} {c_0 : Nat} (hb_0 : BorS kU8 a_0 c_0 p0 w.heap (Lt w Nil)) {r : (List TTx)} (H : spec_DrawChangedBy k p0 = some r) :
  Calls Try.prog 74 #[vS a_0 p0 c_0] w (Rt w Nil (fun g : Option Addr × Nat => vS g.1 r g.2) (fun g => [OwnS kTTx g.1 g.2 r])) := by
 rw [spec_DrawChangedBy] at H
 refine Calls.enter0 (N := 8) (us := [_]) Try.func74 rfl rfl rfl ?_
 refine HQ.rseq ?_
 refine pu Pu.assign z1 z3 ?_
 refine HQ.done ?_
 refine HQ.keep [(0, _), (2, _)] z2 ?_
 refine HQ.rseq ?_
 refine pu Pu.move z1 z3 ?_
 obtain ⟨t1, h2, H⟩ := bnd H
 refine op [] [1] (OT.call (us := [_]) (Pre := []) [.tmp 4] Try.call77 rfl rfl fun w F hs hF hp => spec_l1New_c (hb_0.pass hp) h2) z2 trivial z4 (fun _ => rfl) fun b3 => ?_
 refine pu Pu.assign z1 z3 ?_
 refine HQ.done ?_
 refine HQ.keep [(2, _), (3, _)] z2 ?_
 refine HQ.rseq ?_
 refine pu Pu.move z1 z3 ?_
 obtain ⟨t4, h5, H⟩ := bnd H
 refine op [1] [2, 1] (OT.callM (us := [_, _]) (PreX := [Box b3 [vS a_0 p0 c_0, vI t1.i, vI t1.h]]) (PreL := []) [.tmp 6, .const (vI 4)] Try.call121 rfl rfl fun w FX FL hs1 hF1 hs2 hF2 hp => spec_l20Txs_c (p0 := (⟨p0, t1.i, t1.h⟩ : TCur)) (p1 := 4) hs1 hF1 (hb_0.passY hp) h5) z3 z1 z4 (fun _ => rfl) fun ⟨a6, c7⟩ => ?_
 refine pu Pu.assign z1 z3 ?_
 refine HQ.done ?_
 refine HQ.keep [(2, _)] z1 ?_
 refine HQ.ret ?_
 obtain rfl := Option.some.inj H
 exact HQ.fin (vs := [_]) Try.results74 (a6, c7) z1 rfl [2] z1 rfl

theorem laws_same_c {w : World} {k : Nat} {p0 : (List Int)} {p1 : (List Int)} {a_0 : Option Addr} {c_0 : Nat} {a_1 : Option Addr} {c_1 : Nat} (hb_0 : BorS kU8 a_0 c_0 p0 w.heap (Lt w Nil)) (hb_1 : BorS kU8 a_1 c_1 p1 w.heap (Lt w Nil)) {r : Bool} (H : laws_same k p0 p1 = some r) :
  Calls Try.prog 23 #[vS a_0 p0 c_0, vS a_1 p1 c_1] w (Rt w Nil (fun _ : Unit => .bool r) (fun _ => [])) := by
 rw [laws_same] at H
 refine Calls.enter0 (N := 26) (us := [_, _]) Try.func23 rfl rfl rfl ?_
 refine HQ.rseq ?_
 refine pu Pu.assign z1 z3 ?_
 refine HQ.done ?_
 refine HQ.keep [(0, _), (1, _), (4, _)] z3 ?_
 refine HQ.seq ?_
 refine HQ.rseq ?_
 refine pu Pu.move z1 z3 ?_
 refine pu (Pu.len ul22) z1 z3 ?_
 refine pu Pu.move z1 z3 ?_
 refine pu (Pu.len ul22) z1 z3 ?_
 refine pu Pu.neq z2 z3 ?_
 refine HQ.done ?_
 refine HQ.keep [(0, _), (1, _), (4, _), (10, _)] z4 ?_
 rcases brk H with ⟨hc, H⟩ | ⟨hc, H⟩
 ·refine HQ.condT rfl hc ?_
  clear hc
  refine HQ.rseq ?_
  refine pu Pu.assign z1 z3 ?_
  refine HQ.done ?_
  refine HQ.keep [(0, _), (1, _), (4, _)] z3 ?_
  refine HQ.ret ?_
  refine HQ.thenR ?_
  obtain rfl := Option.some.inj H
  exact HQ.fin (vs := [_]) Try.results23 () z1 rfl [] trivial rfl
 ·refine HQ.condF rfl hc ?_
  clear hc
  refine HQ.skipThen ?_
  refine HQ.seq ?_
  refine HQ.rseq ?_
  refine pu Pu.assign z1 z3 ?_
  refine HQ.done ?_
  refine HQ.keep [(0, _), (1, _), (4, _), (5, _)] z4 ?_
  refine HQ.block ?_
  obtain ⟨o11, h13, H⟩ := bnd H
  refine HQ.loop h13 0 (fun (s : Int) (g : Unit) => match s, g with | i4, () => [(0, vS a_0 p0 c_0), (1, vS a_1 p1 c_1), (4, .bool false), (5, vI i4)]) (fun (s : Int) (g : Unit) => match s, g with | i4, () => []) (fun r => bodyPost Try.prog Try.f23 (Rt w Nil (fun _ : Unit => .bool r) (fun _ => [])) .ret) () z4 trivial rfl ?_ ?_ ?_
  ·clear H h13
   rintro i4 _ o H
   rw [laws_same_b0] at H
   refine HQ.keep [(0, _), (1, _), (4, _), (5, _)] z4 ?_
   refine HQ.keepR [] trivial rfl ?_
   refine HQ.seq ?_
   refine HQ.rseq ?_
   refine pu Pu.move z1 z3 ?_
   refine pu Pu.move z1 z3 ?_
   refine pu (Pu.len ul22) z1 z3 ?_
   refine pu Pu.lss z2 z3 ?_
   refine HQ.done ?_
   refine HQ.keep [(0, _), (1, _), (4, _), (5, _), (14, _)] z5 ?_
   rcases brk H with ⟨hc, H⟩ | ⟨hc, H⟩
   ·refine HQ.condT rfl hc ?_
    clear hc
    refine HQ.skipThen ?_
    refine HQ.seq ?_
    refine HQ.block ?_
    obtain ⟨h9, H⟩ := asr H
    obtain ⟨h10, H⟩ := asr H
    refine HQ.drawS mixd [(0, vS a_0 p0 c_0), (1, vS a_1 p1 c_1), (4, .bool false), (5, vI i4)] 8 [⟨[], [], []⟩, ⟨[], [], []⟩, ⟨[], [], [0, 1]⟩, ⟨[], [], [2]⟩, ⟨[], [], []⟩, ⟨[], [], []⟩, ⟨[], [], [4, 5]⟩, ⟨[], [], [6]⟩] [] (fun (g8 : Unit) => [vS a_0 p0 c_0, vI i4, EP a_0 i4 1 0, .int .u8 (gt p0 i4), vS a_1 p1 c_1, vI i4, EP a_1 i4 1 0, .int .u8 (gt p1 i4)]) (fun (g8 : Unit) => []) () [] [] [] z4 trivial rfl (by kernel_rfl) (fun _ => rfl) (by kernel_rfl) (fun _ => rfl) ⟨?_, ?_, ?_, ?_, ?_, ?_, ?_, ?_, trivial⟩ fun g8 => ?_
    ·exact OpOK.pu (fun g8 => [(.tmp 0, vS a_0 p0 c_0)]) z2 (fun _ => z1) (fun _ => Pu.move) (fun _ => z1) (fun _ _ => z2)
    ·exact OpOK.pu (fun g8 => [(.tmp 5, vI i4)]) z2 (fun _ => z1) (fun _ => Pu.move) (fun _ => z1) (fun _ _ => z2)
    ·exact OpOK.of (fun g8 => [(.tmp 17, vS a_0 p0 c_0), (.tmp 18, vI i4)]) _ _ (fun g8 _ => g8) rfl rfl (fun _ => z2) (fun g8 => OT.indexB ul22 sz5 hb_0 h9) (fun _ _ => z2)
    ·exact OpOK.of (fun g8 => [(.tmp 19, EP a_0 i4 1 0)]) _ _ (fun g8 _ => g8) rfl rfl (fun _ => z1) (fun g8 => OT.loadF sc5 hb_0 h9 rfl) (fun _ _ => z2)
    ·exact OpOK.pu (fun g8 => [(.tmp 1, vS a_1 p1 c_1)]) z2 (fun _ => z1) (fun _ => Pu.move) (fun _ => z1) (fun _ _ => z2)
    ·exact OpOK.pu (fun g8 => [(.tmp 5, vI i4)]) z2 (fun _ => z1) (fun _ => Pu.move) (fun _ => z1) (fun _ _ => z2)
    ·exact OpOK.of (fun g8 => [(.tmp 21, vS a_1 p1 c_1), (.tmp 22, vI i4)]) _ _ (fun g8 _ => g8) rfl rfl (fun _ => z2) (fun g8 => OT.indexB ul22 sz5 hb_1 h10) (fun _ _ => z2)
    ·exact OpOK.of (fun g8 => [(.tmp 23, EP a_1 i4 1 0)]) _ _ (fun g8 _ => g8) rfl rfl (fun _ => z1) (fun g8 => OT.loadF sc5 hb_1 h10 rfl) (fun _ _ => z2)
    refine HQ.keep [(0, _), (1, _), (4, _), (5, _), (20, _), (24, _)] z6 ?_
    refine HQ.keepR [] trivial rfl ?_
    refine pu Pu.neq z2 z3 ?_
    refine HQ.done ?_
    refine HQ.keep [(0, _), (1, _), (4, _), (5, _), (25, _)] z5 ?_
    rcases brk H with ⟨hc, H⟩ | ⟨hc, H⟩
    ·refine HQ.condT rfl hc ?_
     clear hc
     refine HQ.rseq ?_
     refine pu Pu.assign z1 z3 ?_
     refine HQ.done ?_
     refine HQ.keep [(0, _), (1, _), (4, _), (5, _)] z4 ?_
     refine HQ.ret ?_
     refine HQ.blkR ?_
     refine HQ.thenR ?_
     obtain rfl := Option.some.inj H
     refine HQ.retL ?_
     exact HQ.fin (vs := [_]) Try.results23 () z1 rfl [] trivial rfl
    ·refine HQ.condF rfl hc ?_
     clear hc
     refine HQ.skip ?_
     refine HQ.blkN ?_
     refine HQ.thenN ?_
     refine HQ.regionQ ?_
     refine pu Pu.move z1 z3 ?_
     refine pu Pu.add z2 z3 ?_
     refine pu Pu.assign z1 z3 ?_
     refine HQ.done ?_
     refine HQ.keep [(0, _), (1, _), (4, _), (5, _)] z4 ?_
     obtain rfl := Option.some.inj H
     exact HQ.next () z4 trivial rfl
   ·refine HQ.condF rfl hc ?_
    clear hc
    refine HQ.exit ?_
    refine HQ.thenE ?_
    obtain rfl := Option.some.inj H
    exact HQ.out () z4 trivial rfl
  ·rintro i12 rfl _
   clear h13
   replace H := H
   refine HQ.keep [(0, _), (1, _), (4, _), (5, _)] z4 ?_
   refine HQ.keepR [] trivial rfl ?_
   refine HQ.blkE ?_
   refine HQ.thenN ?_
   refine HQ.rseq ?_
   refine pu Pu.assign z1 z3 ?_
   refine HQ.done ?_
   refine HQ.keep [(4, _)] z1 ?_
   refine HQ.ret ?_
   obtain rfl := Option.some.inj H
   exact HQ.fin (vs := [_]) Try.results23 () z1 rfl [] trivial rfl
  ·rintro r rfl a w hr
   obtain rfl := Option.some.inj H
   exact hr

end Go.Proofs.Sx
