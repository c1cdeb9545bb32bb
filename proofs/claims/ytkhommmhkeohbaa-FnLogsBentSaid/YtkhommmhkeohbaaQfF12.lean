import Derived.Test.YtkhommmhkeohbaaQfF11
import Derived.KernelRfl
namespace Go.Proofs.Sx
open Go.RowKit
set_option linter.unusedVariables false
set_option linter.unusedSimpArgs false
set_option maxRecDepth 20000
set_option maxHeartbeats 1000000
theorem spec_l6Same_c {w : World} {k : Nat} {p0 : (List Int)} {p1 : (List Int)} {a_0 : Option Addr} {c_0 : Nat} {a_1 : Option Addr} {c_1 : Nat} (hb_0 : BorS kU8 a_0 c_0 p0 w.heap (Lt w Nil)) (hb_1 : BorS kU8 a_1 c_1 p1 w.heap (Lt w Nil)) {r : Bool} (H : spec_l6Same k p0 p1 = some r) :
  Calls Try.prog 114 #[vS a_0 p0 c_0, vS a_1 p1 c_1] w (Rt w Nil (fun _ : Unit => .bool r) (fun _ => [])) := by
 rw [spec_l6Same] at H
 refine Calls.enter0 (N := 26) (us := [_, _]) Try.func114 rfl rfl rfl ?_
 refine HQ.rseq ?_
 refine pu Pu.assign z1 z3 ?_
 refine HQ.done ?_
 refine HQ.keep [(0, _), (1, _), (4, _)] z3 ?_
 refine HQ.seq ?_
 refine HQ.rseq ?_
 refine pu Pu.move z1 z3 ?_
 refine pu (Pu.len ul22) z1 z3 ?_
 refine pu Pu.move z1 z3 ?_
 refine pu (Pu.len ul22) z1 z3 ?_
 refine pu Pu.neq z2 z3 ?_
 refine HQ.done ?_
 refine HQ.keep [(0, _), (1, _), (4, _), (10, _)] z4 ?_
 rcases brk H with ⟨hc, H⟩ | ⟨hc, H⟩
 ·refine HQ.condT rfl hc ?_
  clear hc
  refine HQ.rseq ?_
  refine pu Pu.assign z1 z3 ?_
  refine HQ.done ?_
  refine HQ.keep [(0, _), (1, _), (4, _)] z3 ?_
  refine HQ.ret ?_
  refine HQ.thenR ?_
  obtain rfl := Option.some.inj H
  exact HQ.fin (vs := [_]) Try.results114 () z1 rfl [] trivial rfl
 ·refine HQ.condF rfl hc ?_
  clear hc
  refine HQ.skipThen ?_
  refine HQ.seq ?_
  refine HQ.rseq ?_
  refine pu Pu.assign z1 z3 ?_
  refine HQ.done ?_
  refine HQ.keep [(0, _), (1, _), (4, _), (5, _)] z4 ?_
  refine HQ.block ?_
  obtain ⟨o11, h13, H⟩ := bnd H
  refine HQ.loop h13 0 (fun (s : Int) (g : Unit) => match s, g with | i4, () => [(0, vS a_0 p0 c_0), (1, vS a_1 p1 c_1), (4, .bool false), (5, vI i4)]) (fun (s : Int) (g : Unit) => match s, g with | i4, () => []) (fun r => bodyPost Try.prog Try.f114 (Rt w Nil (fun _ : Unit => .bool r) (fun _ => [])) .ret) () z4 trivial rfl ?_ ?_ ?_
  ·clear H h13
   rintro i4 _ o H
   rw [spec_l6Same_b0] at H
   refine HQ.keep [(0, _), (1, _), (4, _), (5, _)] z4 ?_
   refine HQ.keepR [] trivial rfl ?_
   refine HQ.seq ?_
   refine HQ.rseq ?_
   refine pu Pu.move z1 z3 ?_
   refine pu Pu.move z1 z3 ?_
   refine pu (Pu.len ul22) z1 z3 ?_
   refine pu Pu.lss z2 z3 ?_
   refine HQ.done ?_
   refine HQ.keep [(0, _), (1, _), (4, _), (5, _), (14, _)] z5 ?_
   rcases brk H with ⟨hc, H⟩ | ⟨hc, H⟩
   ·refine HQ.condT rfl hc ?_
    clear hc
    refine HQ.skipThen ?_
    refine HQ.seq ?_
    refine HQ.block ?_
    obtain ⟨h9, H⟩ := asr H
    obtain ⟨h10, H⟩ := asr H
    refine HQ.drawS mixd [(0, vS a_0 p0 c_0), (1, vS a_1 p1 c_1), (4, .bool false), (5, vI i4)] 8 [⟨[], [], []⟩, ⟨[], [], []⟩, ⟨[], [], [0, 1]⟩, ⟨[], [], [2]⟩, ⟨[], [], []⟩, ⟨[], [], []⟩, ⟨[], [], [4, 5]⟩, ⟨[], [], [6]⟩] [] (fun (g8 : Unit) => [vS a_0 p0 c_0, vI i4, EP a_0 i4 1 0, .int .u8 (gt p0 i4), vS a_1 p1 c_1, vI i4, EP a_1 i4 1 0, .int .u8 (gt p1 i4)]) (fun (g8 : Unit) => []) () [] [] [] z4 trivial rfl (by kernel_rfl) (fun _ => rfl) (by kernel_rfl) (fun _ => rfl) ⟨?_, ?_, ?_, ?_, ?_, ?_, ?_, ?_, trivial⟩ fun g8 => ?_
    ·exact OpOK.pu (fun g8 => [(.tmp 0, vS a_0 p0 c_0)]) z2 (fun _ => z1) (fun _ => Pu.move) (fun _ => z1) (fun _ _ => z2)
    ·exact OpOK.pu (fun g8 => [(.tmp 5, vI i4)]) z2 (fun _ => z1) (fun _ => Pu.move) (fun _ => z1) (fun _ _ => z2)
    ·exact OpOK.of (fun g8 => [(.tmp 17, vS a_0 p0 c_0), (.tmp 18, vI i4)]) _ _ (fun g8 _ => g8) rfl rfl (fun _ => z2) (fun g8 => OT.indexB ul22 sz5 hb_0 h9) (fun _ _ => z2)
    ·exact OpOK.of (fun g8 => [(.tmp 19, EP a_0 i4 1 0)]) _ _ (fun g8 _ => g8) rfl rfl (fun _ => z1) (fun g8 => OT.loadF sc5 hb_0 h9 rfl) (fun _ _ => z2)
    ·exact OpOK.pu (fun g8 => [(.tmp 1, vS a_1 p1 c_1)]) z2 (fun _ => z1) (fun _ => Pu.move) (fun _ => z1) (fun _ _ => z2)
    ·exact OpOK.pu (fun g8 => [(.tmp 5, vI i4)]) z2 (fun _ => z1) (fun _ => Pu.move) (fun _ => z1) (fun _ _ => z2)
    ·exact OpOK.of (fun g8 => [(.tmp 21, vS a_1 p1 c_1), (.tmp 22, vI i4)]) _ _ (fun g8 _ => g8) rfl rfl (fun _ => z2) (fun g8 => OT.indexB ul22 sz5 hb_1 h10) (fun _ _ => z2)
    ·exact OpOK.of (fun g8 => [(.tmp 23, EP a_1 i4 1 0)]) _ _ (fun g8 _ => g8) rfl rfl (fun _ => z1) (fun g8 => OT.loadF sc5 hb_1 h10 rfl) (fun _ _ => z2)
    refine HQ.keep [(0, _), (1, _), (4, _), (5, _), (20, _), (24, _)] z6 ?_
    refine HQ.keepR [] trivial rfl ?_
    refine pu Pu.neq z2 z3 ?_
    refine HQ.done ?_
    refine HQ.keep [(0, _), (1, _), (4, _), (5, _), (25, _)] z5 ?_
    rcases brk H with ⟨hc, H⟩ | ⟨hc, H⟩
    ·refine HQ.condT rfl hc ?_
     clear hc
     refine HQ.rseq ?_
     refine pu Pu.assign z1 z3 ?_
     refine HQ.done ?_
     refine HQ.keep [(0, _), (1, _), (4, _), (5, _)] z4 ?_
     refine HQ.ret ?_
     refine HQ.blkR ?_
     refine HQ.thenR ?_
     obtain rfl := Option.some.inj H
     refine HQ.retL ?_
     exact HQ.fin (vs := [_]) Try.results114 () z1 rfl [] trivial rfl
    ·refine HQ.condF rfl hc ?_
     clear hc
     refine HQ.skip ?_
     refine HQ.blkN ?_
     refine HQ.thenN ?_
     refine HQ.regionQ ?_
     refine pu Pu.move z1 z3 ?_
     refine pu Pu.add z2 z3 ?_
     refine pu Pu.assign z1 z3 ?_
     refine HQ.done ?_
     refine HQ.keep [(0, _), (1, _), (4, _), (5, _)] z4 ?_
     obtain rfl := Option.some.inj H
     exact HQ.next () z4 trivial rfl
   ·refine HQ.condF rfl hc ?_
    clear hc
    refine HQ.exit ?_
    refine HQ.thenE ?_
    obtain rfl := Option.some.inj H
    exact HQ.out () z4 trivial rfl
  ·rintro i12 rfl _
   clear h13
   replace H := H
   refine HQ.keep [(0, _), (1, _), (4, _), (5, _)] z4 ?_
   refine HQ.keepR [] trivial rfl ?_
   refine HQ.blkE ?_
   refine HQ.thenN ?_
   refine HQ.rseq ?_
   refine pu Pu.assign z1 z3 ?_
   refine HQ.done ?_
   refine HQ.keep [(4, _)] z1 ?_
   refine HQ.ret ?_
   obtain rfl := Option.some.inj H
   exact HQ.fin (vs := [_]) Try.results114 () z1 rfl [] trivial rfl
  ·rintro r rfl a w hr
   obtain rfl := Option.some.inj H
   exact hr

theorem spec_GetNode_c {w : World} {k : Nat} {p0 : (List Int)} {a_0 : Option Addr} {c_0 : Nat} (hb_0 : BorS kU8 a_0 c_0 p0 w.heap (Lt w Nil)) {r : TNode × Bool} (H : spec_GetNode k p0 = some r) :
  Calls Try.prog 120 #[vS a_0 p0 c_0] w (Rt w Nil (fun g : Option Addr × Nat => .tuple #[.agg #[.bool r.1.Leaf, vS g.1 r.1.L g.2], .bool r.2]) (fun g => [OwnS kTEntry g.1 g.2 r.1.L])) := by
 rw [spec_GetNode] at H
 refine Calls.enter0 (N := 56) (us := [_]) Try.func120 rfl rfl rfl ?_
 refine HQ.rseq ?_
 refine op [] [1] (OT.alloc zc47) trivial trivial z4 (fun _ => rfl) fun b1 => ?_
 refine pu Pu.assign z1 z3 ?_
 refine HQ.done ?_
 refine HQ.keep [(0, _), (2, _), (3, _)] z3 ?_
 refine HQ.seq ?_
 refine HQ.rseq ?_
 refine pu Pu.move z1 z3 ?_
 refine pu (Pu.len ul22) z1 z3 ?_
 refine pu Pu.neq z2 z3 ?_
 refine HQ.done ?_
 refine HQ.keep [(0, _), (2, _), (3, _), (11, _)] z4 ?_
 rcases brk H with ⟨hc, H⟩ | ⟨hc, H⟩
 ·refine HQ.condT rfl hc ?_
  clear hc
  refine HQ.rseq ?_
  refine pu (Pu.build (us := []) (cs := [.bool false, .slice none 0 0]) [] st47 rfl rfl rfl) trivial z3 ?_
  refine HQ.opN [1] [1] [] (OT.storeC (cs' := [.bool false, .slice none 0 0]) sz47 rfl rfl rfl rfl rfl) z2 z1 rfl rfl rfl (fun _ => rfl) fun _ => ?_
  refine pu Pu.assign z1 z3 ?_
  refine HQ.done ?_
  refine HQ.keep [(0, _), (2, _), (3, _)] z3 ?_
  refine HQ.ret ?_
  refine HQ.thenR ?_
  obtain rfl := Option.some.inj H
  refine HQ.nil kTEntry 2 rfl ?_
  exact HQ.fin (vs := [_, _]) Try.results120 (none, 0) ⟨⟨_, _, 1, rfl, rfl, ag47, sz47, rfl⟩, rfl, trivial⟩ rfl [2] z1 rfl
 ·refine HQ.condF rfl hc ?_
  clear hc
  refine HQ.skipThen ?_
  refine HQ.rseq ?_
  refine pu Pu.move z1 z3 ?_
  obtain ⟨h2, H⟩ := asr H
  refine op [] [] (OT.indexB ul22 sz5 hb_0 h2) z2 trivial z4 (fun _ => rfl) fun _ => ?_
  refine op [] [] (OT.loadF sc5 hb_0 h2 rfl) z1 trivial z4 (fun _ => rfl) fun _ => ?_
  refine pu Pu.geq z2 z3 ?_
  refine pu (Pu.build (us := [.bool (decide ((gt p0 0) ≥ 16))]) (cs := [.bool (decide ((gt p0 0) ≥ 16)), .slice none 0 0]) [(0, .tmp 16)] st47 rfl rfl rfl) z1 z3 ?_
  refine op [] [3] (OT.alloc zc47) trivial trivial z4 (fun _ => rfl) fun b3 => ?_
  refine HQ.opN [3] [3] [] (OT.storeC (cs' := [.bool (decide ((gt p0 0) ≥ 16)), .slice none 0 0]) sz47 rfl rfl rfl rfl rfl) z2 z1 rfl rfl rfl (fun _ => rfl) fun _ => ?_
  refine HQ.done ?_
  refine HQ.keep [(0, _), (2, _), (3, _), (4, _)] z4 ?_
  refine HQ.rseq ?_
  refine pu Pu.move z1 z3 ?_
  obtain ⟨h4, H⟩ := asr H
  refine op [] [] (OT.indexB ul22 sz5 hb_0 h4) z2 trivial z4 (fun _ => rfl) fun _ => ?_
  refine op [] [] (OT.loadF sc5 hb_0 h4 rfl) z1 trivial z4 (fun _ => rfl) fun _ => ?_
  refine pu (Pu.conv ul5 ul3) z1 z3 ?_
  refine pu (Pu.rem (by decide)) z2 z3 ?_
  refine pu Pu.assign z1 z3 ?_
  refine HQ.done ?_
  refine HQ.keep [(0, _), (2, _), (3, _), (4, _), (5, _)] z5 ?_
  refine HQ.seq ?_
  refine HQ.rseq ?_
  refine pu Pu.assign z1 z3 ?_
  refine HQ.done ?_
  refine HQ.keep [(0, _), (2, _), (3, _), (4, _), (5, _), (6, _)] z6 ?_
  refine HQ.block ?_
  refine HQ.nil kTEntry 7 rfl ?_
  obtain ⟨o36, h47, H⟩ := bnd H
  refine HQ.loop h47 0 (fun (s : Int × (List TEntry)) (g : Option Addr × Nat) => match s, g with | (i14, l15), (a16, c17) => [(0, vS a_0 p0 c_0), (2, BP b1 0), (3, .bool false), (4, BP b3 0), (5, vI (Int.tmod (IntKind.i64.wrap (gt p0 0)) 16)), (6, vI i14)]) (fun (s : Int × (List TEntry)) (g : Option Addr × Nat) => match s, g with | (i14, l15), (a16, c17) => [(1, Box b1 [.bool false, .slice none 0 0]), (3, Box b3 [.bool (decide ((gt p0 0) ≥ 16)), vS a16 l15 c17]), (7, OwnS kTEntry a16 c17 l15)]) (fun r => bodyPost Try.prog Try.f120 (Rt w Nil (fun g : Option Addr × Nat => .tuple #[.agg #[.bool r.1.Leaf, vS g.1 r.1.L g.2], .bool r.2]) (fun g => [OwnS kTEntry g.1 g.2 r.1.L])) .ret) (none, 0) z6 z3 rfl ?_ ?_ ?_
  ·clear H h47
   rintro ⟨i14, l15⟩ ⟨a16, c17⟩ o H
   rw [spec_GetNode_b0] at H
   refine HQ.keep [(0, _), (2, _), (3, _), (4, _), (5, _), (6, _)] z6 ?_
   refine HQ.keepR [(1, _), (3, _), (7, _)] z3 rfl ?_
   refine HQ.seq ?_
   refine HQ.rseq ?_
   refine pu Pu.move z1 z3 ?_
   refine pu Pu.move z1 z3 ?_
   refine pu Pu.lss z2 z3 ?_
   refine pu Pu.move z1 z3 ?_
   refine HQ.cutAt 3 [(29, .bool ((decide (i14 < (Int.tmod (IntKind.i64.wrap (gt p0 0)) 16))) && (decide ((Int.tmod (IntKind.i64.wrap (gt p0 0)) 16) ≤ 4)))), (0, vS a_0 p0 c_0), (2, BP b1 0), (3, .bool false), (4, BP b3 0), (5, vI (Int.tmod (IntKind.i64.wrap (gt p0 0)) 16)), (6, vI i14)] [(1, Box b1 [.bool false, .slice none 0 0]), (3, Box b3 [.bool (decide ((gt p0 0) ≥ 16)), vS a16 l15 c17]), (7, OwnS kTEntry a16 c17 l15)] ?_ ?_
   ·rcases Bool.eq_false_or_eq_true (decide (i14 < (Int.tmod (IntKind.i64.wrap (gt p0 0)) 16))) with hg27 | hg27
    ·refine HQ.on rfl rfl hg27 ?_
     refine pu Pu.move z1 z3 ?_
     refine HQ.on rfl rfl hg27 ?_
     refine pu Pu.leq z2 z3 ?_
     refine pu (Pu.pickAT hg27) z2 z3 ?_
     exact HQ.mid z7 z3 rfl
    ·refine HQ.off rfl rfl hg27 rfl ?_
     refine HQ.off rfl rfl hg27 rfl ?_
     refine pu (Pu.pickAF (u := (decide ((Int.tmod (IntKind.i64.wrap (gt p0 0)) 16) ≤ 4))) hg27) z2 z3 ?_
     exact HQ.mid z7 z3 rfl
   refine HQ.done ?_
   refine HQ.keep [(29, _), (0, _), (2, _), (3, _), (4, _), (5, _), (6, _)] z7 ?_
   rcases brk H with ⟨hc, H⟩ | ⟨hc, H⟩
   ·refine HQ.condT rfl hc ?_
    clear hc
    refine HQ.skipThen ?_
    refine HQ.seq ?_
    refine HQ.block ?_
    refine HQ.rseq ?_
    refine pu Pu.move z1 z3 ?_
    refine pu Pu.move z1 z3 ?_
    refine pu Pu.mul z2 z3 ?_
    refine pu Pu.add z2 z3 ?_
    obtain ⟨t28, h29, H⟩ := bnd H
    refine op [] [] (OT.call (us := [_, _]) (Pre := []) [.tmp 33, .tmp 36] Try.call135 rfl rfl fun w F hs hF hp => spec_GetEntry_c (hb_0.pass hp) h29) z3 trivial z4 (fun _ => rfl) fun _ => ?_
    refine pu Pu.move z1 z3 ?_
    refine pu (Pu.extract rfl) z1 z3 ?_
    refine pu (Pu.extract rfl) z1 z3 ?_
    refine op [] [10] (OT.alloc zc134) trivial trivial z4 (fun _ => rfl) fun b30 => ?_
    refine HQ.opN [10] [10] [] (OT.storeC (cs' := [vI t28.1.N, vI t28.1.R.X0, vI t28.1.R.Y0, vI t28.1.R.X1, vI t28.1.R.Y1]) sz134 rfl rfl rfl rfl rfl) z2 z1 rfl rfl rfl (fun _ => rfl) fun _ => ?_
    refine pu Pu.assign z1 z3 ?_
    refine HQ.done ?_
    refine HQ.keep [(0, _), (2, _), (3, _), (4, _), (5, _), (6, _), (7, _), (8, _)] z8 ?_
    refine HQ.seq ?_
    refine HQ.rseq ?_
    refine pu Pu.move z1 z3 ?_
    refine pu Pu.not z1 z3 ?_
    refine HQ.done ?_
    refine HQ.keep [(0, _), (2, _), (3, _), (4, _), (5, _), (6, _), (7, _), (41, _)] z8 ?_
    rcases brk H with ⟨hc, H⟩ | ⟨hc, H⟩
    ·refine HQ.condT rfl hc ?_
     clear hc
     refine HQ.rseq ?_
     refine pu (Pu.build (us := []) (cs := [.bool false, .slice none 0 0]) [] st47 rfl rfl rfl) trivial z3 ?_
     refine HQ.opN [1] [1] [] (OT.storeC (cs' := [.bool false, .slice none 0 0]) sz47 rfl rfl rfl rfl rfl) z2 z1 rfl rfl rfl (fun _ => rfl) fun _ => ?_
     refine pu Pu.assign z1 z3 ?_
     refine HQ.done ?_
     refine HQ.keep [(0, _), (2, _), (3, _), (4, _), (5, _), (6, _), (7, _)] z7 ?_
     refine HQ.ret ?_
     refine HQ.thenR ?_
     refine HQ.blkR ?_
     refine HQ.thenR ?_
     obtain rfl := Option.some.inj H
     refine HQ.nil kTEntry 11 rfl ?_
     refine HQ.retL ?_
     exact HQ.fin (vs := [_, _]) Try.results120 (none, 0) ⟨⟨_, _, 1, rfl, rfl, ag47, sz47, rfl⟩, rfl, trivial⟩ rfl [11] z1 rfl
    ·refine HQ.condF rfl hc ?_
     clear hc
     refine HQ.skipThen ?_
     refine HQ.regionQ ?_
     refine pu (Pu.fieldB fo47_1 rfl) z1 z3 ?_
     refine op [3] [3] (OT.loadB sc45 rfl) z1 z1 z4 (fun _ => rfl) fun _ => ?_
     refine op [10] [10] (OT.loadBA (vs := [vI t28.1.N, vI t28.1.R.X0, vI t28.1.R.Y0, vI t28.1.R.X1, vI t28.1.R.Y1]) ag134 sz134 rfl rfl) z1 z1 z4 (fun _ => rfl) fun _ => ?_
     refine op [] [12] (OT.buildF (us := [.agg #[vI t28.1.N, vI t28.1.R.X0, vI t28.1.R.Y0, vI t28.1.R.X1, vI t28.1.R.Y1]]) (ys := ([t28.1] : (List TEntry))) (enc := encTEntry) (hl := fun _ => ⟨rfl, rfl⟩) [.tmp 45] sl45.ul sl45.szE sl45.zc rfl rfl rfl rfl rfl) z1 trivial z4 (fun _ => rfl) fun ⟨a31, c32⟩ => ?_
     obtain ⟨h35, H⟩ := asr H
     refine op [7, 12] [7, 12] (OT.appendG (enc := encTEntry) (hl := fun _ => ⟨rfl, rfl⟩) sl45 ul45 h35) z2 z2 z4 (fun _ => rfl) fun ⟨a33, c34⟩ => ?_
     refine pu (Pu.fieldB fo47_1 rfl) z1 z3 ?_
     refine HQ.opN [3] [3] [] (OT.storeC (cs' := [.bool (decide ((gt p0 0) ≥ 16)), vS a33 (l15 ++ ([t28.1] : (List TEntry))) c34]) sz45 rfl rfl rfl rfl rfl) z2 z1 rfl rfl rfl (fun _ => rfl) fun _ => ?_
     refine HQ.done ?_
     refine HQ.keep [(0, _), (2, _), (3, _), (4, _), (5, _), (6, _)] z6 ?_
     refine HQ.blkN ?_
     refine HQ.thenN ?_
     refine HQ.regionQ ?_
     refine pu Pu.move z1 z3 ?_
     refine pu Pu.add z2 z3 ?_
     refine pu Pu.assign z1 z3 ?_
     refine HQ.done ?_
     refine HQ.keep [(0, _), (2, _), (3, _), (4, _), (5, _), (6, _)] z6 ?_
     obtain rfl := Option.some.inj H
     exact HQ.next (a33, c34) z6 z3 rfl
   ·refine HQ.condF rfl hc ?_
    clear hc
    refine HQ.exit ?_
    refine HQ.thenE ?_
    obtain rfl := Option.some.inj H
    exact HQ.out (a16, c17) z6 z3 rfl
  ·rintro ⟨i37, l38⟩ rfl ⟨a39, c40⟩
   clear h47
   replace H := H
   refine HQ.keep [(0, _), (2, _), (3, _), (4, _), (5, _), (6, _)] z6 ?_
   refine HQ.keepR [(1, _), (3, _), (7, _)] z3 rfl ?_
   refine HQ.blkE ?_
   refine HQ.thenN ?_
   refine HQ.seq ?_
   refine HQ.rseq ?_
   refine op [3] [3] (OT.loadBA (vs := [.bool (decide ((gt p0 0) ≥ 16)), vS a39 l38 c40]) ag47 sz47 rfl rfl) z1 z1 z4 (fun _ => rfl) fun _ => ?_
   obtain ⟨t41, h42, H⟩ := bnd H
   refine op [7] [13, 7] (OT.call (us := [_]) (Pre := [OwnS kTEntry a39 c40 l38]) [.tmp 49] Try.call107 rfl rfl fun w F hs hF hp => spec_PutNode_c (hs.lend hF 0 rfl) h42) z2 z1 z4 (fun _ => rfl) fun ⟨a43, c44⟩ => ?_
   refine pu Pu.move z1 z3 ?_
   obtain ⟨t45, h46, H⟩ := bnd H
   refine op [13] [13] (OT.call (us := [_, _]) (Pre := [OwnS kU8 a43 c44 t41]) [.tmp 50, .tmp 51] Try.call114 rfl rfl fun w F hs hF hp => spec_l6Same_c (hs.lend hF 0 rfl) (hb_0.pass hp) h46) z3 z1 z4 (fun _ => rfl) fun _ => ?_
   refine pu Pu.not z1 z3 ?_
   refine HQ.done ?_
   refine HQ.keep [(2, _), (3, _), (4, _), (53, _)] z4 ?_
   rcases brk H with ⟨hc, H⟩ | ⟨hc, H⟩
   ·refine HQ.condT rfl hc ?_
    clear hc
    refine HQ.rseq ?_
    refine pu (Pu.build (us := []) (cs := [.bool false, .slice none 0 0]) [] st47 rfl rfl rfl) trivial z3 ?_
    refine HQ.opN [1] [1] [] (OT.storeC (cs' := [.bool false, .slice none 0 0]) sz47 rfl rfl rfl rfl rfl) z2 z1 rfl rfl rfl (fun _ => rfl) fun _ => ?_
    refine pu Pu.assign z1 z3 ?_
    refine HQ.done ?_
    refine HQ.keep [(2, _), (3, _), (4, _)] z3 ?_
    refine HQ.ret ?_
    refine HQ.thenR ?_
    obtain rfl := Option.some.inj H
    refine HQ.nil kTEntry 14 rfl ?_
    exact HQ.fin (vs := [_, _]) Try.results120 (none, 0) ⟨⟨_, _, 1, rfl, rfl, ag47, sz47, rfl⟩, rfl, trivial⟩ rfl [14] z1 rfl
   ·refine HQ.condF rfl hc ?_
    clear hc
    refine HQ.skipThen ?_
    refine HQ.rseq ?_
    refine op [3] [3] (OT.loadBA (vs := [.bool (decide ((gt p0 0) ≥ 16)), vS a39 l38 c40]) ag47 sz47 rfl rfl) z1 z1 z4 (fun _ => rfl) fun _ => ?_
    refine HQ.opN [1] [1] [] (OT.storeC (cs' := [.bool (decide ((gt p0 0) ≥ 16)), vS a39 l38 c40]) sz47 rfl rfl rfl rfl rfl) z2 z1 rfl rfl rfl (fun _ => rfl) fun _ => ?_
    refine pu Pu.assign z1 z3 ?_
    refine HQ.done ?_
    refine HQ.keep [(2, _), (3, _)] z2 ?_
    refine HQ.ret ?_
    obtain rfl := Option.some.inj H
    exact HQ.fin (vs := [_, _]) Try.results120 (a39, c40) ⟨⟨_, _, 1, rfl, rfl, ag47, sz47, rfl⟩, rfl, trivial⟩ rfl [7] z1 rfl
  ·rintro r rfl a w hr
   obtain rfl := Option.some.inj H
   exact hr

theorem spec_GetPut_c {w : World} {k : Nat} {p0 : Int} {p1 : (List Int)} {a_0 : Option Addr} {c_0 : Nat} (hb_0 : BorS kU8 a_0 c_0 p1 w.heap (Lt w Nil)) {r : TChange × Bool} (H : spec_GetPut k p0 p1 = some r) :
  Calls Try.prog 60 #[vI p0, vS a_0 p1 c_0] w (Rt w Nil (fun g : Option Addr × Nat => .tuple #[.agg #[vI r.1.Page, .bool r.1.N.Leaf, vS g.1 r.1.N.L g.2], .bool r.2]) (fun g => [OwnS kTEntry g.1 g.2 r.1.N.L])) := by
 rw [spec_GetPut] at H
 refine Calls.enter0 (N := 38) (us := [_, _]) Try.func60 rfl rfl rfl ?_
 refine HQ.rseq ?_
 refine op [] [1] (OT.alloc zc49) trivial trivial z4 (fun _ => rfl) fun b1 => ?_
 refine pu Pu.assign z1 z3 ?_
 refine HQ.done ?_
 refine HQ.keep [(0, _), (1, _), (4, _), (5, _)] z4 ?_
 refine HQ.seq ?_
 refine HQ.rseq ?_
 refine pu Pu.move z1 z3 ?_
 refine pu (Pu.len ul22) z1 z3 ?_
 refine pu Pu.neq z2 z3 ?_
 refine HQ.done ?_
 refine HQ.keep [(0, _), (1, _), (4, _), (5, _), (11, _)] z5 ?_
 rcases brk H with ⟨hc, H⟩ | ⟨hc, H⟩
 ·refine HQ.condT rfl hc ?_
  clear hc
  refine HQ.rseq ?_
  refine pu (Pu.build (us := []) (cs := [vI 0, .bool false, .slice none 0 0]) [] st49 rfl rfl rfl) trivial z3 ?_
  refine HQ.opN [1] [1] [] (OT.storeC (cs' := [vI 0, .bool false, .slice none 0 0]) sz49 rfl rfl rfl rfl rfl) z2 z1 rfl rfl rfl (fun _ => rfl) fun _ => ?_
  refine pu Pu.assign z1 z3 ?_
  refine HQ.done ?_
  refine HQ.keep [(0, _), (1, _), (4, _), (5, _)] z4 ?_
  refine HQ.ret ?_
  refine HQ.thenR ?_
  obtain rfl := Option.some.inj H
  refine HQ.nil kTEntry 2 rfl ?_
  exact HQ.fin (vs := [_, _]) Try.results60 (none, 0) ⟨⟨_, _, 1, rfl, rfl, ag49, sz49, rfl⟩, rfl, trivial⟩ rfl [2] z1 rfl
 ·refine HQ.condF rfl hc ?_
  clear hc
  refine HQ.skipThen ?_
  refine HQ.rseq ?_
  refine pu Pu.move z1 z3 ?_
  obtain ⟨h2, H⟩ := asr H
  refine op [] [] (OT.cutB (vs := [(.const (vI 4), vI 4), (.const (vI 29), vI 29)]) (l := 4) (h := 29) ul22 sz5 hb_0 (.inr ⟨_, _, rfl, .tail _ (.head _)⟩) (.inr ⟨_, _, rfl, .tail _ (.tail _ (.head _))⟩) h2) z3 trivial z4 (fun _ => rfl) fun _ => ?_
  obtain ⟨t3, h4, H⟩ := bnd H
  refine op [] [3] (OT.call (us := [_]) (Pre := []) [.tmp 15] Try.call120 rfl rfl fun w F hs hF hp => spec_GetNode_c ((hb_0.slice h2).pass hp) h4) z2 trivial z4 (fun _ => rfl) fun ⟨a5, c6⟩ => ?_
  refine pu Pu.move z1 z3 ?_
  refine pu (Pu.extract rfl) z1 z3 ?_
  refine pu (Pu.extract rfl) z1 z3 ?_
  refine op [] [4] (OT.alloc zc47) trivial trivial z4 (fun _ => rfl) fun b7 => ?_
  refine HQ.opN [4] [4] [] (OT.storeC (cs' := [.bool t3.1.Leaf, vS a5 t3.1.L c6]) sz47 rfl rfl rfl rfl rfl) z2 z1 rfl rfl rfl (fun _ => rfl) fun _ => ?_
  refine pu Pu.assign z1 z3 ?_
  refine HQ.done ?_
  refine HQ.keep [(0, _), (1, _), (4, _), (5, _), (6, _), (7, _)] z6 ?_
  obtain ⟨h9, H⟩ := asr H
  refine HQ.drawS mixd [(0, vI p0), (1, vS a_0 p1 c_0), (4, BP b1 0), (5, .bool false), (6, BP b7 0), (7, .bool t3.2)] 7 [⟨[], [], []⟩, ⟨[], [], [0]⟩, ⟨[], [], [1]⟩, ⟨[], [], [2]⟩, ⟨[0], [0], []⟩, ⟨[], [], [3, 4]⟩, ⟨[], [1], []⟩] [⟨none, none⟩, ⟨some 6, none⟩] (fun (g8 : Nat) => [vS a_0 p1 c_0, EP a_0 3 1 0, .int .u8 (gt p1 3), vI (IntKind.i64.wrap (gt p1 3)), .agg #[.bool t3.1.Leaf, vS a5 t3.1.L c6], .agg #[vI (IntKind.i64.wrap (gt p1 3)), .bool t3.1.Leaf, vS a5 t3.1.L c6], BP g8 0]) (fun (g8 : Nat) => [Box b7 [.bool t3.1.Leaf, vS a5 t3.1.L c6], Box g8 [vI 0, .bool false, .slice none 0 0]]) 0 [4] [4, 5] [] z6 z1 rfl (by kernel_rfl) (fun _ => rfl) (by kernel_rfl) (fun _ => rfl) ⟨?_, ?_, ?_, ?_, ?_, ?_, ?_, trivial⟩ fun g8 => ?_
  ·exact OpOK.pu (fun g8 => [(.tmp 1, vS a_0 p1 c_0)]) z2 (fun _ => z1) (fun _ => Pu.move) (fun _ => z1) (fun _ _ => z4)
  ·exact OpOK.of (fun g8 => [(.tmp 19, vS a_0 p1 c_0), (.const (vI 3), vI 3)]) _ _ (fun g8 _ => g8) rfl rfl (fun _ => z2) (fun g8 => OT.indexB ul22 sz5 hb_0 h9) (fun _ _ => z4)
  ·exact OpOK.of (fun g8 => [(.tmp 20, EP a_0 3 1 0)]) _ _ (fun g8 _ => g8) rfl rfl (fun _ => z1) (fun g8 => OT.loadF sc5 hb_0 h9 rfl) (fun _ _ => z4)
  ·exact OpOK.pu (fun g8 => [(.tmp 21, .int .u8 (gt p1 3))]) z2 (fun _ => z1) (fun _ => (Pu.conv ul5 ul3)) (fun _ => z1) (fun _ _ => z4)
  ·exact OpOK.of (fun g8 => [(.tmp 6, BP b7 0)]) _ _ (fun g8 _ => g8) rfl rfl (fun _ => z1) (fun g8 => OT.loadBA (vs := [.bool t3.1.Leaf, vS a5 t3.1.L c6]) ag47 sz47 rfl rfl) (fun _ _ => z4)
  ·exact OpOK.pu (fun g8 => [(.tmp 22, vI (IntKind.i64.wrap (gt p1 3))), (.tmp 23, .agg #[.bool t3.1.Leaf, vS a5 t3.1.L c6])]) z2 (fun _ => z2) (fun _ => (Pu.build (us := [vI (IntKind.i64.wrap (gt p1 3)), .agg #[.bool t3.1.Leaf, vS a5 t3.1.L c6]]) (cs := [vI (IntKind.i64.wrap (gt p1 3)), .bool t3.1.Leaf, vS a5 t3.1.L c6]) [(0, .tmp 22), (1, .tmp 23)] st49 rfl rfl rfl)) (fun _ => z1) (fun _ _ => z4)
  ·exact OpOK.of (fun g8 => []) _ _ (fun g8 x => x) rfl rfl (fun _ => trivial) (fun g8 => OT.alloc zc49) (fun _ _ => z4)
  refine HQ.keep [(0, _), (1, _), (4, _), (5, _), (7, _), (24, _), (8, _)] z7 ?_
  refine HQ.keepR [(1, _), (3, _), (4, _), (5, _)] z4 rfl ?_
  refine HQ.opN [5] [5] [] (OT.storeC (cs' := [vI (IntKind.i64.wrap (gt p1 3)), .bool t3.1.Leaf, vS a5 t3.1.L c6]) sz49 rfl rfl rfl rfl rfl) z2 z1 rfl rfl rfl (fun _ => rfl) fun _ => ?_
  refine HQ.done ?_
  refine HQ.keep [(0, _), (1, _), (4, _), (5, _), (7, _), (8, _)] z6 ?_
  refine HQ.seq ?_
  refine HQ.rseq ?_
  refine pu Pu.move z1 z3 ?_
  refine pu Pu.not z1 z3 ?_
  refine pu Pu.move z1 z3 ?_
  obtain ⟨c22, h23, H⟩ := bnd H
  refine HQ.cutAt 8 [(35, .bool c22), (4, BP b1 0), (5, .bool false), (8, BP g8 0)] [(1, Box b1 [vI 0, .bool false, .slice none 0 0]), (3, OwnS kTEntry a5 c6 t3.1.L), (4, Box b7 [.bool t3.1.Leaf, vS a5 t3.1.L c6]), (5, Box g8 [vI (IntKind.i64.wrap (gt p1 3)), .bool t3.1.Leaf, vS a5 t3.1.L c6])] ?_ ?_
  ·clear H
   have H := h23
   rcases brk H with ⟨hg11, H⟩ | ⟨hg11, H⟩
   ·obtain rfl := Option.some.inj H
    refine HQ.off rfl rfl hg11 rfl ?_
    refine HQ.off rfl rfl hg11 rfl ?_
    refine HQ.off rfl rfl hg11 rfl ?_
    refine HQ.off rfl rfl hg11 rfl ?_
    refine HQ.off rfl rfl hg11 rfl ?_
    refine HQ.off rfl rfl hg11 rfl ?_
    refine HQ.off rfl rfl hg11 rfl ?_
    refine pu (Pu.pickC1 hg11) z2 z3 ?_
    exact HQ.mid z4 z4 rfl
   ·refine HQ.on rfl rfl hg11 ?_
    refine pu Pu.move z1 z3 ?_
    refine HQ.on rfl rfl hg11 ?_
    refine op [5] [5] (OT.loadBA (vs := [vI (IntKind.i64.wrap (gt p1 3)), .bool t3.1.Leaf, vS a5 t3.1.L c6]) ag49 sz49 rfl rfl) z1 z1 z4 (fun _ => rfl) fun _ => ?_
    refine HQ.on rfl rfl hg11 ?_
    obtain ⟨t12, h13, H⟩ := bnd H
    refine op [3] [6, 3] (OT.call (us := [_, _]) (Pre := [OwnS kTEntry a5 c6 t3.1.L]) [.tmp 28, .tmp 29] Try.call33 rfl rfl fun w F hs hF hp => spec_PutCell_c (hs.lend hF 0 rfl) h13) z3 z1 z4 (fun _ => rfl) fun ⟨a14, c15⟩ => ?_
    refine HQ.on rfl rfl hg11 ?_
    obtain ⟨t16, h17, H⟩ := bnd H
    refine op [6] [7, 6] (OT.call (us := [_, _]) (Pre := [OwnS kU8 a14 c15 t12]) [.tmp 30, .const (vI 32)] Try.call92 rfl rfl fun w F hs hF hp => spec_Pad_c (hs.lend hF 0 rfl) h17) z3 z1 z4 (fun _ => rfl) fun ⟨a18, c19⟩ => ?_
    refine HQ.on rfl rfl hg11 ?_
    refine pu Pu.move z1 z3 ?_
    refine HQ.on rfl rfl hg11 ?_
    obtain ⟨t20, h21, H⟩ := bnd H
    refine op [7] [7] (OT.call (us := [_, _]) (Pre := [OwnS kU8 a18 c19 t16]) [.tmp 31, .tmp 32] Try.call114 rfl rfl fun w F hs hF hp => spec_l6Same_c (hs.lend hF 0 rfl) (hb_0.pass hp) h21) z3 z1 z4 (fun _ => rfl) fun _ => ?_
    refine HQ.on rfl rfl hg11 ?_
    refine pu Pu.not z1 z3 ?_
    obtain rfl := Option.some.inj H
    refine pu (Pu.pickC0 hg11) z2 z3 ?_
    exact HQ.mid z4 z4 rfl
  refine HQ.done ?_
  refine HQ.keep [(35, _), (4, _), (5, _), (8, _)] z4 ?_
  rcases brk H with ⟨hc, H⟩ | ⟨hc, H⟩
  ·refine HQ.condT rfl hc ?_
   clear hc
   refine HQ.rseq ?_
   refine pu (Pu.build (us := []) (cs := [vI 0, .bool false, .slice none 0 0]) [] st49 rfl rfl rfl) trivial z3 ?_
   refine HQ.opN [1] [1] [] (OT.storeC (cs' := [vI 0, .bool false, .slice none 0 0]) sz49 rfl rfl rfl rfl rfl) z2 z1 rfl rfl rfl (fun _ => rfl) fun _ => ?_
   refine pu Pu.assign z1 z3 ?_
   refine HQ.done ?_
   refine HQ.keep [(4, _), (5, _), (8, _)] z3 ?_
   refine HQ.ret ?_
   refine HQ.thenR ?_
   obtain rfl := Option.some.inj H
   refine HQ.nil kTEntry 8 rfl ?_
   exact HQ.fin (vs := [_, _]) Try.results60 (none, 0) ⟨⟨_, _, 1, rfl, rfl, ag49, sz49, rfl⟩, rfl, trivial⟩ rfl [8] z1 rfl
  ·refine HQ.condF rfl hc ?_
   clear hc
   refine HQ.skipThen ?_
   refine HQ.rseq ?_
   refine op [5] [5] (OT.loadBA (vs := [vI (IntKind.i64.wrap (gt p1 3)), .bool t3.1.Leaf, vS a5 t3.1.L c6]) ag49 sz49 rfl rfl) z1 z1 z4 (fun _ => rfl) fun _ => ?_
   refine HQ.opN [1] [1] [] (OT.storeC (cs' := [vI (IntKind.i64.wrap (gt p1 3)), .bool t3.1.Leaf, vS a5 t3.1.L c6]) sz49 rfl rfl rfl rfl rfl) z2 z1 rfl rfl rfl (fun _ => rfl) fun _ => ?_
   refine pu Pu.assign z1 z3 ?_
   refine HQ.done ?_
   refine HQ.keep [(4, _), (5, _)] z2 ?_
   refine HQ.ret ?_
   obtain rfl := Option.some.inj H
   exact HQ.fin (vs := [_, _]) Try.results60 (a5, c6) ⟨⟨_, _, 1, rfl, rfl, ag49, sz49, rfl⟩, rfl, trivial⟩ rfl [3] z1 rfl

theorem spec_GetEnd_c {w : World} {k : Nat} {p0 : Int} {p1 : (List Int)} {a_0 : Option Addr} {c_0 : Nat} (hb_0 : BorS kU8 a_0 c_0 p1 w.heap (Lt w Nil)) {r : TTx × Int × Bool} (H : spec_GetEnd k p0 p1 = some r) :
  Calls Try.prog 62 #[vI p0, vS a_0 p1 c_0] w (Rt w Nil (fun g : Option Addr × Nat => .tuple #[.agg #[vI r.1.Seq, vI r.1.Root, vI r.1.Size, vS g.1 r.1.Puts g.2], vI r.2.1, .bool r.2.2]) (fun g => [OwnS kTChange g.1 g.2 r.1.Puts])) := by
 rw [spec_GetEnd] at H
 refine Calls.enter0 (N := 78) (us := [_, _]) Try.func62 rfl rfl rfl ?_
 refine HQ.rseq ?_
 refine op [] [1] (OT.alloc zc57) trivial trivial z4 (fun _ => rfl) fun b1 => ?_
 refine pu Pu.assign z1 z3 ?_
 refine pu Pu.assign z1 z3 ?_
 refine HQ.done ?_
 refine HQ.keep [(0, _), (1, _), (4, _), (5, _), (6, _)] z5 ?_
 refine HQ.seq ?_
 refine HQ.rseq ?_
 refine pu Pu.move z1 z3 ?_
 refine pu (Pu.len ul22) z1 z3 ?_
 refine pu Pu.neq z2 z3 ?_
 refine pu Pu.move z1 z3 ?_
 obtain ⟨c4, h5, H⟩ := bnd H
 refine HQ.cutAt 5 [(21, .bool c4), (0, vI p0), (1, vS a_0 p1 c_0), (4, BP b1 0), (5, vI 0), (6, .bool false)] [(1, Box b1 [vI 0, vI 0, vI 0, .slice none 0 0])] ?_ ?_
 ·clear H
  have H := h5
  rcases brk H with ⟨hg2, H⟩ | ⟨hg2, H⟩
  ·obtain rfl := Option.some.inj H
   refine HQ.off rfl rfl hg2 rfl ?_
   refine HQ.off rfl rfl hg2 rfl ?_
   refine HQ.off rfl rfl hg2 rfl ?_
   refine HQ.off rfl rfl hg2 rfl ?_
   refine pu (Pu.pickC1 hg2) z2 z3 ?_
   exact HQ.mid z6 z1 rfl
  ·refine HQ.on rfl rfl hg2 ?_
   refine pu Pu.move z1 z3 ?_
   refine HQ.on rfl rfl hg2 ?_
   obtain ⟨h3, H⟩ := asr H
   refine op [] [] (OT.indexB ul22 sz5 hb_0 h3) z2 trivial z4 (fun _ => rfl) fun _ => ?_
   refine HQ.on rfl rfl hg2 ?_
   refine op [] [] (OT.loadF sc5 hb_0 h3 rfl) z1 trivial z4 (fun _ => rfl) fun _ => ?_
   refine HQ.on rfl rfl hg2 ?_
   refine pu Pu.neq z2 z3 ?_
   obtain rfl := Option.some.inj H
   refine pu (Pu.pickC0 hg2) z2 z3 ?_
   exact HQ.mid z6 z1 rfl
 refine HQ.done ?_
 refine HQ.keep [(21, _), (0, _), (1, _), (4, _), (5, _), (6, _)] z6 ?_
 rcases brk H with ⟨hc, H⟩ | ⟨hc, H⟩
 ·refine HQ.condT rfl hc ?_
  clear hc
  refine HQ.rseq ?_
  refine pu (Pu.build (us := []) (cs := [vI 0, vI 0, vI 0, .slice none 0 0]) [] st57 rfl rfl rfl) trivial z3 ?_
  refine HQ.opN [1] [1] [] (OT.storeC (cs' := [vI 0, vI 0, vI 0, .slice none 0 0]) sz57 rfl rfl rfl rfl rfl) z2 z1 rfl rfl rfl (fun _ => rfl) fun _ => ?_
  refine pu Pu.assign z1 z3 ?_
  refine pu Pu.assign z1 z3 ?_
  refine HQ.done ?_
  refine HQ.keep [(0, _), (1, _), (4, _), (5, _), (6, _)] z5 ?_
  refine HQ.ret ?_
  refine HQ.thenR ?_
  obtain rfl := Option.some.inj H
  refine HQ.nil kTChange 2 rfl ?_
  exact HQ.fin (vs := [_, _, _]) Try.results62 (none, 0) ⟨⟨_, _, 1, rfl, rfl, ag57, sz57, rfl⟩, rfl, rfl, trivial⟩ rfl [2] z1 rfl
 ·refine HQ.condF rfl hc ?_
  clear hc
  refine HQ.skipThen ?_
  refine HQ.rseq ?_
  refine pu Pu.move z1 z3 ?_
  obtain ⟨t6, h7, H⟩ := bnd H
  refine op [] [] (OT.call (us := [_, _]) (Pre := []) [.tmp 24, .const (vI 1)] Try.call113 rfl rfl fun w F hs hF hp => spec_Get2_c (hb_0.pass hp) h7) z3 trivial z4 (fun _ => rfl) fun _ => ?_
  refine pu Pu.move z1 z3 ?_
  refine pu (Pu.extract rfl) z1 z3 ?_
  refine pu (Pu.extract rfl) z1 z3 ?_
  refine pu Pu.assign z1 z3 ?_
  refine pu Pu.assign z1 z3 ?_
  refine HQ.done ?_
  refine HQ.keep [(0, _), (1, _), (4, _), (5, _), (6, _), (7, _)] z6 ?_
  refine HQ.rseq ?_
  refine pu Pu.move z1 z3 ?_
  obtain ⟨t8, h9, H⟩ := bnd H
  refine op [] [] (OT.call (us := [_, _]) (Pre := []) [.tmp 29, .const (vI 3)] Try.call113 rfl rfl fun w F hs hF hp => spec_Get2_c (hb_0.pass hp) h9) z3 trivial z4 (fun _ => rfl) fun _ => ?_
  refine pu Pu.move z1 z3 ?_
  refine pu (Pu.extract rfl) z1 z3 ?_
  refine pu (Pu.extract rfl) z1 z3 ?_
  refine pu Pu.assign z1 z3 ?_
  refine pu Pu.assign z1 z3 ?_
  refine HQ.done ?_
  refine HQ.keep [(0, _), (1, _), (4, _), (5, _), (6, _), (7, _), (9, _)] z7 ?_
  obtain ⟨h11, H⟩ := asr H
  obtain ⟨h12, H⟩ := asr H
  refine HQ.drawS mixd [(0, vI p0), (1, vS a_0 p1 c_0), (4, BP b1 0), (5, vI 0), (6, .bool false), (7, vI t6.1), (9, vI t8.1)] 11 [⟨[], [], []⟩, ⟨[], [], []⟩, ⟨[], [], [1]⟩, ⟨[], [], [2]⟩, ⟨[], [], [3]⟩, ⟨[], [], []⟩, ⟨[], [], [5]⟩, ⟨[], [], [6]⟩, ⟨[], [], [7]⟩, ⟨[], [], [0, 4, 8]⟩, ⟨[], [0], []⟩] [⟨some 10, none⟩] (fun (g10 : Nat) => [vI t8.1, vS a_0 p1 c_0, EP a_0 5 1 0, .int .u8 (gt p1 5), vI (IntKind.i64.wrap (gt p1 5)), vS a_0 p1 c_0, EP a_0 6 1 0, .int .u8 (gt p1 6), vI (IntKind.i64.wrap (gt p1 6)), .agg #[vI t8.1, vI (IntKind.i64.wrap (gt p1 5)), vI (IntKind.i64.wrap (gt p1 6)), .slice none 0 0], BP g10 0]) (fun (g10 : Nat) => [Box g10 [vI 0, vI 0, vI 0, .slice none 0 0]]) 0 [] [3] [] z7 trivial rfl (by kernel_rfl) (fun _ => rfl) (by kernel_rfl) (fun _ => rfl) ⟨?_, ?_, ?_, ?_, ?_, ?_, ?_, ?_, ?_, ?_, ?_, trivial⟩ fun g10 => ?_
  ·exact OpOK.pu (fun g10 => [(.tmp 9, vI t8.1)]) z2 (fun _ => z1) (fun _ => Pu.move) (fun _ => z1) (fun _ _ => z3)
  ·exact OpOK.pu (fun g10 => [(.tmp 1, vS a_0 p1 c_0)]) z2 (fun _ => z1) (fun _ => Pu.move) (fun _ => z1) (fun _ _ => z3)
  ·exact OpOK.of (fun g10 => [(.tmp 34, vS a_0 p1 c_0), (.const (vI 5), vI 5)]) _ _ (fun g10 _ => g10) rfl rfl (fun _ => z2) (fun g10 => OT.indexB ul22 sz5 hb_0 h11) (fun _ _ => z3)
  ·exact OpOK.of (fun g10 => [(.tmp 35, EP a_0 5 1 0)]) _ _ (fun g10 _ => g10) rfl rfl (fun _ => z1) (fun g10 => OT.loadF sc5 hb_0 h11 rfl) (fun _ _ => z3)
  ·exact OpOK.pu (fun g10 => [(.tmp 36, .int .u8 (gt p1 5))]) z2 (fun _ => z1) (fun _ => (Pu.conv ul5 ul3)) (fun _ => z1) (fun _ _ => z3)
  ·exact OpOK.pu (fun g10 => [(.tmp 1, vS a_0 p1 c_0)]) z2 (fun _ => z1) (fun _ => Pu.move) (fun _ => z1) (fun _ _ => z3)
  ·exact OpOK.of (fun g10 => [(.tmp 38, vS a_0 p1 c_0), (.const (vI 6), vI 6)]) _ _ (fun g10 _ => g10) rfl rfl (fun _ => z2) (fun g10 => OT.indexB ul22 sz5 hb_0 h12) (fun _ _ => z3)
  ·exact OpOK.of (fun g10 => [(.tmp 39, EP a_0 6 1 0)]) _ _ (fun g10 _ => g10) rfl rfl (fun _ => z1) (fun g10 => OT.loadF sc5 hb_0 h12 rfl) (fun _ _ => z3)
  ·exact OpOK.pu (fun g10 => [(.tmp 40, .int .u8 (gt p1 6))]) z2 (fun _ => z1) (fun _ => (Pu.conv ul5 ul3)) (fun _ => z1) (fun _ _ => z3)
  ·exact OpOK.pu (fun g10 => [(.tmp 33, vI t8.1), (.tmp 37, vI (IntKind.i64.wrap (gt p1 5))), (.tmp 41, vI (IntKind.i64.wrap (gt p1 6)))]) z2 (fun _ => z3) (fun _ => (Pu.build (us := [vI t8.1, vI (IntKind.i64.wrap (gt p1 5)), vI (IntKind.i64.wrap (gt p1 6))]) (cs := [vI t8.1, vI (IntKind.i64.wrap (gt p1 5)), vI (IntKind.i64.wrap (gt p1 6)), .slice none 0 0]) [(0, .tmp 33), (1, .tmp 37), (2, .tmp 41)] st57 rfl rfl rfl)) (fun _ => z1) (fun _ _ => z3)
  ·exact OpOK.of (fun g10 => []) _ _ (fun g10 x => x) rfl rfl (fun _ => trivial) (fun g10 => OT.alloc zc57) (fun _ _ => z3)
  refine HQ.keep [(0, _), (1, _), (4, _), (5, _), (6, _), (7, _), (42, _), (11, _)] z8 ?_
  refine HQ.keepR [(1, _), (3, _)] z2 rfl ?_
  refine HQ.opN [3] [3] [] (OT.storeC (cs' := [vI t8.1, vI (IntKind.i64.wrap (gt p1 5)), vI (IntKind.i64.wrap (gt p1 6)), .slice none 0 0]) sz57 rfl rfl rfl rfl rfl) z2 z1 rfl rfl rfl (fun _ => rfl) fun _ => ?_
  refine HQ.done ?_
  refine HQ.keep [(0, _), (1, _), (4, _), (5, _), (6, _), (7, _), (11, _)] z7 ?_
  refine HQ.seq ?_
  refine HQ.rseq ?_
  refine pu Pu.assign z1 z3 ?_
  refine HQ.done ?_
  refine HQ.keep [(0, _), (1, _), (4, _), (5, _), (6, _), (7, _), (11, _), (12, _)] z8 ?_
  refine HQ.block ?_
  obtain ⟨o18, h34, H⟩ := bnd H
  refine HQ.loop h34 0 (fun (s : Int) (g : Unit) => match s, g with | i15, () => [(0, vI p0), (1, vS a_0 p1 c_0), (4, BP b1 0), (5, vI 0), (6, .bool false), (7, vI t6.1), (11, BP g10 0), (12, vI i15)]) (fun (s : Int) (g : Unit) => match s, g with | i15, () => [(1, Box b1 [vI 0, vI 0, vI 0, .slice none 0 0]), (3, Box g10 [vI t8.1, vI (IntKind.i64.wrap (gt p1 5)), vI (IntKind.i64.wrap (gt p1 6)), .slice none 0 0])]) (fun r => bodyPost Try.prog Try.f62 (Rt w Nil (fun g : Option Addr × Nat => .tuple #[.agg #[vI r.1.Seq, vI r.1.Root, vI r.1.Size, vS g.1 r.1.Puts g.2], vI r.2.1, .bool r.2.2]) (fun g => [OwnS kTChange g.1 g.2 r.1.Puts])) .ret) () z8 z2 rfl ?_ ?_ ?_
  ·clear H h34
   rintro i15 _ o H
   rw [spec_GetEnd_b0] at H
   refine HQ.keep [(0, _), (1, _), (4, _), (5, _), (6, _), (7, _), (11, _), (12, _)] z8 ?_
   refine HQ.keepR [(1, _), (3, _)] z2 rfl ?_
   refine HQ.seq ?_
   refine HQ.rseq ?_
   refine pu Pu.move z1 z3 ?_
   refine pu Pu.move z1 z3 ?_
   refine pu (Pu.len ul22) z1 z3 ?_
   refine pu Pu.lss z2 z3 ?_
   refine HQ.done ?_
   refine HQ.keep [(0, _), (1, _), (4, _), (5, _), (6, _), (7, _), (11, _), (12, _), (46, _)] z9 ?_
   rcases brk H with ⟨hc, H⟩ | ⟨hc, H⟩
   ·refine HQ.condT rfl hc ?_
    clear hc
    refine HQ.skipThen ?_
    refine HQ.seq ?_
    refine HQ.block ?_
    refine HQ.rseq ?_
    refine pu Pu.move z1 z3 ?_
    refine pu Pu.move z1 z3 ?_
    obtain ⟨h17, H⟩ := asr H
    refine op [] [] (OT.indexB ul22 sz5 hb_0 h17) z2 trivial z4 (fun _ => rfl) fun _ => ?_
    refine op [] [] (OT.loadF sc5 hb_0 h17 rfl) z1 trivial z4 (fun _ => rfl) fun _ => ?_
    refine pu Pu.neq z2 z3 ?_
    refine HQ.done ?_
    refine HQ.keep [(0, _), (1, _), (4, _), (5, _), (6, _), (7, _), (11, _), (12, _), (53, _)] z9 ?_
    rcases brk H with ⟨hc, H⟩ | ⟨hc, H⟩
    ·refine HQ.condT rfl hc ?_
     clear hc
     refine HQ.rseq ?_
     refine pu (Pu.build (us := []) (cs := [vI 0, vI 0, vI 0, .slice none 0 0]) [] st57 rfl rfl rfl) trivial z3 ?_
     refine HQ.opN [1] [1] [] (OT.storeC (cs' := [vI 0, vI 0, vI 0, .slice none 0 0]) sz57 rfl rfl rfl rfl rfl) z2 z1 rfl rfl rfl (fun _ => rfl) fun _ => ?_
     refine pu Pu.assign z1 z3 ?_
     refine pu Pu.assign z1 z3 ?_
     refine HQ.done ?_
     refine HQ.keep [(0, _), (1, _), (4, _), (5, _), (6, _), (7, _), (11, _), (12, _)] z8 ?_
     refine HQ.ret ?_
     refine HQ.blkR ?_
     refine HQ.thenR ?_
     obtain rfl := Option.some.inj H
     refine HQ.nil kTChange 4 rfl ?_
     refine HQ.retL ?_
     exact HQ.fin (vs := [_, _, _]) Try.results62 (none, 0) ⟨⟨_, _, 1, rfl, rfl, ag57, sz57, rfl⟩, rfl, rfl, trivial⟩ rfl [4] z1 rfl
    ·refine HQ.condF rfl hc ?_
     clear hc
     refine HQ.skip ?_
     refine HQ.blkN ?_
     refine HQ.thenN ?_
     refine HQ.regionQ ?_
     refine pu Pu.move z1 z3 ?_
     refine pu Pu.add z2 z3 ?_
     refine pu Pu.assign z1 z3 ?_
     refine HQ.done ?_
     refine HQ.keep [(0, _), (1, _), (4, _), (5, _), (6, _), (7, _), (11, _), (12, _)] z8 ?_
     obtain rfl := Option.some.inj H
     exact HQ.next () z8 z2 rfl
   ·refine HQ.condF rfl hc ?_
    clear hc
    refine HQ.exit ?_
    refine HQ.thenE ?_
    obtain rfl := Option.some.inj H
    exact HQ.out () z8 z2 rfl
  ·rintro i19 rfl _
   clear h34
   replace H := H
   refine HQ.keep [(0, _), (1, _), (4, _), (5, _), (6, _), (7, _), (11, _), (12, _)] z8 ?_
   refine HQ.keepR [(1, _), (3, _)] z2 rfl ?_
   refine HQ.blkE ?_
   refine HQ.thenN ?_
   refine HQ.seq ?_
   refine HQ.seq ?_
   refine HQ.dStart mixd ?_
   refine HQ.dPart [(0, vI p0), (1, vS a_0 p1 c_0), (4, BP b1 0), (5, vI 0), (6, .bool false), (7, vI t6.1), (11, BP g10 0)] 2 [⟨[], [], []⟩, ⟨[], [], []⟩] [] (fun (g20 : Unit) => [vI t6.1, vI p0]) (fun (g20 : Unit) => []) () [] [] [] z7 trivial rfl (by kernel_rfl) (by kernel_rfl) (fun _ => rfl) (by kernel_rfl) (fun _ => rfl) rfl ⟨?_, ?_, trivial⟩ fun g20 => ?_
   ·exact OpOK2.pu (fun g20 => [(.tmp 7, vI t6.1)]) z2 (fun _ => z1) (fun _ => Pu.move) (fun _ => z1) (fun _ _ => z2)
   ·exact OpOK2.pu (fun g20 => [(.tmp 0, vI p0)]) z2 (fun _ => z1) (fun _ => Pu.move) (fun _ => z1) (fun _ _ => z2)
   refine HQ.keep [(1, _), (4, _), (5, _), (6, _), (11, _), (55, _), (56, _)] z7 ?_
   refine HQ.keepR [(1, _), (3, _)] z2 rfl ?_
   refine HQ.dRun 7 rfl rfl (by kernel_rfl) (by kernel_rfl) ?_
   refine pu Pu.neq z2 z3 ?_
   refine pu Pu.move z1 z3 ?_
   obtain ⟨c24, h25, H⟩ := bnd H
   refine HQ.cutAt 4 [(62, .bool c24), (1, vS a_0 p1 c_0), (4, BP b1 0), (5, vI 0), (6, .bool false), (11, BP g10 0)] [(1, Box b1 [vI 0, vI 0, vI 0, .slice none 0 0]), (3, Box g10 [vI t8.1, vI (IntKind.i64.wrap (gt p1 5)), vI (IntKind.i64.wrap (gt p1 6)), .slice none 0 0])] ?_ ?_
   ·clear H
    have H := h25
    rcases brk H with ⟨hg21, H⟩ | ⟨hg21, H⟩
    ·obtain rfl := Option.some.inj H
     refine HQ.off rfl rfl hg21 rfl ?_
     refine HQ.off rfl rfl hg21 rfl ?_
     refine HQ.off rfl rfl hg21 rfl ?_
     refine pu (Pu.pickC1 hg21) z2 z3 ?_
     exact HQ.mid z6 z2 rfl
    ·refine HQ.on rfl rfl hg21 ?_
     refine op [3] [3] (OT.loadBA (vs := [vI t8.1, vI (IntKind.i64.wrap (gt p1 5)), vI (IntKind.i64.wrap (gt p1 6)), .slice none 0 0]) ag57 sz57 rfl rfl) z1 z1 z4 (fun _ => rfl) fun _ => ?_
     refine HQ.on rfl rfl hg21 ?_
     obtain ⟨t22, h23, H⟩ := bnd H
     refine op [] [] (OT.call (us := [_]) (Pre := []) [.tmp 59] Try.call36 rfl rfl fun w F hs hF hp => spec_TxOk_c (p0 := (⟨t8.1, (IntKind.i64.wrap (gt p1 5)), (IntKind.i64.wrap (gt p1 6)), ([] : (List TChange))⟩ : TTx)) nilB h23) z2 trivial z4 (fun _ => rfl) fun _ => ?_
     refine HQ.on rfl rfl hg21 ?_
     refine pu Pu.not z1 z3 ?_
     obtain rfl := Option.some.inj H
     refine pu (Pu.pickC0 hg21) z2 z3 ?_
     exact HQ.mid z6 z2 rfl
   refine pu Pu.move z1 z3 ?_
   refine HQ.done ?_
   obtain ⟨c30, h31, H⟩ := bnd H
   refine HQ.dMid (m' := 17) [(71, .bool c30), (1, vS a_0 p1 c_0), (4, BP b1 0), (5, vI 0), (6, .bool false), (11, BP g10 0)] [(1, Box b1 [vI 0, vI 0, vI 0, .slice none 0 0]), (3, Box g10 [vI t8.1, vI (IntKind.i64.wrap (gt p1 5)), vI (IntKind.i64.wrap (gt p1 6)), .slice none 0 0])] (fun hmid => ?_) ?_
   ·clear H
    have H := h31
    rcases brk H with ⟨hg26, H⟩ | ⟨hg26, H⟩
    ·obtain rfl := Option.some.inj H
     refine HQ.dPart [(1, vS a_0 p1 c_0), (4, BP b1 0), (5, vI 0), (6, .bool false), (11, BP g10 0), (63, .bool c24)] 15 [⟨[], [], []⟩, ⟨[], [], []⟩, ⟨[], [], []⟩, ⟨[], [], []⟩, ⟨[], [], []⟩, ⟨[], [], []⟩, ⟨[], [], []⟩, ⟨[], [], []⟩, ⟨[], [], []⟩, ⟨[], [], []⟩, ⟨[], [], []⟩, ⟨[], [], []⟩, ⟨[], [], []⟩, ⟨[], [], []⟩, ⟨[], [], []⟩] [] (fun (g29 : Unit) => [undef, undef, undef, undef, undef, undef, undef, undef, undef, undef, undef, undef, undef, undef, undef]) (fun (g29 : Unit) => []) () [] [] [] z6 trivial rfl (by kernel_rfl) (by kernel_rfl) (fun _ => rfl) (by kernel_rfl) (fun _ => rfl) rfl ⟨?_, ?_, ?_, ?_, ?_, ?_, trivial⟩ fun g29 => ?_
     ·exact OpOK2.off rfl rfl rfl hg26 rfl rfl (fun _ => z1)
     ·exact OpOK2.off rfl rfl rfl hg26 rfl rfl (fun _ => z1)
     ·exact OpOK2.off rfl rfl rfl hg26 rfl rfl (fun _ => z1)
     ·exact OpOK2.off rfl rfl rfl hg26 rfl rfl (fun _ => z1)
     ·exact OpOK2.off rfl rfl rfl hg26 rfl rfl (fun _ => z1)
     ·exact OpOK2.off rfl rfl rfl hg26 rfl rfl (fun _ => z1)
     refine HQ.keep [(1, _), (4, _), (5, _), (6, _), (11, _), (63, _), (67, _), (69, _)] z8 ?_
     refine HQ.keepR [(1, _), (3, _)] z2 rfl ?_
     refine HQ.dRun 1 rfl rfl (by kernel_rfl) (by kernel_rfl) ?_
     refine HQ.off rfl rfl hg26 rfl ?_
     refine HQ.done ?_
     refine HQ.dRun 1 rfl rfl (by kernel_rfl) (by kernel_rfl) ?_
     refine pu (Pu.pickC1 hg26) z2 z3 ?_
     refine HQ.done ?_
     exact HQ.dUse hmid z6 z2 rfl
    ·obtain ⟨h28, H⟩ := asr H
     refine HQ.dPart [(1, vS a_0 p1 c_0), (4, BP b1 0), (5, vI 0), (6, .bool false), (11, BP g10 0), (63, .bool c24)] 15 [⟨[], [], []⟩, ⟨[], [], []⟩, ⟨[], [], []⟩, ⟨[], [], []⟩, ⟨[], [], []⟩, ⟨[], [], []⟩, ⟨[], [], []⟩, ⟨[], [], []⟩, ⟨[], [], []⟩, ⟨[], [], []⟩, ⟨[], [], [9]⟩, ⟨[], [], [10]⟩, ⟨[], [], [11]⟩, ⟨[], [], []⟩, ⟨[0], [0], [13]⟩] [⟨none, none⟩] (fun (g27 : Unit) => [undef, undef, undef, undef, undef, undef, undef, undef, undef, vS a_0 p1 c_0, EP a_0 7 1 0, .int .u8 (gt p1 7), vI (IntKind.i64.wrap (gt p1 7)), BP g10 2, vI (IntKind.i64.wrap (gt p1 6))]) (fun (g27 : Unit) => [Box g10 [vI t8.1, vI (IntKind.i64.wrap (gt p1 5)), vI (IntKind.i64.wrap (gt p1 6)), .slice none 0 0]]) () [3] [3] [] z6 z1 rfl (by kernel_rfl) (by kernel_rfl) (fun _ => rfl) (by kernel_rfl) (fun _ => rfl) rfl ⟨?_, ?_, ?_, ?_, ?_, ?_, trivial⟩ fun g27 => ?_
     ·exact OpOK2.on (fun g27 => [(.tmp 1, vS a_0 p1 c_0)]) _ _ (fun g27 _ => g27) rfl rfl rfl hg26 (fun _ => z1) (fun g27 => Pu.toOT Pu.move) (fun _ _ => z3)
     ·exact OpOK2.on (fun g27 => [(.tmp 64, vS a_0 p1 c_0), (.const (vI 7), vI 7)]) _ _ (fun g27 _ => g27) rfl rfl rfl hg26 (fun _ => z2) (fun g27 => OT.indexB ul22 sz5 hb_0 h28) (fun _ _ => z3)
     ·exact OpOK2.on (fun g27 => [(.tmp 65, EP a_0 7 1 0)]) _ _ (fun g27 _ => g27) rfl rfl rfl hg26 (fun _ => z1) (fun g27 => OT.loadF sc5 hb_0 h28 rfl) (fun _ _ => z3)
     ·exact OpOK2.on (fun g27 => [(.tmp 66, .int .u8 (gt p1 7))]) _ _ (fun g27 _ => g27) rfl rfl rfl hg26 (fun _ => z1) (fun g27 => Pu.toOT (Pu.conv ul5 ul3)) (fun _ _ => z3)
     ·exact OpOK2.on (fun g27 => [(.tmp 11, BP g10 0)]) _ _ (fun g27 _ => g27) rfl rfl rfl hg26 (fun _ => z1) (fun g27 => Pu.toOT (Pu.fieldB fo57_2 rfl)) (fun _ _ => z3)
     ·exact OpOK2.on (fun g27 => [(.tmp 68, BP g10 2)]) _ _ (fun g27 _ => g27) rfl rfl rfl hg26 (fun _ => z1) (fun g27 => OT.loadB sc3 rfl) (fun _ _ => z3)
     refine HQ.keep [(1, _), (4, _), (5, _), (6, _), (11, _), (63, _), (67, _), (69, _)] z8 ?_
     refine HQ.keepR [(1, _), (3, _)] z2 rfl ?_
     refine HQ.dRun 1 rfl rfl (by kernel_rfl) (by kernel_rfl) ?_
     refine HQ.on rfl rfl hg26 ?_
     refine pu Pu.gtr z2 z3 ?_
     refine HQ.done ?_
     obtain rfl := Option.some.inj H
     refine HQ.dRun 1 rfl rfl (by kernel_rfl) (by kernel_rfl) ?_
     refine pu (Pu.pickC0 hg26) z2 z3 ?_
     refine HQ.done ?_
     exact HQ.dUse hmid z6 z2 rfl
   refine HQ.dEnd rfl ?_
   refine HQ.thenN ?_
   refine HQ.keep [(71, _), (1, _), (4, _), (5, _), (6, _), (11, _)] z6 ?_
   rcases brk H with ⟨hc, H⟩ | ⟨hc, H⟩
   ·refine HQ.condT rfl hc ?_
    clear hc
    refine HQ.rseq ?_
    refine pu (Pu.build (us := []) (cs := [vI 0, vI 0, vI 0, .slice none 0 0]) [] st57 rfl rfl rfl) trivial z3 ?_
    refine HQ.opN [1] [1] [] (OT.storeC (cs' := [vI 0, vI 0, vI 0, .slice none 0 0]) sz57 rfl rfl rfl rfl rfl) z2 z1 rfl rfl rfl (fun _ => rfl) fun _ => ?_
    refine pu Pu.assign z1 z3 ?_
    refine pu Pu.assign z1 z3 ?_
    refine HQ.done ?_
    refine HQ.keep [(1, _), (4, _), (5, _), (6, _), (11, _)] z5 ?_
    refine HQ.ret ?_
    refine HQ.thenR ?_
    obtain rfl := Option.some.inj H
    refine HQ.nil kTChange 5 rfl ?_
    exact HQ.fin (vs := [_, _, _]) Try.results62 (none, 0) ⟨⟨_, _, 1, rfl, rfl, ag57, sz57, rfl⟩, rfl, rfl, trivial⟩ rfl [5] z1 rfl
   ·refine HQ.condF rfl hc ?_
    clear hc
    refine HQ.skipThen ?_
    obtain ⟨h33, H⟩ := asr H
    refine HQ.drawS mixd [(1, vS a_0 p1 c_0), (4, BP b1 0), (5, vI 0), (6, .bool false), (11, BP g10 0)] 6 [⟨[0], [0], []⟩, ⟨[], [], []⟩, ⟨[], [], [1]⟩, ⟨[], [], [2]⟩, ⟨[], [], [3]⟩, ⟨[1], [2], [0]⟩] [⟨none, none⟩, ⟨none, some 5⟩, ⟨some 5, none⟩] (fun (g32 : Unit) => [.agg #[vI t8.1, vI (IntKind.i64.wrap (gt p1 5)), vI (IntKind.i64.wrap (gt p1 6)), .slice none 0 0], vS a_0 p1 c_0, EP a_0 7 1 0, .int .u8 (gt p1 7), vI (IntKind.i64.wrap (gt p1 7)), undef]) (fun (g32 : Unit) => [Box g10 [vI t8.1, vI (IntKind.i64.wrap (gt p1 5)), vI (IntKind.i64.wrap (gt p1 6)), .slice none 0 0], Box b1 [vI 0, vI 0, vI 0, .slice none 0 0], Box b1 [vI t8.1, vI (IntKind.i64.wrap (gt p1 5)), vI (IntKind.i64.wrap (gt p1 6)), .slice none 0 0]]) () [3, 1] [3, 1] [] z5 z2 rfl (by kernel_rfl) (fun _ => rfl) (by kernel_rfl) (fun _ => rfl) ⟨?_, ?_, ?_, ?_, ?_, ?_, trivial⟩ fun g32 => ?_
    ·exact OpOK.of (fun g32 => [(.tmp 11, BP g10 0)]) _ _ (fun g32 _ => g32) rfl rfl (fun _ => z1) (fun g32 => OT.loadBA (vs := [vI t8.1, vI (IntKind.i64.wrap (gt p1 5)), vI (IntKind.i64.wrap (gt p1 6)), .slice none 0 0]) ag57 sz57 rfl rfl) (fun _ _ => z5)
    ·exact OpOK.pu (fun g32 => [(.tmp 1, vS a_0 p1 c_0)]) z2 (fun _ => z1) (fun _ => Pu.move) (fun _ => z1) (fun _ _ => z5)
    ·exact OpOK.of (fun g32 => [(.tmp 74, vS a_0 p1 c_0), (.const (vI 7), vI 7)]) _ _ (fun g32 _ => g32) rfl rfl (fun _ => z2) (fun g32 => OT.indexB ul22 sz5 hb_0 h33) (fun _ _ => z5)
    ·exact OpOK.of (fun g32 => [(.tmp 75, EP a_0 7 1 0)]) _ _ (fun g32 _ => g32) rfl rfl (fun _ => z1) (fun g32 => OT.loadF sc5 hb_0 h33 rfl) (fun _ _ => z5)
    ·exact OpOK.pu (fun g32 => [(.tmp 76, .int .u8 (gt p1 7))]) z2 (fun _ => z1) (fun _ => (Pu.conv ul5 ul3)) (fun _ => z1) (fun _ _ => z5)
    ·exact OpOK.of (fun g32 => [(.tmp 4, BP b1 0), (.tmp 73, .agg #[vI t8.1, vI (IntKind.i64.wrap (gt p1 5)), vI (IntKind.i64.wrap (gt p1 6)), .slice none 0 0])]) _ _ (fun g32 _ => g32) rfl rfl (fun _ => z2) (fun g32 => OT.storeC (cs' := [vI t8.1, vI (IntKind.i64.wrap (gt p1 5)), vI (IntKind.i64.wrap (gt p1 6)), .slice none 0 0]) sz57 rfl rfl rfl rfl rfl) (fun _ _ => z5)
    refine HQ.keep [(4, _), (5, _), (6, _), (77, _)] z4 ?_
    refine HQ.keepR [(1, _), (3, _)] z2 rfl ?_
    refine pu Pu.assign z1 z3 ?_
    refine pu Pu.assign z1 z3 ?_
    refine HQ.done ?_
    refine HQ.keep [(4, _), (5, _), (6, _)] z3 ?_
    refine HQ.ret ?_
    obtain rfl := Option.some.inj H
    refine HQ.nil kTChange 6 rfl ?_
    exact HQ.fin (vs := [_, _, _]) Try.results62 (none, 0) ⟨⟨_, _, 1, rfl, rfl, ag57, sz57, rfl⟩, rfl, rfl, trivial⟩ rfl [6] z1 rfl
  ·rintro r rfl a w hr
   obtain rfl := Option.some.inj H
   exact hr

end Go.Proofs.Sx
