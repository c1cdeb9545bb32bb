import Derived.Test.YtkhommmhkeohbaaQfF9
import Derived.KernelRfl
namespace Go.Proofs.Sx
open Go.RowKit
set_option linter.unusedVariables false
set_option linter.unusedSimpArgs false
set_option maxRecDepth 20000
set_option maxHeartbeats 1000000
theorem impl_Read_c {w : World} {k : Nat} {p0 : TDisk} {p1 : Int} {a_0 : Option Addr} {c_0 : Nat} {a_1 : Option Addr} {c_1 : Nat} (hb_0 : BorS kTCell a_0 c_0 p0.Cells w.heap (Lt w Nil)) (hb_1 : BorS kTWet a_1 c_1 p0.Wet w.heap (Lt w Nil)) {r : (List Int) × Bool} (H : impl_Read k p0 p1 = some r) :
  Calls Try.prog 17 #[.agg #[vS a_0 p0.Cells c_0, vS a_1 p0.Wet c_1, vI p0.Fuse, .bool p0.Dead], vI p1] w (Rt w Nil (fun g : Option Addr × Nat => .tuple #[vS g.1 r.1 g.2, .bool r.2]) (fun g => [OwnS kU8 g.1 g.2 r.1])) := by
 rw [impl_Read] at H
 refine Calls.enter0 (N := 64) (us := [_, _]) Try.func17 rfl rfl rfl ?_
 refine HQ.rseq ?_
 refine op [] [1] (OT.box (cs := [vS a_0 p0.Cells c_0, vS a_1 p0.Wet c_1, vI p0.Fuse, .bool p0.Dead]) rfl) z1 trivial z4 (fun _ => rfl) fun b1 => ?_
 refine pu Pu.assign z1 z3 ?_
 refine pu Pu.assign z1 z3 ?_
 refine HQ.done ?_
 refine HQ.keep [(1, _), (2, _), (4, _), (5, _)] z4 ?_
 refine HQ.seq ?_
 refine HQ.rseq ?_
 refine pu (Pu.fieldB fo27_1 rfl) z1 z3 ?_
 refine op [1] [1] (OT.loadB sc25 rfl) z1 z1 z4 (fun _ => rfl) fun _ => ?_
 refine pu (Pu.len ul25) z1 z3 ?_
 refine pu Pu.sub z2 z3 ?_
 refine pu Pu.assign z1 z3 ?_
 refine HQ.done ?_
 refine HQ.keep [(1, _), (2, _), (4, _), (5, _), (6, _)] z5 ?_
 refine HQ.block ?_
 obtain ⟨o45, h73, H⟩ := bnd H
 refine HQ.loop h73 0 (fun (s : Int) (g : Unit) => match s, g with | i16, () => [(1, vI p1), (2, BP b1 0), (4, .slice none 0 0), (5, .bool false), (6, vI i16)]) (fun (s : Int) (g : Unit) => match s, g with | i16, () => [(1, Box b1 [vS a_0 p0.Cells c_0, vS a_1 p0.Wet c_1, vI p0.Fuse, .bool p0.Dead])]) (fun r => bodyPost Try.prog Try.f17 (Rt w Nil (fun g : Option Addr × Nat => .tuple #[vS g.1 r.1 g.2, .bool r.2]) (fun g => [OwnS kU8 g.1 g.2 r.1])) .ret) () z5 z1 rfl ?_ ?_ ?_
 ·clear H h73
  rintro i16 _ o H
  rw [impl_Read_b0] at H
  refine HQ.keep [(1, _), (2, _), (4, _), (5, _), (6, _)] z5 ?_
  refine HQ.keepR [(1, _)] z1 rfl ?_
  refine HQ.seq ?_
  refine HQ.rseq ?_
  refine pu Pu.move z1 z3 ?_
  refine pu Pu.geq z2 z3 ?_
  refine HQ.done ?_
  refine HQ.keep [(1, _), (2, _), (4, _), (5, _), (6, _), (12, _)] z6 ?_
  rcases brk H with ⟨hc, H⟩ | ⟨hc, H⟩
  ·refine HQ.condT rfl hc ?_
   clear hc
   refine HQ.skipThen ?_
   refine HQ.seq ?_
   refine HQ.block ?_
   refine HQ.rseq ?_
   refine pu (Pu.fieldB fo27_1 rfl) z1 z3 ?_
   refine op [1] [1] (OT.loadB sc25 rfl) z1 z1 z4 (fun _ => rfl) fun _ => ?_
   refine pu Pu.move z1 z3 ?_
   obtain ⟨h31, H⟩ := asr H
   refine op [] [] (OT.indexB ul25 sz110 hb_1 h31) z2 trivial z4 (fun _ => rfl) fun _ => ?_
   refine pu (Pu.fieldE fo110_0 rfl) z1 z3 ?_
   obtain ⟨⟨a32, c33⟩, hb34, hn35⟩ := BorS.nest hb_1 h31
   refine op [] [] (OT.loadN (v := vI ((gt p0.Wet i16).At)) sc3 hn35 hlTWet rfl) z1 trivial z4 (fun _ => rfl) fun _ => ?_
   refine pu Pu.move z1 z3 ?_
   refine pu Pu.eql z2 z3 ?_
   refine HQ.done ?_
   refine HQ.keep [(1, _), (2, _), (4, _), (5, _), (6, _), (22, _)] z6 ?_
   rcases brk H with ⟨hc, H⟩ | ⟨hc, H⟩
   ·refine HQ.condT rfl hc ?_
    clear hc
    refine HQ.rseq ?_
    refine pu (Pu.fieldB fo27_1 rfl) z1 z3 ?_
    refine op [1] [1] (OT.loadB sc25 rfl) z1 z1 z4 (fun _ => rfl) fun _ => ?_
    refine pu Pu.move z1 z3 ?_
    obtain ⟨h36, H⟩ := asr H
    refine op [] [] (OT.indexB ul25 sz110 hb_1 h36) z2 trivial z4 (fun _ => rfl) fun _ => ?_
    refine pu (Pu.fieldE fo110_1 rfl) z1 z3 ?_
    obtain ⟨⟨a37, c38⟩, hb39, hn40⟩ := BorS.nest hb_1 h36
    refine op [] [] (OT.loadN (v := vS a37 ((gt p0.Wet i16).B) c38) sc22 hn40 hlTWet rfl) z1 trivial z4 (fun _ => rfl) fun _ => ?_
    obtain ⟨t41, h42, H⟩ := bnd H
    refine op [] [4] (OT.call (us := [_]) (Pre := []) [.tmp 28] Try.call88 rfl rfl fun w F hs hF hp => slices_Clone_byte_byte_c (hb39.pass hp) h42) z2 trivial z4 (fun _ => rfl) fun ⟨a43, c44⟩ => ?_
    refine pu Pu.assign z1 z3 ?_
    refine pu Pu.assign z1 z3 ?_
    refine HQ.done ?_
    refine HQ.keep [(1, _), (2, _), (4, _), (5, _), (6, _)] z5 ?_
    refine HQ.ret ?_
    refine HQ.blkR ?_
    refine HQ.thenR ?_
    obtain rfl := Option.some.inj H
    refine HQ.retL ?_
    exact HQ.fin (vs := [_, _]) Try.results17 (a43, c44) z2 rfl [4] z1 rfl
   ·refine HQ.condF rfl hc ?_
    clear hc
    refine HQ.skip ?_
    refine HQ.blkN ?_
    refine HQ.thenN ?_
    refine HQ.regionQ ?_
    refine pu Pu.move z1 z3 ?_
    refine pu Pu.sub z2 z3 ?_
    refine pu Pu.assign z1 z3 ?_
    refine HQ.done ?_
    refine HQ.keep [(1, _), (2, _), (4, _), (5, _), (6, _)] z5 ?_
    obtain rfl := Option.some.inj H
    exact HQ.next () z5 z1 rfl
  ·refine HQ.condF rfl hc ?_
   clear hc
   refine HQ.exit ?_
   refine HQ.thenE ?_
   obtain rfl := Option.some.inj H
   exact HQ.out () z5 z1 rfl
 ·rintro i46 rfl _
  clear h73
  replace H := H
  refine HQ.keep [(1, _), (2, _), (4, _), (5, _), (6, _)] z5 ?_
  refine HQ.keepR [(1, _)] z1 rfl ?_
  refine HQ.blkE ?_
  refine HQ.thenN ?_
  refine HQ.seq ?_
  refine HQ.rseq ?_
  refine pu Pu.move z1 z3 ?_
  refine pu Pu.lss z2 z3 ?_
  refine pu Pu.move z1 z3 ?_
  refine HQ.cutAt 6 [(38, .bool ((decide (p1 < 0)) || (decide (p1 ≥ ((List.length p0.Cells : Nat) : Int))))), (1, vI p1), (2, BP b1 0), (4, .slice none 0 0), (5, .bool false)] [(1, Box b1 [vS a_0 p0.Cells c_0, vS a_1 p0.Wet c_1, vI p0.Fuse, .bool p0.Dead])] ?_ ?_
  ·rcases Bool.eq_false_or_eq_true (decide (p1 < 0)) with hg47 | hg47
   ·refine HQ.off rfl rfl hg47 rfl ?_
    refine HQ.off rfl rfl hg47 rfl ?_
    refine HQ.off rfl rfl hg47 rfl ?_
    refine HQ.off rfl rfl hg47 rfl ?_
    refine HQ.off rfl rfl hg47 rfl ?_
    refine pu (Pu.pickOT (u := (decide (p1 ≥ ((List.length p0.Cells : Nat) : Int)))) hg47) z2 z3 ?_
    exact HQ.mid z5 z1 rfl
   ·refine HQ.on rfl rfl hg47 ?_
    refine pu Pu.move z1 z3 ?_
    refine HQ.on rfl rfl hg47 ?_
    refine pu (Pu.fieldB fo27_0 rfl) z1 z3 ?_
    refine HQ.on rfl rfl hg47 ?_
    refine op [1] [1] (OT.loadB sc24 rfl) z1 z1 z4 (fun _ => rfl) fun _ => ?_
    refine HQ.on rfl rfl hg47 ?_
    refine pu (Pu.len ul24) z1 z3 ?_
    refine HQ.on rfl rfl hg47 ?_
    refine pu Pu.geq z2 z3 ?_
    refine pu (Pu.pickOF hg47) z2 z3 ?_
    exact HQ.mid z5 z1 rfl
  refine pu Pu.move z1 z3 ?_
  obtain ⟨c54, h55, H⟩ := bnd H
  refine HQ.cutAt 7 [(46, .bool c54), (1, vI p1), (2, BP b1 0), (4, .slice none 0 0), (5, .bool false)] [(1, Box b1 [vS a_0 p0.Cells c_0, vS a_1 p0.Wet c_1, vI p0.Fuse, .bool p0.Dead])] ?_ ?_
  ·clear H
   have H := h55
   rcases brk H with ⟨hg48, H⟩ | ⟨hg48, H⟩
   ·obtain rfl := Option.some.inj H
    refine HQ.off rfl rfl hg48 rfl ?_
    refine HQ.off rfl rfl hg48 rfl ?_
    refine HQ.off rfl rfl hg48 rfl ?_
    refine HQ.off rfl rfl hg48 rfl ?_
    refine HQ.off rfl rfl hg48 rfl ?_
    refine HQ.off rfl rfl hg48 rfl ?_
    refine pu (Pu.pickC1 hg48) z2 z3 ?_
    exact HQ.mid z5 z1 rfl
   ·refine HQ.on rfl rfl hg48 ?_
    refine pu (Pu.fieldB fo27_0 rfl) z1 z3 ?_
    refine HQ.on rfl rfl hg48 ?_
    refine op [1] [1] (OT.loadB sc24 rfl) z1 z1 z4 (fun _ => rfl) fun _ => ?_
    refine HQ.on rfl rfl hg48 ?_
    refine pu Pu.move z1 z3 ?_
    refine HQ.on rfl rfl hg48 ?_
    obtain ⟨h49, H⟩ := asr H
    refine op [] [] (OT.indexB ul24 sz113 hb_0 h49) z2 trivial z4 (fun _ => rfl) fun _ => ?_
    refine HQ.on rfl rfl hg48 ?_
    refine pu (Pu.fieldE fo113_0 rfl) z1 z3 ?_
    refine HQ.on rfl rfl hg48 ?_
    obtain ⟨⟨a50, c51⟩, hb52, hn53⟩ := BorS.nest hb_0 h49
    refine op [] [] (OT.loadN (v := .bool ((gt p0.Cells p1).Bad)) sc4 hn53 hlTCell rfl) z1 trivial z4 (fun _ => rfl) fun _ => ?_
    obtain rfl := Option.some.inj H
    refine pu (Pu.pickC0 hg48) z2 z3 ?_
    exact HQ.mid z5 z1 rfl
  refine pu Pu.move z1 z3 ?_
  obtain ⟨c62, h63, H⟩ := bnd H
  refine HQ.cutAt 9 [(56, .bool c62), (1, vI p1), (2, BP b1 0), (4, .slice none 0 0), (5, .bool false)] [(1, Box b1 [vS a_0 p0.Cells c_0, vS a_1 p0.Wet c_1, vI p0.Fuse, .bool p0.Dead])] ?_ ?_
  ·clear H
   have H := h63
   rcases brk H with ⟨hg56, H⟩ | ⟨hg56, H⟩
   ·obtain rfl := Option.some.inj H
    refine HQ.off rfl rfl hg56 rfl ?_
    refine HQ.off rfl rfl hg56 rfl ?_
    refine HQ.off rfl rfl hg56 rfl ?_
    refine HQ.off rfl rfl hg56 rfl ?_
    refine HQ.off rfl rfl hg56 rfl ?_
    refine HQ.off rfl rfl hg56 rfl ?_
    refine HQ.off rfl rfl hg56 rfl ?_
    refine HQ.off rfl rfl hg56 rfl ?_
    refine pu (Pu.pickC1 hg56) z2 z3 ?_
    exact HQ.mid z5 z1 rfl
   ·refine HQ.on rfl rfl hg56 ?_
    refine pu (Pu.fieldB fo27_0 rfl) z1 z3 ?_
    refine HQ.on rfl rfl hg56 ?_
    refine op [1] [1] (OT.loadB sc24 rfl) z1 z1 z4 (fun _ => rfl) fun _ => ?_
    refine HQ.on rfl rfl hg56 ?_
    refine pu Pu.move z1 z3 ?_
    refine HQ.on rfl rfl hg56 ?_
    obtain ⟨h57, H⟩ := asr H
    refine op [] [] (OT.indexB ul24 sz113 hb_0 h57) z2 trivial z4 (fun _ => rfl) fun _ => ?_
    refine HQ.on rfl rfl hg56 ?_
    refine pu (Pu.fieldE fo113_1 rfl) z1 z3 ?_
    refine HQ.on rfl rfl hg56 ?_
    obtain ⟨⟨a58, c59⟩, hb60, hn61⟩ := BorS.nest hb_0 h57
    refine op [] [] (OT.loadN (v := vS a58 ((gt p0.Cells p1).B) c59) sc22 hn61 hlTCell rfl) z1 trivial z4 (fun _ => rfl) fun _ => ?_
    refine HQ.on rfl rfl hg56 ?_
    refine pu (Pu.len ul22) z1 z3 ?_
    refine HQ.on rfl rfl hg56 ?_
    refine pu Pu.eql z2 z3 ?_
    obtain rfl := Option.some.inj H
    refine pu (Pu.pickC0 hg56) z2 z3 ?_
    exact HQ.mid z5 z1 rfl
  refine HQ.done ?_
  refine HQ.keep [(56, _), (1, _), (2, _), (4, _), (5, _)] z5 ?_
  rcases brk H with ⟨hc, H⟩ | ⟨hc, H⟩
  ·refine HQ.condT rfl hc ?_
   clear hc
   refine HQ.rseq ?_
   refine pu Pu.assign z1 z3 ?_
   refine pu Pu.assign z1 z3 ?_
   refine HQ.done ?_
   refine HQ.keep [(1, _), (2, _), (4, _), (5, _)] z4 ?_
   refine HQ.ret ?_
   refine HQ.thenR ?_
   obtain rfl := Option.some.inj H
   refine HQ.nil kU8 5 rfl ?_
   exact HQ.fin (vs := [_, _]) Try.results17 (none, 0) z2 rfl [5] z1 rfl
  ·refine HQ.condF rfl hc ?_
   clear hc
   refine HQ.skipThen ?_
   refine HQ.rseq ?_
   refine pu (Pu.fieldB fo27_0 rfl) z1 z3 ?_
   refine op [1] [1] (OT.loadB sc24 rfl) z1 z1 z4 (fun _ => rfl) fun _ => ?_
   refine pu Pu.move z1 z3 ?_
   obtain ⟨h64, H⟩ := asr H
   refine op [] [] (OT.indexB ul24 sz113 hb_0 h64) z2 trivial z4 (fun _ => rfl) fun _ => ?_
   refine pu (Pu.fieldE fo113_1 rfl) z1 z3 ?_
   obtain ⟨⟨a65, c66⟩, hb67, hn68⟩ := BorS.nest hb_0 h64
   refine op [] [] (OT.loadN (v := vS a65 ((gt p0.Cells p1).B) c66) sc22 hn68 hlTCell rfl) z1 trivial z4 (fun _ => rfl) fun _ => ?_
   obtain ⟨t69, h70, H⟩ := bnd H
   refine op [] [6] (OT.call (us := [_]) (Pre := []) [.tmp 62] Try.call88 rfl rfl fun w F hs hF hp => slices_Clone_byte_byte_c (hb67.pass hp) h70) z2 trivial z4 (fun _ => rfl) fun ⟨a71, c72⟩ => ?_
   refine pu Pu.assign z1 z3 ?_
   refine pu Pu.assign z1 z3 ?_
   refine HQ.done ?_
   refine HQ.keep [(4, _), (5, _)] z2 ?_
   refine HQ.ret ?_
   obtain rfl := Option.some.inj H
   exact HQ.fin (vs := [_, _]) Try.results17 (a71, c72) z2 rfl [6] z1 rfl
 ·rintro r rfl a w hr
  obtain rfl := Option.some.inj H
  exact hr

theorem impl_Get2_c {w : World} {p0 : (List Int)} {p1 : Int} {a_0 : Option Addr} {c_0 : Nat} (hb_0 : BorS kU8 a_0 c_0 p0 w.heap (Lt w Nil)) {r : Int × Bool} (H : impl_Get2 p0 p1 = some r) :
  Calls Try.prog 103 #[vS a_0 p0 c_0, vI p1] w (Rt w Nil (fun _ : Unit => .tuple #[vI r.1, .bool r.2]) (fun _ => [])) := by
 rw [impl_Get2] at H
 refine Calls.enter0 (N := 28) (us := [_, _]) Try.func103 rfl rfl rfl ?_
 refine HQ.rseq ?_
 refine pu Pu.assign z1 z3 ?_
 refine pu Pu.assign z1 z3 ?_
 refine HQ.done ?_
 refine HQ.keep [(0, _), (1, _), (4, _), (5, _)] z4 ?_
 refine HQ.seq ?_
 refine HQ.rseq ?_
 refine pu Pu.move z1 z3 ?_
 refine pu Pu.lss z2 z3 ?_
 refine pu Pu.move z1 z3 ?_
 refine HQ.cutAt 6 [(14, .bool ((decide (p1 < 0)) || (decide (p1 > (wrap64 (((List.length p0 : Nat) : Int) - 2)))))), (0, vS a_0 p0 c_0), (1, vI p1), (4, vI 0), (5, .bool false)] [] ?_ ?_
 ·rcases Bool.eq_false_or_eq_true (decide (p1 < 0)) with hg1 | hg1
  ·refine HQ.off rfl rfl hg1 rfl ?_
   refine HQ.off rfl rfl hg1 rfl ?_
   refine HQ.off rfl rfl hg1 rfl ?_
   refine HQ.off rfl rfl hg1 rfl ?_
   refine HQ.off rfl rfl hg1 rfl ?_
   refine pu (Pu.pickOT (u := (decide (p1 > (wrap64 (((List.length p0 : Nat) : Int) - 2))))) hg1) z2 z3 ?_
   exact HQ.mid z5 trivial rfl
  ·refine HQ.on rfl rfl hg1 ?_
   refine pu Pu.move z1 z3 ?_
   refine HQ.on rfl rfl hg1 ?_
   refine pu Pu.move z1 z3 ?_
   refine HQ.on rfl rfl hg1 ?_
   refine pu (Pu.len ul22) z1 z3 ?_
   refine HQ.on rfl rfl hg1 ?_
   refine pu Pu.sub z2 z3 ?_
   refine HQ.on rfl rfl hg1 ?_
   refine pu Pu.gtr z2 z3 ?_
   refine pu (Pu.pickOF hg1) z2 z3 ?_
   exact HQ.mid z5 trivial rfl
 refine HQ.done ?_
 refine HQ.keep [(14, _), (0, _), (1, _), (4, _), (5, _)] z5 ?_
 rcases brk H with ⟨hc, H⟩ | ⟨hc, H⟩
 ·refine HQ.condT rfl hc ?_
  clear hc
  refine HQ.rseq ?_
  refine pu Pu.assign z1 z3 ?_
  refine pu Pu.assign z1 z3 ?_
  refine HQ.done ?_
  refine HQ.keep [(0, _), (1, _), (4, _), (5, _)] z4 ?_
  refine HQ.ret ?_
  refine HQ.thenR ?_
  obtain rfl := Option.some.inj H
  exact HQ.fin (vs := [_, _]) Try.results103 () z2 rfl [] trivial rfl
 ·refine HQ.condF rfl hc ?_
  clear hc
  refine HQ.skipThen ?_
  obtain ⟨h3, H⟩ := asr H
  obtain ⟨h4, H⟩ := asr H
  refine HQ.drawS mixd [(0, vS a_0 p0 c_0), (1, vI p1), (4, vI 0), (5, .bool false)] 12 [⟨[], [], []⟩, ⟨[], [], []⟩, ⟨[], [], [0, 1]⟩, ⟨[], [], [2]⟩, ⟨[], [], [3]⟩, ⟨[], [], [4]⟩, ⟨[], [], []⟩, ⟨[], [], []⟩, ⟨[], [], [7]⟩, ⟨[], [], [6, 8]⟩, ⟨[], [], [9]⟩, ⟨[], [], [10]⟩] [] (fun (g2 : Unit) => [vS a_0 p0 c_0, vI p1, EP a_0 p1 1 0, .int .u8 (gt p0 p1), vI (IntKind.i64.wrap (gt p0 p1)), vI (wrap64 ((IntKind.i64.wrap (gt p0 p1)) * 2 ^ (min (Int.toNat 8) 64))), vS a_0 p0 c_0, vI p1, vI (wrap64 (p1 + 1)), EP a_0 (wrap64 (p1 + 1)) 1 0, .int .u8 (gt p0 (wrap64 (p1 + 1))), vI (IntKind.i64.wrap (gt p0 (wrap64 (p1 + 1))))]) (fun (g2 : Unit) => []) () [] [] [] z4 trivial rfl (by kernel_rfl) (fun _ => rfl) (by kernel_rfl) (fun _ => rfl) ⟨?_, ?_, ?_, ?_, ?_, ?_, ?_, ?_, ?_, ?_, ?_, ?_, trivial⟩ fun g2 => ?_
  ·exact OpOK.pu (fun g2 => [(.tmp 0, vS a_0 p0 c_0)]) z2 (fun _ => z1) (fun _ => Pu.move) (fun _ => z1) (fun _ _ => z2)
  ·exact OpOK.pu (fun g2 => [(.tmp 1, vI p1)]) z2 (fun _ => z1) (fun _ => Pu.move) (fun _ => z1) (fun _ _ => z2)
  ·exact OpOK.of (fun g2 => [(.tmp 15, vS a_0 p0 c_0), (.tmp 16, vI p1)]) _ _ (fun g2 _ => g2) rfl rfl (fun _ => z2) (fun g2 => OT.indexB ul22 sz5 hb_0 h3) (fun _ _ => z2)
  ·exact OpOK.of (fun g2 => [(.tmp 17, EP a_0 p1 1 0)]) _ _ (fun g2 _ => g2) rfl rfl (fun _ => z1) (fun g2 => OT.loadF sc5 hb_0 h3 rfl) (fun _ _ => z2)
  ·exact OpOK.pu (fun g2 => [(.tmp 18, .int .u8 (gt p0 p1))]) z2 (fun _ => z1) (fun _ => (Pu.conv ul5 ul3)) (fun _ => z1) (fun _ _ => z2)
  ·exact OpOK.pu (fun g2 => [(.tmp 19, vI (IntKind.i64.wrap (gt p0 p1))), (.const (.int .u64 8), .int .u64 8)]) z2 (fun _ => z2) (fun _ => (Pu.shl (by decide))) (fun _ => z1) (fun _ _ => z2)
  ·exact OpOK.pu (fun g2 => [(.tmp 0, vS a_0 p0 c_0)]) z2 (fun _ => z1) (fun _ => Pu.move) (fun _ => z1) (fun _ _ => z2)
  ·exact OpOK.pu (fun g2 => [(.tmp 1, vI p1)]) z2 (fun _ => z1) (fun _ => Pu.move) (fun _ => z1) (fun _ _ => z2)
  ·exact OpOK.pu (fun g2 => [(.tmp 22, vI p1), (.const (vI 1), vI 1)]) z2 (fun _ => z2) (fun _ => Pu.add) (fun _ => z1) (fun _ _ => z2)
  ·exact OpOK.of (fun g2 => [(.tmp 21, vS a_0 p0 c_0), (.tmp 23, vI (wrap64 (p1 + 1)))]) _ _ (fun g2 _ => g2) rfl rfl (fun _ => z2) (fun g2 => OT.indexB ul22 sz5 hb_0 h4) (fun _ _ => z2)
  ·exact OpOK.of (fun g2 => [(.tmp 24, EP a_0 (wrap64 (p1 + 1)) 1 0)]) _ _ (fun g2 _ => g2) rfl rfl (fun _ => z1) (fun g2 => OT.loadF sc5 hb_0 h4 rfl) (fun _ _ => z2)
  ·exact OpOK.pu (fun g2 => [(.tmp 25, .int .u8 (gt p0 (wrap64 (p1 + 1))))]) z2 (fun _ => z1) (fun _ => (Pu.conv ul5 ul3)) (fun _ => z1) (fun _ _ => z2)
  refine HQ.keep [(4, _), (5, _), (20, _), (26, _)] z4 ?_
  refine HQ.keepR [] trivial rfl ?_
  refine pu Pu.or z2 z3 ?_
  refine pu Pu.assign z1 z3 ?_
  refine pu Pu.assign z1 z3 ?_
  refine HQ.done ?_
  refine HQ.keep [(4, _), (5, _)] z2 ?_
  refine HQ.ret ?_
  obtain rfl := Option.some.inj H
  exact HQ.fin (vs := [_, _]) Try.results103 () z2 rfl [] trivial rfl

theorem impl_GetEntry_c {w : World} {p0 : (List Int)} {p1 : Int} {a_0 : Option Addr} {c_0 : Nat} (hb_0 : BorS kU8 a_0 c_0 p0 w.heap (Lt w Nil)) {r : TEntry × Bool} (H : impl_GetEntry p0 p1 = some r) :
  Calls Try.prog 127 #[vS a_0 p0 c_0, vI p1] w (Rt w Nil (fun _ : Unit => .tuple #[.agg #[vI r.1.N, vI r.1.R.X0, vI r.1.R.Y0, vI r.1.R.X1, vI r.1.R.Y1], .bool r.2]) (fun _ => [])) := by
 rw [impl_GetEntry] at H
 refine Calls.enter0 (N := 58) (us := [_, _]) Try.func127 rfl rfl rfl ?_
 refine HQ.rseq ?_
 refine op [] [1] (OT.alloc zc134) trivial trivial z4 (fun _ => rfl) fun b1 => ?_
 refine pu Pu.assign z1 z3 ?_
 refine HQ.done ?_
 refine HQ.keep [(0, _), (1, _), (4, _), (5, _)] z4 ?_
 refine HQ.seq ?_
 refine HQ.rseq ?_
 refine pu Pu.move z1 z3 ?_
 refine pu Pu.lss z2 z3 ?_
 refine pu Pu.move z1 z3 ?_
 refine HQ.cutAt 6 [(17, .bool ((decide (p1 < 0)) || (decide (p1 > (wrap64 (((List.length p0 : Nat) : Int) - 6)))))), (0, vS a_0 p0 c_0), (1, vI p1), (4, BP b1 0), (5, .bool false)] [(1, Box b1 [vI 0, vI 0, vI 0, vI 0, vI 0])] ?_ ?_
 ·rcases Bool.eq_false_or_eq_true (decide (p1 < 0)) with hg2 | hg2
  ·refine HQ.off rfl rfl hg2 rfl ?_
   refine HQ.off rfl rfl hg2 rfl ?_
   refine HQ.off rfl rfl hg2 rfl ?_
   refine HQ.off rfl rfl hg2 rfl ?_
   refine HQ.off rfl rfl hg2 rfl ?_
   refine pu (Pu.pickOT (u := (decide (p1 > (wrap64 (((List.length p0 : Nat) : Int) - 6))))) hg2) z2 z3 ?_
   exact HQ.mid z5 z1 rfl
  ·refine HQ.on rfl rfl hg2 ?_
   refine pu Pu.move z1 z3 ?_
   refine HQ.on rfl rfl hg2 ?_
   refine pu Pu.move z1 z3 ?_
   refine HQ.on rfl rfl hg2 ?_
   refine pu (Pu.len ul22) z1 z3 ?_
   refine HQ.on rfl rfl hg2 ?_
   refine pu Pu.sub z2 z3 ?_
   refine HQ.on rfl rfl hg2 ?_
   refine pu Pu.gtr z2 z3 ?_
   refine pu (Pu.pickOF hg2) z2 z3 ?_
   exact HQ.mid z5 z1 rfl
 refine HQ.done ?_
 refine HQ.keep [(17, _), (0, _), (1, _), (4, _), (5, _)] z5 ?_
 rcases brk H with ⟨hc, H⟩ | ⟨hc, H⟩
 ·refine HQ.condT rfl hc ?_
  clear hc
  refine HQ.rseq ?_
  refine pu (Pu.build (us := []) (cs := [vI 0, vI 0, vI 0, vI 0, vI 0]) [] st134 rfl rfl rfl) trivial z3 ?_
  refine HQ.opN [1] [1] [] (OT.storeC (cs' := [vI 0, vI 0, vI 0, vI 0, vI 0]) sz134 rfl rfl rfl rfl rfl) z2 z1 rfl rfl rfl (fun _ => rfl) fun _ => ?_
  refine pu Pu.assign z1 z3 ?_
  refine HQ.done ?_
  refine HQ.keep [(0, _), (1, _), (4, _), (5, _)] z4 ?_
  refine HQ.ret ?_
  refine HQ.thenR ?_
  obtain rfl := Option.some.inj H
  exact HQ.fin (vs := [_, _]) Try.results127 () ⟨⟨_, _, 1, rfl, rfl, ag134, sz134, rfl⟩, rfl, trivial⟩ rfl [] trivial rfl
 ·refine HQ.condF rfl hc ?_
  clear hc
  refine HQ.skipThen ?_
  refine HQ.rseq ?_
  refine pu Pu.move z1 z3 ?_
  refine pu Pu.move z1 z3 ?_
  obtain ⟨t3, h4, H⟩ := bnd H
  refine op [] [] (OT.call (us := [_, _]) (Pre := []) [.tmp 20, .tmp 21] Try.call103 rfl rfl fun w F hs hF hp => impl_Get2_c (hb_0.pass hp) h4) z3 trivial z4 (fun _ => rfl) fun _ => ?_
  refine pu Pu.move z1 z3 ?_
  refine pu (Pu.extract rfl) z1 z3 ?_
  refine pu (Pu.extract rfl) z1 z3 ?_
  refine pu Pu.assign z1 z3 ?_
  refine pu Pu.assign z1 z3 ?_
  refine HQ.done ?_
  refine HQ.keep [(0, _), (1, _), (4, _), (5, _), (6, _)] z5 ?_
  obtain ⟨h6, H⟩ := asr H
  obtain ⟨h7, H⟩ := asr H
  obtain ⟨h8, H⟩ := asr H
  obtain ⟨h9, H⟩ := asr H
  refine HQ.drawS mixd [(0, vS a_0 p0 c_0), (1, vI p1), (4, BP b1 0), (5, .bool false), (6, vI t3.1)] 28 [⟨[], [], []⟩, ⟨[], [], []⟩, ⟨[], [], []⟩, ⟨[], [], [2]⟩, ⟨[], [], [1, 3]⟩, ⟨[], [], [4]⟩, ⟨[], [], [5]⟩, ⟨[], [], []⟩, ⟨[], [], []⟩, ⟨[], [], [8]⟩, ⟨[], [], [7, 9]⟩, ⟨[], [], [10]⟩, ⟨[], [], [11]⟩, ⟨[], [], []⟩, ⟨[], [], []⟩, ⟨[], [], [14]⟩, ⟨[], [], [13, 15]⟩, ⟨[], [], [16]⟩, ⟨[], [], [17]⟩, ⟨[], [], []⟩, ⟨[], [], []⟩, ⟨[], [], [20]⟩, ⟨[], [], [19, 21]⟩, ⟨[], [], [22]⟩, ⟨[], [], [23]⟩, ⟨[], [], [6, 12, 18, 24]⟩, ⟨[], [], [0, 25]⟩, ⟨[], [0], []⟩] [⟨some 27, none⟩] (fun (g5 : Nat) => [vI t3.1, vS a_0 p0 c_0, vI p1, vI (wrap64 (p1 + 2)), EP a_0 (wrap64 (p1 + 2)) 1 0, .int .u8 (gt p0 (wrap64 (p1 + 2))), vI (IntKind.i64.wrap (gt p0 (wrap64 (p1 + 2)))), vS a_0 p0 c_0, vI p1, vI (wrap64 (p1 + 3)), EP a_0 (wrap64 (p1 + 3)) 1 0, .int .u8 (gt p0 (wrap64 (p1 + 3))), vI (IntKind.i64.wrap (gt p0 (wrap64 (p1 + 3)))), vS a_0 p0 c_0, vI p1, vI (wrap64 (p1 + 4)), EP a_0 (wrap64 (p1 + 4)) 1 0, .int .u8 (gt p0 (wrap64 (p1 + 4))), vI (IntKind.i64.wrap (gt p0 (wrap64 (p1 + 4)))), vS a_0 p0 c_0, vI p1, vI (wrap64 (p1 + 5)), EP a_0 (wrap64 (p1 + 5)) 1 0, .int .u8 (gt p0 (wrap64 (p1 + 5))), vI (IntKind.i64.wrap (gt p0 (wrap64 (p1 + 5)))), .agg #[vI (IntKind.i64.wrap (gt p0 (wrap64 (p1 + 2)))), vI (IntKind.i64.wrap (gt p0 (wrap64 (p1 + 3)))), vI (IntKind.i64.wrap (gt p0 (wrap64 (p1 + 4)))), vI (IntKind.i64.wrap (gt p0 (wrap64 (p1 + 5))))], .agg #[vI t3.1, vI (IntKind.i64.wrap (gt p0 (wrap64 (p1 + 2)))), vI (IntKind.i64.wrap (gt p0 (wrap64 (p1 + 3)))), vI (IntKind.i64.wrap (gt p0 (wrap64 (p1 + 4)))), vI (IntKind.i64.wrap (gt p0 (wrap64 (p1 + 5))))], BP g5 0]) (fun (g5 : Nat) => [Box g5 [vI 0, vI 0, vI 0, vI 0, vI 0]]) 0 [] [2] [] z5 trivial rfl (by kernel_rfl) (fun _ => rfl) (by kernel_rfl) (fun _ => rfl) ⟨?_, ?_, ?_, ?_, ?_, ?_, ?_, ?_, ?_, ?_, ?_, ?_, ?_, ?_, ?_, ?_, ?_, ?_, ?_, ?_, ?_, ?_, ?_, ?_, ?_, ?_, ?_, ?_, trivial⟩ fun g5 => ?_
  ·exact OpOK.pu (fun g5 => [(.tmp 6, vI t3.1)]) z2 (fun _ => z1) (fun _ => Pu.move) (fun _ => z1) (fun _ _ => z3)
  ·exact OpOK.pu (fun g5 => [(.tmp 0, vS a_0 p0 c_0)]) z2 (fun _ => z1) (fun _ => Pu.move) (fun _ => z1) (fun _ _ => z3)
  ·exact OpOK.pu (fun g5 => [(.tmp 1, vI p1)]) z2 (fun _ => z1) (fun _ => Pu.move) (fun _ => z1) (fun _ _ => z3)
  ·exact OpOK.pu (fun g5 => [(.tmp 27, vI p1), (.const (vI 2), vI 2)]) z2 (fun _ => z2) (fun _ => Pu.add) (fun _ => z1) (fun _ _ => z3)
  ·exact OpOK.of (fun g5 => [(.tmp 26, vS a_0 p0 c_0), (.tmp 28, vI (wrap64 (p1 + 2)))]) _ _ (fun g5 _ => g5) rfl rfl (fun _ => z2) (fun g5 => OT.indexB ul22 sz5 hb_0 h6) (fun _ _ => z3)
  ·exact OpOK.of (fun g5 => [(.tmp 29, EP a_0 (wrap64 (p1 + 2)) 1 0)]) _ _ (fun g5 _ => g5) rfl rfl (fun _ => z1) (fun g5 => OT.loadF sc5 hb_0 h6 rfl) (fun _ _ => z3)
  ·exact OpOK.pu (fun g5 => [(.tmp 30, .int .u8 (gt p0 (wrap64 (p1 + 2))))]) z2 (fun _ => z1) (fun _ => (Pu.conv ul5 ul3)) (fun _ => z1) (fun _ _ => z3)
  ·exact OpOK.pu (fun g5 => [(.tmp 0, vS a_0 p0 c_0)]) z2 (fun _ => z1) (fun _ => Pu.move) (fun _ => z1) (fun _ _ => z3)
  ·exact OpOK.pu (fun g5 => [(.tmp 1, vI p1)]) z2 (fun _ => z1) (fun _ => Pu.move) (fun _ => z1) (fun _ _ => z3)
  ·exact OpOK.pu (fun g5 => [(.tmp 33, vI p1), (.const (vI 3), vI 3)]) z2 (fun _ => z2) (fun _ => Pu.add) (fun _ => z1) (fun _ _ => z3)
  ·exact OpOK.of (fun g5 => [(.tmp 32, vS a_0 p0 c_0), (.tmp 34, vI (wrap64 (p1 + 3)))]) _ _ (fun g5 _ => g5) rfl rfl (fun _ => z2) (fun g5 => OT.indexB ul22 sz5 hb_0 h7) (fun _ _ => z3)
  ·exact OpOK.of (fun g5 => [(.tmp 35, EP a_0 (wrap64 (p1 + 3)) 1 0)]) _ _ (fun g5 _ => g5) rfl rfl (fun _ => z1) (fun g5 => OT.loadF sc5 hb_0 h7 rfl) (fun _ _ => z3)
  ·exact OpOK.pu (fun g5 => [(.tmp 36, .int .u8 (gt p0 (wrap64 (p1 + 3))))]) z2 (fun _ => z1) (fun _ => (Pu.conv ul5 ul3)) (fun _ => z1) (fun _ _ => z3)
  ·exact OpOK.pu (fun g5 => [(.tmp 0, vS a_0 p0 c_0)]) z2 (fun _ => z1) (fun _ => Pu.move) (fun _ => z1) (fun _ _ => z3)
  ·exact OpOK.pu (fun g5 => [(.tmp 1, vI p1)]) z2 (fun _ => z1) (fun _ => Pu.move) (fun _ => z1) (fun _ _ => z3)
  ·exact OpOK.pu (fun g5 => [(.tmp 39, vI p1), (.const (vI 4), vI 4)]) z2 (fun _ => z2) (fun _ => Pu.add) (fun _ => z1) (fun _ _ => z3)
  ·exact OpOK.of (fun g5 => [(.tmp 38, vS a_0 p0 c_0), (.tmp 40, vI (wrap64 (p1 + 4)))]) _ _ (fun g5 _ => g5) rfl rfl (fun _ => z2) (fun g5 => OT.indexB ul22 sz5 hb_0 h8) (fun _ _ => z3)
  ·exact OpOK.of (fun g5 => [(.tmp 41, EP a_0 (wrap64 (p1 + 4)) 1 0)]) _ _ (fun g5 _ => g5) rfl rfl (fun _ => z1) (fun g5 => OT.loadF sc5 hb_0 h8 rfl) (fun _ _ => z3)
  ·exact OpOK.pu (fun g5 => [(.tmp 42, .int .u8 (gt p0 (wrap64 (p1 + 4))))]) z2 (fun _ => z1) (fun _ => (Pu.conv ul5 ul3)) (fun _ => z1) (fun _ _ => z3)
  ·exact OpOK.pu (fun g5 => [(.tmp 0, vS a_0 p0 c_0)]) z2 (fun _ => z1) (fun _ => Pu.move) (fun _ => z1) (fun _ _ => z3)
  ·exact OpOK.pu (fun g5 => [(.tmp 1, vI p1)]) z2 (fun _ => z1) (fun _ => Pu.move) (fun _ => z1) (fun _ _ => z3)
  ·exact OpOK.pu (fun g5 => [(.tmp 45, vI p1), (.const (vI 5), vI 5)]) z2 (fun _ => z2) (fun _ => Pu.add) (fun _ => z1) (fun _ _ => z3)
  ·exact OpOK.of (fun g5 => [(.tmp 44, vS a_0 p0 c_0), (.tmp 46, vI (wrap64 (p1 + 5)))]) _ _ (fun g5 _ => g5) rfl rfl (fun _ => z2) (fun g5 => OT.indexB ul22 sz5 hb_0 h9) (fun _ _ => z3)
  ·exact OpOK.of (fun g5 => [(.tmp 47, EP a_0 (wrap64 (p1 + 5)) 1 0)]) _ _ (fun g5 _ => g5) rfl rfl (fun _ => z1) (fun g5 => OT.loadF sc5 hb_0 h9 rfl) (fun _ _ => z3)
  ·exact OpOK.pu (fun g5 => [(.tmp 48, .int .u8 (gt p0 (wrap64 (p1 + 5))))]) z2 (fun _ => z1) (fun _ => (Pu.conv ul5 ul3)) (fun _ => z1) (fun _ _ => z3)
  ·exact OpOK.pu (fun g5 => [(.tmp 31, vI (IntKind.i64.wrap (gt p0 (wrap64 (p1 + 2))))), (.tmp 37, vI (IntKind.i64.wrap (gt p0 (wrap64 (p1 + 3))))), (.tmp 43, vI (IntKind.i64.wrap (gt p0 (wrap64 (p1 + 4))))), (.tmp 49, vI (IntKind.i64.wrap (gt p0 (wrap64 (p1 + 5)))))]) z2 (fun _ => z4) (fun _ => (Pu.build (us := [vI (IntKind.i64.wrap (gt p0 (wrap64 (p1 + 2)))), vI (IntKind.i64.wrap (gt p0 (wrap64 (p1 + 3)))), vI (IntKind.i64.wrap (gt p0 (wrap64 (p1 + 4)))), vI (IntKind.i64.wrap (gt p0 (wrap64 (p1 + 5))))]) (cs := [vI (IntKind.i64.wrap (gt p0 (wrap64 (p1 + 2)))), vI (IntKind.i64.wrap (gt p0 (wrap64 (p1 + 3)))), vI (IntKind.i64.wrap (gt p0 (wrap64 (p1 + 4)))), vI (IntKind.i64.wrap (gt p0 (wrap64 (p1 + 5))))]) [(0, .tmp 31), (1, .tmp 37), (2, .tmp 43), (3, .tmp 49)] st132 rfl rfl rfl)) (fun _ => z1) (fun _ _ => z3)
  ·exact OpOK.pu (fun g5 => [(.tmp 25, vI t3.1), (.tmp 50, .agg #[vI (IntKind.i64.wrap (gt p0 (wrap64 (p1 + 2)))), vI (IntKind.i64.wrap (gt p0 (wrap64 (p1 + 3)))), vI (IntKind.i64.wrap (gt p0 (wrap64 (p1 + 4)))), vI (IntKind.i64.wrap (gt p0 (wrap64 (p1 + 5))))])]) z2 (fun _ => z2) (fun _ => (Pu.build (us := [vI t3.1, .agg #[vI (IntKind.i64.wrap (gt p0 (wrap64 (p1 + 2)))), vI (IntKind.i64.wrap (gt p0 (wrap64 (p1 + 3)))), vI (IntKind.i64.wrap (gt p0 (wrap64 (p1 + 4)))), vI (IntKind.i64.wrap (gt p0 (wrap64 (p1 + 5))))]]) (cs := [vI t3.1, vI (IntKind.i64.wrap (gt p0 (wrap64 (p1 + 2)))), vI (IntKind.i64.wrap (gt p0 (wrap64 (p1 + 3)))), vI (IntKind.i64.wrap (gt p0 (wrap64 (p1 + 4)))), vI (IntKind.i64.wrap (gt p0 (wrap64 (p1 + 5))))]) [(0, .tmp 25), (1, .tmp 50)] st134 rfl rfl rfl)) (fun _ => z1) (fun _ _ => z3)
  ·exact OpOK.of (fun g5 => []) _ _ (fun g5 x => x) rfl rfl (fun _ => trivial) (fun g5 => OT.alloc zc134) (fun _ _ => z3)
  refine HQ.keep [(4, _), (5, _), (51, _), (8, _)] z4 ?_
  refine HQ.keepR [(1, _), (2, _)] z2 rfl ?_
  refine HQ.opN [2] [2] [] (OT.storeC (cs' := [vI t3.1, vI (IntKind.i64.wrap (gt p0 (wrap64 (p1 + 2)))), vI (IntKind.i64.wrap (gt p0 (wrap64 (p1 + 3)))), vI (IntKind.i64.wrap (gt p0 (wrap64 (p1 + 4)))), vI (IntKind.i64.wrap (gt p0 (wrap64 (p1 + 5))))]) sz134 rfl rfl rfl rfl rfl) z2 z1 rfl rfl rfl (fun _ => rfl) fun _ => ?_
  refine HQ.done ?_
  refine HQ.keep [(4, _), (5, _), (8, _)] z3 ?_
  refine HQ.seq ?_
  refine HQ.rseq ?_
  refine pu (Pu.fieldB fo134_1 rfl) z1 z3 ?_
  refine op [2] [2] (OT.loadBA (vs := [vI (IntKind.i64.wrap (gt p0 (wrap64 (p1 + 2)))), vI (IntKind.i64.wrap (gt p0 (wrap64 (p1 + 3)))), vI (IntKind.i64.wrap (gt p0 (wrap64 (p1 + 4)))), vI (IntKind.i64.wrap (gt p0 (wrap64 (p1 + 5))))]) ag132 sz132 rfl rfl) z1 z1 z4 (fun _ => rfl) fun _ => ?_
  obtain ⟨t11, h12, H⟩ := bnd H
  refine op [] [] (OT.call (us := [_]) (Pre := []) [.tmp 53] Try.call109 rfl rfl fun w F hs hF hp => impl_BoxOk_c h12) z2 trivial z4 (fun _ => rfl) fun _ => ?_
  refine pu Pu.not z1 z3 ?_
  refine HQ.done ?_
  refine HQ.keep [(4, _), (5, _), (8, _), (55, _)] z4 ?_
  rcases brk H with ⟨hc, H⟩ | ⟨hc, H⟩
  ·refine HQ.condT rfl hc ?_
   clear hc
   refine HQ.rseq ?_
   refine pu (Pu.build (us := []) (cs := [vI 0, vI 0, vI 0, vI 0, vI 0]) [] st134 rfl rfl rfl) trivial z3 ?_
   refine HQ.opN [1] [1] [] (OT.storeC (cs' := [vI 0, vI 0, vI 0, vI 0, vI 0]) sz134 rfl rfl rfl rfl rfl) z2 z1 rfl rfl rfl (fun _ => rfl) fun _ => ?_
   refine pu Pu.assign z1 z3 ?_
   refine HQ.done ?_
   refine HQ.keep [(4, _), (5, _), (8, _)] z3 ?_
   refine HQ.ret ?_
   refine HQ.thenR ?_
   obtain rfl := Option.some.inj H
   exact HQ.fin (vs := [_, _]) Try.results127 () ⟨⟨_, _, 1, rfl, rfl, ag134, sz134, rfl⟩, rfl, trivial⟩ rfl [] trivial rfl
  ·refine HQ.condF rfl hc ?_
   clear hc
   refine HQ.skipThen ?_
   refine HQ.rseq ?_
   refine op [2] [2] (OT.loadBA (vs := [vI t3.1, vI (IntKind.i64.wrap (gt p0 (wrap64 (p1 + 2)))), vI (IntKind.i64.wrap (gt p0 (wrap64 (p1 + 3)))), vI (IntKind.i64.wrap (gt p0 (wrap64 (p1 + 4)))), vI (IntKind.i64.wrap (gt p0 (wrap64 (p1 + 5))))]) ag134 sz134 rfl rfl) z1 z1 z4 (fun _ => rfl) fun _ => ?_
   refine HQ.opN [1] [1] [] (OT.storeC (cs' := [vI t3.1, vI (IntKind.i64.wrap (gt p0 (wrap64 (p1 + 2)))), vI (IntKind.i64.wrap (gt p0 (wrap64 (p1 + 3)))), vI (IntKind.i64.wrap (gt p0 (wrap64 (p1 + 4)))), vI (IntKind.i64.wrap (gt p0 (wrap64 (p1 + 5))))]) sz134 rfl rfl rfl rfl rfl) z2 z1 rfl rfl rfl (fun _ => rfl) fun _ => ?_
   refine pu Pu.assign z1 z3 ?_
   refine HQ.done ?_
   refine HQ.keep [(4, _), (5, _)] z2 ?_
   refine HQ.ret ?_
   obtain rfl := Option.some.inj H
   exact HQ.fin (vs := [_, _]) Try.results127 () ⟨⟨_, _, 1, rfl, rfl, ag134, sz134, rfl⟩, rfl, trivial⟩ rfl [] trivial rfl

theorem bytes_Equal_c {w : World} {p0 : (List Int)} {p1 : (List Int)} {a_0 : Option Addr} {c_0 : Nat} {a_1 : Option Addr} {c_1 : Nat} (hb_0 : BorS kU8 a_0 c_0 p0 w.heap (Lt w Nil)) (hb_1 : BorS kU8 a_1 c_1 p1 w.heap (Lt w Nil)) {r : Bool} (H : bytes_Equal p0 p1 = some r) :
  Calls Try.prog 100 #[vS a_0 p0 c_0, vS a_1 p1 c_1] w (Rt w Nil (fun _ : Unit => .bool r) (fun _ => [])) := by
 rw [bytes_Equal] at H
 refine Calls.enter0 (N := 10) (us := [_, _]) Try.func100 rfl rfl rfl ?_
 refine HQ.rseq ?_
 refine pu Pu.assign z1 z3 ?_
 refine HQ.done ?_
 refine HQ.keep [(0, _), (1, _), (4, _)] z3 ?_
 refine HQ.rseq ?_
 refine pu Pu.move z1 z3 ?_
 refine op [] [] (OT.convS ul22 ul5 ul9 hb_0) z1 trivial z4 (fun _ => rfl) fun _ => ?_
 refine pu Pu.move z1 z3 ?_
 refine op [] [] (OT.convS ul22 ul5 ul9 hb_1) z1 trivial z4 (fun _ => rfl) fun _ => ?_
 refine pu (Pu.eqlS ul9) z2 z3 ?_
 refine pu Pu.assign z1 z3 ?_
 refine HQ.done ?_
 refine HQ.keep [(4, _)] z1 ?_
 refine HQ.ret ?_
 obtain rfl := Option.some.inj H
 exact HQ.fin (vs := [_]) Try.results100 () z1 rfl [] trivial rfl

theorem impl_GetNode_c {w : World} {k : Nat} {p0 : (List Int)} {a_0 : Option Addr} {c_0 : Nat} (hb_0 : BorS kU8 a_0 c_0 p0 w.heap (Lt w Nil)) {r : TNode × Bool} (H : impl_GetNode k p0 = some r) :
  Calls Try.prog 99 #[vS a_0 p0 c_0] w (Rt w Nil (fun g : Option Addr × Nat => .tuple #[.agg #[.bool r.1.Leaf, vS g.1 r.1.L g.2], .bool r.2]) (fun g => [OwnS kTEntry g.1 g.2 r.1.L])) := by
 rw [impl_GetNode] at H
 refine Calls.enter0 (N := 56) (us := [_]) Try.func99 rfl rfl rfl ?_
 refine HQ.rseq ?_
 refine op [] [1] (OT.alloc zc47) trivial trivial z4 (fun _ => rfl) fun b1 => ?_
 refine pu Pu.assign z1 z3 ?_
 refine HQ.done ?_
 refine HQ.keep [(0, _), (2, _), (3, _)] z3 ?_
 refine HQ.seq ?_
 refine HQ.rseq ?_
 refine pu Pu.move z1 z3 ?_
 refine pu (Pu.len ul22) z1 z3 ?_
 refine pu Pu.neq z2 z3 ?_
 refine HQ.done ?_
 refine HQ.keep [(0, _), (2, _), (3, _), (10, _)] z4 ?_
 rcases brk H with ⟨hc, H⟩ | ⟨hc, H⟩
 ·refine HQ.condT rfl hc ?_
  clear hc
  refine HQ.rseq ?_
  refine pu (Pu.build (us := []) (cs := [.bool false, .slice none 0 0]) [] st47 rfl rfl rfl) trivial z3 ?_
  refine HQ.opN [1] [1] [] (OT.storeC (cs' := [.bool false, .slice none 0 0]) sz47 rfl rfl rfl rfl rfl) z2 z1 rfl rfl rfl (fun _ => rfl) fun _ => ?_
  refine pu Pu.assign z1 z3 ?_
  refine HQ.done ?_
  refine HQ.keep [(0, _), (2, _), (3, _)] z3 ?_
  refine HQ.ret ?_
  refine HQ.thenR ?_
  obtain rfl := Option.some.inj H
  refine HQ.nil kTEntry 2 rfl ?_
  exact HQ.fin (vs := [_, _]) Try.results99 (none, 0) ⟨⟨_, _, 1, rfl, rfl, ag47, sz47, rfl⟩, rfl, trivial⟩ rfl [2] z1 rfl
 ·refine HQ.condF rfl hc ?_
  clear hc
  refine HQ.skipThen ?_
  refine HQ.rseq ?_
  refine pu Pu.move z1 z3 ?_
  obtain ⟨h2, H⟩ := asr H
  refine op [] [] (OT.indexB ul22 sz5 hb_0 h2) z2 trivial z4 (fun _ => rfl) fun _ => ?_
  refine op [] [] (OT.loadF sc5 hb_0 h2 rfl) z1 trivial z4 (fun _ => rfl) fun _ => ?_
  refine pu Pu.geq z2 z3 ?_
  refine pu (Pu.build (us := [.bool (decide ((gt p0 0) ≥ 16))]) (cs := [.bool (decide ((gt p0 0) ≥ 16)), .slice none 0 0]) [(0, .tmp 15)] st47 rfl rfl rfl) z1 z3 ?_
  refine op [] [3] (OT.alloc zc47) trivial trivial z4 (fun _ => rfl) fun b3 => ?_
  refine HQ.opN [3] [3] [] (OT.storeC (cs' := [.bool (decide ((gt p0 0) ≥ 16)), .slice none 0 0]) sz47 rfl rfl rfl rfl rfl) z2 z1 rfl rfl rfl (fun _ => rfl) fun _ => ?_
  refine HQ.done ?_
  refine HQ.keep [(0, _), (2, _), (3, _), (4, _)] z4 ?_
  refine HQ.seq ?_
  refine HQ.rseq ?_
  refine pu Pu.move z1 z3 ?_
  obtain ⟨h4, H⟩ := asr H
  refine op [] [] (OT.indexB ul22 sz5 hb_0 h4) z2 trivial z4 (fun _ => rfl) fun _ => ?_
  refine op [] [] (OT.loadF sc5 hb_0 h4 rfl) z1 trivial z4 (fun _ => rfl) fun _ => ?_
  refine pu (Pu.rem8 (by decide)) z2 z3 ?_
  refine pu (Pu.conv ul5 ul3) z1 z3 ?_
  refine pu Pu.min z2 z3 ?_
  refine pu Pu.move z1 z3 ?_
  refine HQ.done ?_
  refine HQ.keep [(0, _), (2, _), (3, _), (4, _), (22, _), (23, _)] z6 ?_
  refine HQ.block ?_
  refine HQ.nil kTEntry 7 rfl ?_
  obtain ⟨o33, h49, H⟩ := bnd H
  refine HQ.loop h49 0 (fun (s : Int × (List TEntry)) (g : Option Addr × Nat) => match s, g with | (i13, l14), (a15, c16) => [(0, vS a_0 p0 c_0), (2, BP b1 0), (3, .bool false), (4, BP b3 0), (22, vI (if 4 < (IntKind.i64.wrap (Int.tmod (gt p0 0) 16)) then 4 else (IntKind.i64.wrap (Int.tmod (gt p0 0) 16)))), (23, vI i13)]) (fun (s : Int × (List TEntry)) (g : Option Addr × Nat) => match s, g with | (i13, l14), (a15, c16) => [(1, Box b1 [.bool false, .slice none 0 0]), (3, Box b3 [.bool (decide ((gt p0 0) ≥ 16)), vS a15 l14 c16]), (7, OwnS kTEntry a15 c16 l14)]) (fun r => bodyPost Try.prog Try.f99 (Rt w Nil (fun g : Option Addr × Nat => .tuple #[.agg #[.bool r.1.Leaf, vS g.1 r.1.L g.2], .bool r.2]) (fun g => [OwnS kTEntry g.1 g.2 r.1.L])) .ret) (none, 0) z6 z3 rfl ?_ ?_ ?_
  ·clear H h49
   rintro ⟨i13, l14⟩ ⟨a15, c16⟩ o H
   rw [impl_GetNode_b0] at H
   refine HQ.keep [(0, _), (2, _), (3, _), (4, _), (22, _), (23, _)] z6 ?_
   refine HQ.keepR [(1, _), (3, _), (7, _)] z3 rfl ?_
   refine HQ.rseq ?_
   refine pu Pu.lss z2 z3 ?_
   refine HQ.done ?_
   refine HQ.keep [(0, _), (2, _), (3, _), (4, _), (22, _), (23, _), (24, _)] z7 ?_
   refine HQ.seq ?_
   rcases brk H with ⟨hc, H⟩ | ⟨hc, H⟩
   ·refine HQ.condT rfl hc ?_
    clear hc
    refine HQ.skipThen ?_
    refine HQ.seq ?_
    refine HQ.block ?_
    refine HQ.rseq ?_
    refine pu Pu.move z1 z3 ?_
    refine pu Pu.assign z1 z3 ?_
    refine HQ.done ?_
    refine HQ.keep [(0, _), (2, _), (3, _), (4, _), (22, _), (23, _), (5, _)] z7 ?_
    refine HQ.rseq ?_
    refine pu Pu.move z1 z3 ?_
    refine pu Pu.move z1 z3 ?_
    refine pu Pu.mul z2 z3 ?_
    refine pu Pu.add z2 z3 ?_
    obtain ⟨t25, h26, H⟩ := bnd H
    refine op [] [] (OT.call (us := [_, _]) (Pre := []) [.tmp 27, .tmp 30] Try.call127 rfl rfl fun w F hs hF hp => impl_GetEntry_c (hb_0.pass hp) h26) z3 trivial z4 (fun _ => rfl) fun _ => ?_
    refine pu Pu.move z1 z3 ?_
    refine pu (Pu.extract rfl) z1 z3 ?_
    refine pu (Pu.extract rfl) z1 z3 ?_
    refine op [] [10] (OT.alloc zc134) trivial trivial z4 (fun _ => rfl) fun b27 => ?_
    refine HQ.opN [10] [10] [] (OT.storeC (cs' := [vI t25.1.N, vI t25.1.R.X0, vI t25.1.R.Y0, vI t25.1.R.X1, vI t25.1.R.Y1]) sz134 rfl rfl rfl rfl rfl) z2 z1 rfl rfl rfl (fun _ => rfl) fun _ => ?_
    refine pu Pu.assign z1 z3 ?_
    refine HQ.done ?_
    refine HQ.keep [(0, _), (2, _), (3, _), (4, _), (22, _), (23, _), (6, _), (7, _)] z8 ?_
    refine HQ.seq ?_
    refine HQ.rseq ?_
    refine pu Pu.move z1 z3 ?_
    refine pu Pu.not z1 z3 ?_
    refine HQ.done ?_
    refine HQ.keep [(0, _), (2, _), (3, _), (4, _), (22, _), (23, _), (6, _), (35, _)] z8 ?_
    rcases brk H with ⟨hc, H⟩ | ⟨hc, H⟩
    ·refine HQ.condT rfl hc ?_
     clear hc
     refine HQ.rseq ?_
     refine pu (Pu.build (us := []) (cs := [.bool false, .slice none 0 0]) [] st47 rfl rfl rfl) trivial z3 ?_
     refine HQ.opN [1] [1] [] (OT.storeC (cs' := [.bool false, .slice none 0 0]) sz47 rfl rfl rfl rfl rfl) z2 z1 rfl rfl rfl (fun _ => rfl) fun _ => ?_
     refine pu Pu.assign z1 z3 ?_
     refine HQ.done ?_
     refine HQ.keep [(0, _), (2, _), (3, _), (4, _), (22, _), (23, _), (6, _)] z7 ?_
     refine HQ.ret ?_
     refine HQ.thenR ?_
     refine HQ.blkR ?_
     refine HQ.thenR ?_
     obtain rfl := Option.some.inj H
     refine HQ.nil kTEntry 11 rfl ?_
     refine HQ.retL ?_
     exact HQ.fin (vs := [_, _]) Try.results99 (none, 0) ⟨⟨_, _, 1, rfl, rfl, ag47, sz47, rfl⟩, rfl, trivial⟩ rfl [11] z1 rfl
    ·refine HQ.condF rfl hc ?_
     clear hc
     refine HQ.skipThen ?_
     refine HQ.regionQ ?_
     refine pu (Pu.fieldB fo47_1 rfl) z1 z3 ?_
     refine op [3] [3] (OT.loadB sc45 rfl) z1 z1 z4 (fun _ => rfl) fun _ => ?_
     refine op [10] [10] (OT.loadBA (vs := [vI t25.1.N, vI t25.1.R.X0, vI t25.1.R.Y0, vI t25.1.R.X1, vI t25.1.R.Y1]) ag134 sz134 rfl rfl) z1 z1 z4 (fun _ => rfl) fun _ => ?_
     refine op [] [12] (OT.buildF (us := [.agg #[vI t25.1.N, vI t25.1.R.X0, vI t25.1.R.Y0, vI t25.1.R.X1, vI t25.1.R.Y1]]) (ys := ([t25.1] : (List TEntry))) (enc := encTEntry) (hl := fun _ => ⟨rfl, rfl⟩) [.tmp 39] sl45.ul sl45.szE sl45.zc rfl rfl rfl rfl rfl) z1 trivial z4 (fun _ => rfl) fun ⟨a28, c29⟩ => ?_
     obtain ⟨h32, H⟩ := asr H
     refine op [7, 12] [7, 12] (OT.appendG (enc := encTEntry) (hl := fun _ => ⟨rfl, rfl⟩) sl45 ul45 h32) z2 z2 z4 (fun _ => rfl) fun ⟨a30, c31⟩ => ?_
     refine pu (Pu.fieldB fo47_1 rfl) z1 z3 ?_
     refine HQ.opN [3] [3] [] (OT.storeC (cs' := [.bool (decide ((gt p0 0) ≥ 16)), vS a30 (l14 ++ ([t25.1] : (List TEntry))) c31]) sz45 rfl rfl rfl rfl rfl) z2 z1 rfl rfl rfl (fun _ => rfl) fun _ => ?_
     refine HQ.done ?_
     refine HQ.keep [(0, _), (2, _), (3, _), (4, _), (22, _), (23, _)] z6 ?_
     refine HQ.blkN ?_
     refine HQ.thenN ?_
     refine HQ.regionQ ?_
     refine pu Pu.add z2 z3 ?_
     refine pu Pu.move z1 z3 ?_
     refine HQ.done ?_
     refine HQ.keep [(0, _), (2, _), (3, _), (4, _), (22, _), (23, _)] z6 ?_
     obtain rfl := Option.some.inj H
     exact HQ.next (a30, c31) z6 z3 rfl
   ·refine HQ.condF rfl hc ?_
    clear hc
    refine HQ.exit ?_
    refine HQ.thenE ?_
    obtain rfl := Option.some.inj H
    exact HQ.out (a15, c16) z6 z3 rfl
  ·rintro ⟨i34, l35⟩ rfl ⟨a36, c37⟩
   clear h49
   replace H := H
   refine HQ.keep [(0, _), (2, _), (3, _), (4, _), (22, _), (23, _)] z6 ?_
   refine HQ.keepR [(1, _), (3, _), (7, _)] z3 rfl ?_
   refine HQ.blkE ?_
   refine HQ.thenN ?_
   refine HQ.seq ?_
   refine HQ.rseq ?_
   refine op [3] [3] (OT.loadBA (vs := [.bool (decide ((gt p0 0) ≥ 16)), vS a36 l35 c37]) ag47 sz47 rfl rfl) z1 z1 z4 (fun _ => rfl) fun _ => ?_
   obtain ⟨t38, h39, H⟩ := bnd H
   refine op [7] [7] (OT.call (us := [_]) (Pre := [OwnS kTEntry a36 c37 l35]) [.tmp 44] Try.call38 rfl rfl fun w F hs hF hp => impl_NodeOk_c (hs.lend hF 0 rfl) h39) z2 z1 z4 (fun _ => rfl) fun _ => ?_
   refine pu Pu.not z1 z3 ?_
   refine pu Pu.move z1 z3 ?_
   obtain ⟨c47, h48, H⟩ := bnd H
   refine HQ.cutAt 6 [(53, .bool c47), (2, BP b1 0), (3, .bool false), (4, BP b3 0)] [(1, Box b1 [.bool false, .slice none 0 0]), (3, Box b3 [.bool (decide ((gt p0 0) ≥ 16)), vS a36 l35 c37]), (7, OwnS kTEntry a36 c37 l35)] ?_ ?_
   ·clear H
    have H := h48
    rcases brk H with ⟨hg40, H⟩ | ⟨hg40, H⟩
    ·obtain rfl := Option.some.inj H
     refine HQ.off rfl rfl hg40 rfl ?_
     refine HQ.off rfl rfl hg40 rfl ?_
     refine HQ.off rfl rfl hg40 rfl ?_
     refine HQ.off rfl rfl hg40 rfl ?_
     refine HQ.off rfl rfl hg40 rfl ?_
     refine pu (Pu.pickC1 hg40) z2 z3 ?_
     exact HQ.mid z4 z3 rfl
    ·refine HQ.on rfl rfl hg40 ?_
     refine op [3] [3] (OT.loadBA (vs := [.bool (decide ((gt p0 0) ≥ 16)), vS a36 l35 c37]) ag47 sz47 rfl rfl) z1 z1 z4 (fun _ => rfl) fun _ => ?_
     refine HQ.on rfl rfl hg40 ?_
     obtain ⟨t41, h42, H⟩ := bnd H
     refine op [7] [13, 7] (OT.call (us := [_]) (Pre := [OwnS kTEntry a36 c37 l35]) [.tmp 48] Try.call98 rfl rfl fun w F hs hF hp => impl_PutNode_c (hs.lend hF 0 rfl) h42) z2 z1 z4 (fun _ => rfl) fun ⟨a43, c44⟩ => ?_
     refine HQ.on rfl rfl hg40 ?_
     refine pu Pu.move z1 z3 ?_
     refine HQ.on rfl rfl hg40 ?_
     obtain ⟨t45, h46, H⟩ := bnd H
     refine op [13] [13] (OT.call (us := [_, _]) (Pre := [OwnS kU8 a43 c44 t41]) [.tmp 49, .tmp 50] Try.call100 rfl rfl fun w F hs hF hp => bytes_Equal_c (hs.lend hF 0 rfl) (hb_0.pass hp) h46) z3 z1 z4 (fun _ => rfl) fun _ => ?_
     refine HQ.on rfl rfl hg40 ?_
     refine pu Pu.not z1 z3 ?_
     obtain rfl := Option.some.inj H
     refine pu (Pu.pickC0 hg40) z2 z3 ?_
     exact HQ.mid z4 z3 rfl
   refine HQ.done ?_
   refine HQ.keep [(53, _), (2, _), (3, _), (4, _)] z4 ?_
   rcases brk H with ⟨hc, H⟩ | ⟨hc, H⟩
   ·refine HQ.condT rfl hc ?_
    clear hc
    refine HQ.rseq ?_
    refine pu (Pu.build (us := []) (cs := [.bool false, .slice none 0 0]) [] st47 rfl rfl rfl) trivial z3 ?_
    refine HQ.opN [1] [1] [] (OT.storeC (cs' := [.bool false, .slice none 0 0]) sz47 rfl rfl rfl rfl rfl) z2 z1 rfl rfl rfl (fun _ => rfl) fun _ => ?_
    refine pu Pu.assign z1 z3 ?_
    refine HQ.done ?_
    refine HQ.keep [(2, _), (3, _), (4, _)] z3 ?_
    refine HQ.ret ?_
    refine HQ.thenR ?_
    obtain rfl := Option.some.inj H
    refine HQ.nil kTEntry 14 rfl ?_
    exact HQ.fin (vs := [_, _]) Try.results99 (none, 0) ⟨⟨_, _, 1, rfl, rfl, ag47, sz47, rfl⟩, rfl, trivial⟩ rfl [14] z1 rfl
   ·refine HQ.condF rfl hc ?_
    clear hc
    refine HQ.skipThen ?_
    refine HQ.rseq ?_
    refine op [3] [3] (OT.loadBA (vs := [.bool (decide ((gt p0 0) ≥ 16)), vS a36 l35 c37]) ag47 sz47 rfl rfl) z1 z1 z4 (fun _ => rfl) fun _ => ?_
    refine HQ.opN [1] [1] [] (OT.storeC (cs' := [.bool (decide ((gt p0 0) ≥ 16)), vS a36 l35 c37]) sz47 rfl rfl rfl rfl rfl) z2 z1 rfl rfl rfl (fun _ => rfl) fun _ => ?_
    refine pu Pu.assign z1 z3 ?_
    refine HQ.done ?_
    refine HQ.keep [(2, _), (3, _)] z2 ?_
    refine HQ.ret ?_
    obtain rfl := Option.some.inj H
    exact HQ.fin (vs := [_, _]) Try.results99 (a36, c37) ⟨⟨_, _, 1, rfl, rfl, ag47, sz47, rfl⟩, rfl, trivial⟩ rfl [7] z1 rfl
  ·rintro r rfl a w hr
   obtain rfl := Option.some.inj H
   exact hr

theorem impl_GetPut_c {w : World} {k : Nat} {p0 : Int} {p1 : (List Int)} {a_0 : Option Addr} {c_0 : Nat} (hb_0 : BorS kU8 a_0 c_0 p1 w.heap (Lt w Nil)) {r : TChange × Bool} (H : impl_GetPut k p0 p1 = some r) :
  Calls Try.prog 28 #[vI p0, vS a_0 p1 c_0] w (Rt w Nil (fun g : Option Addr × Nat => .tuple #[.agg #[vI r.1.Page, .bool r.1.N.Leaf, vS g.1 r.1.N.L g.2], .bool r.2]) (fun g => [OwnS kTEntry g.1 g.2 r.1.N.L])) := by
 rw [impl_GetPut] at H
 refine Calls.enter0 (N := 45) (us := [_, _]) Try.func28 rfl rfl rfl ?_
 refine HQ.rseq ?_
 refine op [] [1] (OT.alloc zc49) trivial trivial z4 (fun _ => rfl) fun b1 => ?_
 refine pu Pu.assign z1 z3 ?_
 refine HQ.done ?_
 refine HQ.keep [(0, _), (1, _), (4, _), (5, _)] z4 ?_
 refine HQ.seq ?_
 refine HQ.rseq ?_
 refine pu Pu.move z1 z3 ?_
 refine pu (Pu.len ul22) z1 z3 ?_
 refine pu Pu.neq z2 z3 ?_
 refine HQ.done ?_
 refine HQ.keep [(0, _), (1, _), (4, _), (5, _), (12, _)] z5 ?_
 rcases brk H with ⟨hc, H⟩ | ⟨hc, H⟩
 ·refine HQ.condT rfl hc ?_
  clear hc
  refine HQ.rseq ?_
  refine pu (Pu.build (us := []) (cs := [vI 0, .bool false, .slice none 0 0]) [] st49 rfl rfl rfl) trivial z3 ?_
  refine HQ.opN [1] [1] [] (OT.storeC (cs' := [vI 0, .bool false, .slice none 0 0]) sz49 rfl rfl rfl rfl rfl) z2 z1 rfl rfl rfl (fun _ => rfl) fun _ => ?_
  refine pu Pu.assign z1 z3 ?_
  refine HQ.done ?_
  refine HQ.keep [(0, _), (1, _), (4, _), (5, _)] z4 ?_
  refine HQ.ret ?_
  refine HQ.thenR ?_
  obtain rfl := Option.some.inj H
  refine HQ.nil kTEntry 2 rfl ?_
  exact HQ.fin (vs := [_, _]) Try.results28 (none, 0) ⟨⟨_, _, 1, rfl, rfl, ag49, sz49, rfl⟩, rfl, trivial⟩ rfl [2] z1 rfl
 ·refine HQ.condF rfl hc ?_
  clear hc
  refine HQ.skipThen ?_
  refine HQ.rseq ?_
  refine pu Pu.move z1 z3 ?_
  obtain ⟨h2, H⟩ := asr H
  refine op [] [] (OT.cutB (vs := [(.const (vI 4), vI 4), (.const (vI 29), vI 29)]) (l := 4) (h := 29) ul22 sz5 hb_0 (.inr ⟨_, _, rfl, .tail _ (.head _)⟩) (.inr ⟨_, _, rfl, .tail _ (.tail _ (.head _))⟩) h2) z3 trivial z4 (fun _ => rfl) fun _ => ?_
  obtain ⟨t3, h4, H⟩ := bnd H
  refine op [] [3] (OT.call (us := [_]) (Pre := []) [.tmp 16] Try.call99 rfl rfl fun w F hs hF hp => impl_GetNode_c ((hb_0.slice h2).pass hp) h4) z2 trivial z4 (fun _ => rfl) fun ⟨a5, c6⟩ => ?_
  refine pu Pu.move z1 z3 ?_
  refine pu (Pu.extract rfl) z1 z3 ?_
  refine pu (Pu.extract rfl) z1 z3 ?_
  refine op [] [4] (OT.alloc zc47) trivial trivial z4 (fun _ => rfl) fun b7 => ?_
  refine HQ.opN [4] [4] [] (OT.storeC (cs' := [.bool t3.1.Leaf, vS a5 t3.1.L c6]) sz47 rfl rfl rfl rfl rfl) z2 z1 rfl rfl rfl (fun _ => rfl) fun _ => ?_
  refine pu Pu.assign z1 z3 ?_
  refine HQ.done ?_
  refine HQ.keep [(0, _), (1, _), (4, _), (5, _), (6, _), (7, _)] z6 ?_
  obtain ⟨h9, H⟩ := asr H
  refine HQ.drawS mixd [(0, vI p0), (1, vS a_0 p1 c_0), (4, BP b1 0), (5, .bool false), (6, BP b7 0), (7, .bool t3.2)] 7 [⟨[], [], []⟩, ⟨[], [], [0]⟩, ⟨[], [], [1]⟩, ⟨[], [], [2]⟩, ⟨[0], [0], []⟩, ⟨[], [], [3, 4]⟩, ⟨[], [1], []⟩] [⟨none, none⟩, ⟨some 6, none⟩] (fun (g8 : Nat) => [vS a_0 p1 c_0, EP a_0 3 1 0, .int .u8 (gt p1 3), vI (IntKind.i64.wrap (gt p1 3)), .agg #[.bool t3.1.Leaf, vS a5 t3.1.L c6], .agg #[vI (IntKind.i64.wrap (gt p1 3)), .bool t3.1.Leaf, vS a5 t3.1.L c6], BP g8 0]) (fun (g8 : Nat) => [Box b7 [.bool t3.1.Leaf, vS a5 t3.1.L c6], Box g8 [vI 0, .bool false, .slice none 0 0]]) 0 [4] [4, 5] [] z6 z1 rfl (by kernel_rfl) (fun _ => rfl) (by kernel_rfl) (fun _ => rfl) ⟨?_, ?_, ?_, ?_, ?_, ?_, ?_, trivial⟩ fun g8 => ?_
  ·exact OpOK.pu (fun g8 => [(.tmp 1, vS a_0 p1 c_0)]) z2 (fun _ => z1) (fun _ => Pu.move) (fun _ => z1) (fun _ _ => z4)
  ·exact OpOK.of (fun g8 => [(.tmp 20, vS a_0 p1 c_0), (.const (vI 3), vI 3)]) _ _ (fun g8 _ => g8) rfl rfl (fun _ => z2) (fun g8 => OT.indexB ul22 sz5 hb_0 h9) (fun _ _ => z4)
  ·exact OpOK.of (fun g8 => [(.tmp 21, EP a_0 3 1 0)]) _ _ (fun g8 _ => g8) rfl rfl (fun _ => z1) (fun g8 => OT.loadF sc5 hb_0 h9 rfl) (fun _ _ => z4)
  ·exact OpOK.pu (fun g8 => [(.tmp 22, .int .u8 (gt p1 3))]) z2 (fun _ => z1) (fun _ => (Pu.conv ul5 ul3)) (fun _ => z1) (fun _ _ => z4)
  ·exact OpOK.of (fun g8 => [(.tmp 6, BP b7 0)]) _ _ (fun g8 _ => g8) rfl rfl (fun _ => z1) (fun g8 => OT.loadBA (vs := [.bool t3.1.Leaf, vS a5 t3.1.L c6]) ag47 sz47 rfl rfl) (fun _ _ => z4)
  ·exact OpOK.pu (fun g8 => [(.tmp 23, vI (IntKind.i64.wrap (gt p1 3))), (.tmp 24, .agg #[.bool t3.1.Leaf, vS a5 t3.1.L c6])]) z2 (fun _ => z2) (fun _ => (Pu.build (us := [vI (IntKind.i64.wrap (gt p1 3)), .agg #[.bool t3.1.Leaf, vS a5 t3.1.L c6]]) (cs := [vI (IntKind.i64.wrap (gt p1 3)), .bool t3.1.Leaf, vS a5 t3.1.L c6]) [(0, .tmp 23), (1, .tmp 24)] st49 rfl rfl rfl)) (fun _ => z1) (fun _ _ => z4)
  ·exact OpOK.of (fun g8 => []) _ _ (fun g8 x => x) rfl rfl (fun _ => trivial) (fun g8 => OT.alloc zc49) (fun _ _ => z4)
  refine HQ.keep [(0, _), (1, _), (4, _), (5, _), (7, _), (25, _), (8, _)] z7 ?_
  refine HQ.keepR [(1, _), (3, _), (4, _), (5, _)] z4 rfl ?_
  refine HQ.opN [5] [5] [] (OT.storeC (cs' := [vI (IntKind.i64.wrap (gt p1 3)), .bool t3.1.Leaf, vS a5 t3.1.L c6]) sz49 rfl rfl rfl rfl rfl) z2 z1 rfl rfl rfl (fun _ => rfl) fun _ => ?_
  refine HQ.done ?_
  refine HQ.keep [(0, _), (1, _), (4, _), (5, _), (7, _), (8, _)] z6 ?_
  refine HQ.rseq ?_
  refine pu Pu.move z1 z3 ?_
  refine op [5] [5] (OT.loadBA (vs := [vI (IntKind.i64.wrap (gt p1 3)), .bool t3.1.Leaf, vS a5 t3.1.L c6]) ag49 sz49 rfl rfl) z1 z1 z4 (fun _ => rfl) fun _ => ?_
  obtain ⟨t11, h12, H⟩ := bnd H
  refine op [3] [6, 3] (OT.call (us := [_, _]) (Pre := [OwnS kTEntry a5 c6 t3.1.L]) [.tmp 26, .tmp 27] Try.call27 rfl rfl fun w F hs hF hp => impl_PutCell_c (hs.lend hF 0 rfl) h12) z3 z1 z4 (fun _ => rfl) fun ⟨a13, c14⟩ => ?_
  refine pu Pu.assign z1 z3 ?_
  refine HQ.done ?_
  refine HQ.keep [(1, _), (4, _), (5, _), (7, _), (8, _), (9, _)] z6 ?_
  refine HQ.seq ?_
  refine HQ.rseq ?_
  refine pu Pu.move z1 z3 ?_
  refine pu Pu.not z1 z3 ?_
  refine pu Pu.move z1 z3 ?_
  refine HQ.cutAt 4 [(35, .bool ((!t3.2) || (decide (((List.length t11 : Nat) : Int) = 0)))), (1, vS a_0 p1 c_0), (4, BP b1 0), (5, .bool false), (8, BP g8 0), (9, vS a13 t11 c14)] [(1, Box b1 [vI 0, .bool false, .slice none 0 0]), (3, OwnS kTEntry a5 c6 t3.1.L), (4, Box b7 [.bool t3.1.Leaf, vS a5 t3.1.L c6]), (5, Box g8 [vI (IntKind.i64.wrap (gt p1 3)), .bool t3.1.Leaf, vS a5 t3.1.L c6]), (6, OwnS kU8 a13 c14 t11)] ?_ ?_
  ·rcases Bool.eq_false_or_eq_true (!t3.2) with hg15 | hg15
   ·refine HQ.off rfl rfl hg15 rfl ?_
    refine HQ.off rfl rfl hg15 rfl ?_
    refine HQ.off rfl rfl hg15 rfl ?_
    refine pu (Pu.pickOT (u := (decide (((List.length t11 : Nat) : Int) = 0))) hg15) z2 z3 ?_
    exact HQ.mid z6 z5 rfl
   ·refine HQ.on rfl rfl hg15 ?_
    refine pu Pu.move z1 z3 ?_
    refine HQ.on rfl rfl hg15 ?_
    refine pu (Pu.len ul22) z1 z3 ?_
    refine HQ.on rfl rfl hg15 ?_
    refine pu Pu.eql z2 z3 ?_
    refine pu (Pu.pickOF hg15) z2 z3 ?_
    exact HQ.mid z6 z5 rfl
  refine pu Pu.move z1 z3 ?_
  obtain ⟨c23, h24, H⟩ := bnd H
  refine HQ.cutAt 6 [(42, .bool c23), (4, BP b1 0), (5, .bool false), (8, BP g8 0)] [(1, Box b1 [vI 0, .bool false, .slice none 0 0]), (3, OwnS kTEntry a5 c6 t3.1.L), (4, Box b7 [.bool t3.1.Leaf, vS a5 t3.1.L c6]), (5, Box g8 [vI (IntKind.i64.wrap (gt p1 3)), .bool t3.1.Leaf, vS a5 t3.1.L c6]), (6, OwnS kU8 a13 c14 t11)] ?_ ?_
  ·clear H
   have H := h24
   rcases brk H with ⟨hg16, H⟩ | ⟨hg16, H⟩
   ·obtain rfl := Option.some.inj H
    refine HQ.off rfl rfl hg16 rfl ?_
    refine HQ.off rfl rfl hg16 rfl ?_
    refine HQ.off rfl rfl hg16 rfl ?_
    refine HQ.off rfl rfl hg16 rfl ?_
    refine HQ.off rfl rfl hg16 rfl ?_
    refine pu (Pu.pickC1 hg16) z2 z3 ?_
    exact HQ.mid z4 z5 rfl
   ·refine HQ.on rfl rfl hg16 ?_
    refine pu Pu.move z1 z3 ?_
    refine HQ.on rfl rfl hg16 ?_
    obtain ⟨t17, h18, H⟩ := bnd H
    refine op [6] [7, 6] (OT.call (us := [_, _]) (Pre := [OwnS kU8 a13 c14 t11]) [.tmp 37, .const (vI 32)] Try.call24 rfl rfl fun w F hs hF hp => impl_Pad_c (hs.lend hF 0 rfl) h18) z3 z1 z4 (fun _ => rfl) fun ⟨a19, c20⟩ => ?_
    refine HQ.on rfl rfl hg16 ?_
    refine pu Pu.move z1 z3 ?_
    refine HQ.on rfl rfl hg16 ?_
    obtain ⟨t21, h22, H⟩ := bnd H
    refine op [7] [7] (OT.call (us := [_, _]) (Pre := [OwnS kU8 a19 c20 t17]) [.tmp 38, .tmp 39] Try.call100 rfl rfl fun w F hs hF hp => bytes_Equal_c (hs.lend hF 0 rfl) (hb_0.pass hp) h22) z3 z1 z4 (fun _ => rfl) fun _ => ?_
    refine HQ.on rfl rfl hg16 ?_
    refine pu Pu.not z1 z3 ?_
    obtain rfl := Option.some.inj H
    refine pu (Pu.pickC0 hg16) z2 z3 ?_
    exact HQ.mid z4 z5 rfl
  refine HQ.done ?_
  refine HQ.keep [(42, _), (4, _), (5, _), (8, _)] z4 ?_
  rcases brk H with ⟨hc, H⟩ | ⟨hc, H⟩
  ·refine HQ.condT rfl hc ?_
   clear hc
   refine HQ.rseq ?_
   refine pu (Pu.build (us := []) (cs := [vI 0, .bool false, .slice none 0 0]) [] st49 rfl rfl rfl) trivial z3 ?_
   refine HQ.opN [1] [1] [] (OT.storeC (cs' := [vI 0, .bool false, .slice none 0 0]) sz49 rfl rfl rfl rfl rfl) z2 z1 rfl rfl rfl (fun _ => rfl) fun _ => ?_
   refine pu Pu.assign z1 z3 ?_
   refine HQ.done ?_
   refine HQ.keep [(4, _), (5, _), (8, _)] z3 ?_
   refine HQ.ret ?_
   refine HQ.thenR ?_
   obtain rfl := Option.some.inj H
   refine HQ.nil kTEntry 8 rfl ?_
   exact HQ.fin (vs := [_, _]) Try.results28 (none, 0) ⟨⟨_, _, 1, rfl, rfl, ag49, sz49, rfl⟩, rfl, trivial⟩ rfl [8] z1 rfl
  ·refine HQ.condF rfl hc ?_
   clear hc
   refine HQ.skipThen ?_
   refine HQ.rseq ?_
   refine op [5] [5] (OT.loadBA (vs := [vI (IntKind.i64.wrap (gt p1 3)), .bool t3.1.Leaf, vS a5 t3.1.L c6]) ag49 sz49 rfl rfl) z1 z1 z4 (fun _ => rfl) fun _ => ?_
   refine HQ.opN [1] [1] [] (OT.storeC (cs' := [vI (IntKind.i64.wrap (gt p1 3)), .bool t3.1.Leaf, vS a5 t3.1.L c6]) sz49 rfl rfl rfl rfl rfl) z2 z1 rfl rfl rfl (fun _ => rfl) fun _ => ?_
   refine pu Pu.assign z1 z3 ?_
   refine HQ.done ?_
   refine HQ.keep [(4, _), (5, _)] z2 ?_
   refine HQ.ret ?_
   obtain rfl := Option.some.inj H
   exact HQ.fin (vs := [_, _]) Try.results28 (a5, c6) ⟨⟨_, _, 1, rfl, rfl, ag49, sz49, rfl⟩, rfl, trivial⟩ rfl [3] z1 rfl

end Go.Proofs.Sx
