import Derived.Test.YtkhommmhkeohbaaQfF10
import Derived.KernelRfl
namespace Go.Proofs.Sx
open Go.RowKit
set_option linter.unusedVariables false
set_option linter.unusedSimpArgs false
set_option maxRecDepth 20000
set_option maxHeartbeats 1000000
theorem impl_GetEnd_c {w : World} {k : Nat} {p0 : Int} {p1 : (List Int)} {a_0 : Option Addr} {c_0 : Nat} (hb_0 : BorS kU8 a_0 c_0 p1 w.heap (Lt w Nil)) {r : TTx × Int × Bool} (H : impl_GetEnd k p0 p1 = some r) :
  Calls Try.prog 31 #[vI p0, vS a_0 p1 c_0] w (Rt w Nil (fun g : Option Addr × Nat => .tuple #[.agg #[vI r.1.Seq, vI r.1.Root, vI r.1.Size, vS g.1 r.1.Puts g.2], vI r.2.1, .bool r.2.2]) (fun g => [OwnS kTChange g.1 g.2 r.1.Puts])) := by
 rw [impl_GetEnd] at H
 refine Calls.enter0 (N := 61) (us := [_, _]) Try.func31 rfl rfl rfl ?_
 refine HQ.rseq ?_
 refine op [] [1] (OT.alloc zc57) trivial trivial z4 (fun _ => rfl) fun b1 => ?_
 refine pu Pu.assign z1 z3 ?_
 refine pu Pu.assign z1 z3 ?_
 refine HQ.done ?_
 refine HQ.keep [(0, _), (1, _), (4, _), (5, _), (6, _)] z5 ?_
 refine HQ.seq ?_
 refine HQ.rseq ?_
 refine pu Pu.move z1 z3 ?_
 refine pu (Pu.len ul22) z1 z3 ?_
 refine pu Pu.neq z2 z3 ?_
 refine pu Pu.move z1 z3 ?_
 obtain ⟨c5, h6, H⟩ := bnd H
 refine HQ.cutAt 4 [(18, .bool c5), (0, vI p0), (1, vS a_0 p1 c_0), (4, BP b1 0), (5, vI 0), (6, .bool false)] [(1, Box b1 [vI 0, vI 0, vI 0, .slice none 0 0])] ?_ ?_
 ·clear H
  have H := h6
  rcases brk H with ⟨hg2, H⟩ | ⟨hg2, H⟩
  ·obtain rfl := Option.some.inj H
   refine HQ.off rfl rfl hg2 rfl ?_
   refine HQ.off rfl rfl hg2 rfl ?_
   refine HQ.off rfl rfl hg2 rfl ?_
   refine pu (Pu.pickC1 hg2) z2 z3 ?_
   exact HQ.mid z6 z1 rfl
  ·refine HQ.on rfl rfl hg2 ?_
   refine pu Pu.move z1 z3 ?_
   refine HQ.on rfl rfl hg2 ?_
   obtain ⟨t3, h4, H⟩ := bnd H
   refine op [] [] (OT.call (us := [_, _, _]) (Pre := []) [.tmp 15, .const (vI 0), .const (vI 65535)] Try.call83 rfl rfl fun w F hs hF hp => impl_in_c h4) z4 trivial z4 (fun _ => rfl) fun _ => ?_
   refine HQ.on rfl rfl hg2 ?_
   refine pu Pu.not z1 z3 ?_
   obtain rfl := Option.some.inj H
   refine pu (Pu.pickC0 hg2) z2 z3 ?_
   exact HQ.mid z6 z1 rfl
 refine HQ.done ?_
 refine HQ.keep [(18, _), (0, _), (1, _), (4, _), (5, _), (6, _)] z6 ?_
 rcases brk H with ⟨hc, H⟩ | ⟨hc, H⟩
 ·refine HQ.condT rfl hc ?_
  clear hc
  refine HQ.rseq ?_
  refine pu (Pu.build (us := []) (cs := [vI 0, vI 0, vI 0, .slice none 0 0]) [] st57 rfl rfl rfl) trivial z3 ?_
  refine HQ.opN [1] [1] [] (OT.storeC (cs' := [vI 0, vI 0, vI 0, .slice none 0 0]) sz57 rfl rfl rfl rfl rfl) z2 z1 rfl rfl rfl (fun _ => rfl) fun _ => ?_
  refine pu Pu.assign z1 z3 ?_
  refine pu Pu.assign z1 z3 ?_
  refine HQ.done ?_
  refine HQ.keep [(0, _), (1, _), (4, _), (5, _), (6, _)] z5 ?_
  refine HQ.ret ?_
  refine HQ.thenR ?_
  obtain rfl := Option.some.inj H
  refine HQ.nil kTChange 2 rfl ?_
  exact HQ.fin (vs := [_, _, _]) Try.results31 (none, 0) ⟨⟨_, _, 1, rfl, rfl, ag57, sz57, rfl⟩, rfl, rfl, trivial⟩ rfl [2] z1 rfl
 ·refine HQ.condF rfl hc ?_
  clear hc
  refine HQ.skipThen ?_
  refine HQ.rseq ?_
  refine pu Pu.move z1 z3 ?_
  obtain ⟨t7, h8, H⟩ := bnd H
  refine op [] [] (OT.call (us := [_, _]) (Pre := []) [.tmp 21, .const (vI 3)] Try.call103 rfl rfl fun w F hs hF hp => impl_Get2_c (hb_0.pass hp) h8) z3 trivial z4 (fun _ => rfl) fun _ => ?_
  refine pu Pu.move z1 z3 ?_
  refine pu (Pu.extract rfl) z1 z3 ?_
  refine pu (Pu.extract rfl) z1 z3 ?_
  refine pu Pu.assign z1 z3 ?_
  refine pu Pu.assign z1 z3 ?_
  refine HQ.done ?_
  refine HQ.keep [(0, _), (1, _), (4, _), (5, _), (6, _), (7, _)] z6 ?_
  obtain ⟨h10, H⟩ := asr H
  obtain ⟨h11, H⟩ := asr H
  refine HQ.drawS mixd [(0, vI p0), (1, vS a_0 p1 c_0), (4, BP b1 0), (5, vI 0), (6, .bool false), (7, vI t7.1)] 11 [⟨[], [], []⟩, ⟨[], [], []⟩, ⟨[], [], [1]⟩, ⟨[], [], [2]⟩, ⟨[], [], [3]⟩, ⟨[], [], []⟩, ⟨[], [], [5]⟩, ⟨[], [], [6]⟩, ⟨[], [], [7]⟩, ⟨[], [], [0, 4, 8]⟩, ⟨[], [0], []⟩] [⟨some 10, none⟩] (fun (g9 : Nat) => [vI t7.1, vS a_0 p1 c_0, EP a_0 5 1 0, .int .u8 (gt p1 5), vI (IntKind.i64.wrap (gt p1 5)), vS a_0 p1 c_0, EP a_0 6 1 0, .int .u8 (gt p1 6), vI (IntKind.i64.wrap (gt p1 6)), .agg #[vI t7.1, vI (IntKind.i64.wrap (gt p1 5)), vI (IntKind.i64.wrap (gt p1 6)), .slice none 0 0], BP g9 0]) (fun (g9 : Nat) => [Box g9 [vI 0, vI 0, vI 0, .slice none 0 0]]) 0 [] [3] [] z6 trivial rfl (by kernel_rfl) (fun _ => rfl) (by kernel_rfl) (fun _ => rfl) ⟨?_, ?_, ?_, ?_, ?_, ?_, ?_, ?_, ?_, ?_, ?_, trivial⟩ fun g9 => ?_
  ·exact OpOK.pu (fun g9 => [(.tmp 7, vI t7.1)]) z2 (fun _ => z1) (fun _ => Pu.move) (fun _ => z1) (fun _ _ => z3)
  ·exact OpOK.pu (fun g9 => [(.tmp 1, vS a_0 p1 c_0)]) z2 (fun _ => z1) (fun _ => Pu.move) (fun _ => z1) (fun _ _ => z3)
  ·exact OpOK.of (fun g9 => [(.tmp 26, vS a_0 p1 c_0), (.const (vI 5), vI 5)]) _ _ (fun g9 _ => g9) rfl rfl (fun _ => z2) (fun g9 => OT.indexB ul22 sz5 hb_0 h10) (fun _ _ => z3)
  ·exact OpOK.of (fun g9 => [(.tmp 27, EP a_0 5 1 0)]) _ _ (fun g9 _ => g9) rfl rfl (fun _ => z1) (fun g9 => OT.loadF sc5 hb_0 h10 rfl) (fun _ _ => z3)
  ·exact OpOK.pu (fun g9 => [(.tmp 28, .int .u8 (gt p1 5))]) z2 (fun _ => z1) (fun _ => (Pu.conv ul5 ul3)) (fun _ => z1) (fun _ _ => z3)
  ·exact OpOK.pu (fun g9 => [(.tmp 1, vS a_0 p1 c_0)]) z2 (fun _ => z1) (fun _ => Pu.move) (fun _ => z1) (fun _ _ => z3)
  ·exact OpOK.of (fun g9 => [(.tmp 30, vS a_0 p1 c_0), (.const (vI 6), vI 6)]) _ _ (fun g9 _ => g9) rfl rfl (fun _ => z2) (fun g9 => OT.indexB ul22 sz5 hb_0 h11) (fun _ _ => z3)
  ·exact OpOK.of (fun g9 => [(.tmp 31, EP a_0 6 1 0)]) _ _ (fun g9 _ => g9) rfl rfl (fun _ => z1) (fun g9 => OT.loadF sc5 hb_0 h11 rfl) (fun _ _ => z3)
  ·exact OpOK.pu (fun g9 => [(.tmp 32, .int .u8 (gt p1 6))]) z2 (fun _ => z1) (fun _ => (Pu.conv ul5 ul3)) (fun _ => z1) (fun _ _ => z3)
  ·exact OpOK.pu (fun g9 => [(.tmp 25, vI t7.1), (.tmp 29, vI (IntKind.i64.wrap (gt p1 5))), (.tmp 33, vI (IntKind.i64.wrap (gt p1 6)))]) z2 (fun _ => z3) (fun _ => (Pu.build (us := [vI t7.1, vI (IntKind.i64.wrap (gt p1 5)), vI (IntKind.i64.wrap (gt p1 6))]) (cs := [vI t7.1, vI (IntKind.i64.wrap (gt p1 5)), vI (IntKind.i64.wrap (gt p1 6)), .slice none 0 0]) [(0, .tmp 25), (1, .tmp 29), (2, .tmp 33)] st57 rfl rfl rfl)) (fun _ => z1) (fun _ _ => z3)
  ·exact OpOK.of (fun g9 => []) _ _ (fun g9 x => x) rfl rfl (fun _ => trivial) (fun g9 => OT.alloc zc57) (fun _ _ => z3)
  refine HQ.keep [(0, _), (1, _), (4, _), (5, _), (6, _), (34, _), (9, _)] z7 ?_
  refine HQ.keepR [(1, _), (3, _)] z2 rfl ?_
  refine HQ.opN [3] [3] [] (OT.storeC (cs' := [vI t7.1, vI (IntKind.i64.wrap (gt p1 5)), vI (IntKind.i64.wrap (gt p1 6)), .slice none 0 0]) sz57 rfl rfl rfl rfl rfl) z2 z1 rfl rfl rfl (fun _ => rfl) fun _ => ?_
  refine HQ.done ?_
  refine HQ.keep [(0, _), (1, _), (4, _), (5, _), (6, _), (9, _)] z6 ?_
  refine HQ.rseq ?_
  refine pu Pu.move z1 z3 ?_
  obtain ⟨h13, H⟩ := asr H
  refine op [] [] (OT.indexB ul22 sz5 hb_0 h13) z2 trivial z4 (fun _ => rfl) fun _ => ?_
  refine op [] [] (OT.loadF sc5 hb_0 h13 rfl) z1 trivial z4 (fun _ => rfl) fun _ => ?_
  refine pu (Pu.conv ul5 ul3) z1 z3 ?_
  refine pu Pu.assign z1 z3 ?_
  refine HQ.done ?_
  refine HQ.keep [(0, _), (1, _), (4, _), (5, _), (6, _), (9, _), (10, _)] z7 ?_
  refine HQ.seq ?_
  refine HQ.rseq ?_
  refine op [3] [3] (OT.loadBA (vs := [vI t7.1, vI (IntKind.i64.wrap (gt p1 5)), vI (IntKind.i64.wrap (gt p1 6)), .slice none 0 0]) ag57 sz57 rfl rfl) z1 z1 z4 (fun _ => rfl) fun _ => ?_
  obtain ⟨t14, h15, H⟩ := bnd H
  refine op [] [] (OT.call (us := [_]) (Pre := []) [.tmp 39] Try.call104 rfl rfl fun w F hs hF hp => impl_Tx_numbersOk_c h15) z2 trivial z4 (fun _ => rfl) fun _ => ?_
  refine pu Pu.not z1 z3 ?_
  refine pu Pu.move z1 z3 ?_
  refine HQ.cutAt 5 [(47, .bool ((!t14) || (decide ((IntKind.i64.wrap (gt p1 7)) > (IntKind.i64.wrap (gt p1 6)))))), (0, vI p0), (1, vS a_0 p1 c_0), (4, BP b1 0), (5, vI 0), (6, .bool false), (9, BP g9 0), (10, vI (IntKind.i64.wrap (gt p1 7)))] [(1, Box b1 [vI 0, vI 0, vI 0, .slice none 0 0]), (3, Box g9 [vI t7.1, vI (IntKind.i64.wrap (gt p1 5)), vI (IntKind.i64.wrap (gt p1 6)), .slice none 0 0])] ?_ ?_
  ·rcases Bool.eq_false_or_eq_true (!t14) with hg16 | hg16
   ·refine HQ.off rfl rfl hg16 rfl ?_
    refine HQ.off rfl rfl hg16 rfl ?_
    refine HQ.off rfl rfl hg16 rfl ?_
    refine HQ.off rfl rfl hg16 rfl ?_
    refine pu (Pu.pickOT (u := (decide ((IntKind.i64.wrap (gt p1 7)) > (IntKind.i64.wrap (gt p1 6))))) hg16) z2 z3 ?_
    exact HQ.mid z8 z2 rfl
   ·refine HQ.on rfl rfl hg16 ?_
    refine pu Pu.move z1 z3 ?_
    refine HQ.on rfl rfl hg16 ?_
    refine pu (Pu.fieldB fo57_2 rfl) z1 z3 ?_
    refine HQ.on rfl rfl hg16 ?_
    refine op [3] [3] (OT.loadB sc3 rfl) z1 z1 z4 (fun _ => rfl) fun _ => ?_
    refine HQ.on rfl rfl hg16 ?_
    refine pu Pu.gtr z2 z3 ?_
    refine pu (Pu.pickOF hg16) z2 z3 ?_
    exact HQ.mid z8 z2 rfl
  refine pu Pu.move z1 z3 ?_
  obtain ⟨c28, h29, H⟩ := bnd H
  refine HQ.cutAt 9 [(57, .bool c28), (4, BP b1 0), (5, vI 0), (6, .bool false), (9, BP g9 0), (10, vI (IntKind.i64.wrap (gt p1 7)))] [(1, Box b1 [vI 0, vI 0, vI 0, .slice none 0 0]), (3, Box g9 [vI t7.1, vI (IntKind.i64.wrap (gt p1 5)), vI (IntKind.i64.wrap (gt p1 6)), .slice none 0 0])] ?_ ?_
  ·clear H
   have H := h29
   rcases brk H with ⟨hg17, H⟩ | ⟨hg17, H⟩
   ·obtain rfl := Option.some.inj H
    refine HQ.off rfl rfl hg17 rfl ?_
    refine HQ.off rfl rfl hg17 rfl ?_
    refine HQ.off rfl rfl hg17 rfl ?_
    refine HQ.off rfl rfl hg17 rfl ?_
    refine HQ.off rfl rfl hg17 rfl ?_
    refine HQ.off rfl rfl hg17 rfl ?_
    refine HQ.off rfl rfl hg17 rfl ?_
    refine HQ.off rfl rfl hg17 rfl ?_
    refine pu (Pu.pickC1 hg17) z2 z3 ?_
    exact HQ.mid z6 z2 rfl
   ·refine HQ.on rfl rfl hg17 ?_
    refine pu Pu.move z1 z3 ?_
    refine HQ.on rfl rfl hg17 ?_
    refine op [3] [3] (OT.loadBA (vs := [vI t7.1, vI (IntKind.i64.wrap (gt p1 5)), vI (IntKind.i64.wrap (gt p1 6)), .slice none 0 0]) ag57 sz57 rfl rfl) z1 z1 z4 (fun _ => rfl) fun _ => ?_
    refine HQ.on rfl rfl hg17 ?_
    refine pu Pu.move z1 z3 ?_
    refine HQ.on rfl rfl hg17 ?_
    obtain ⟨t18, h19, H⟩ := bnd H
    refine op [] [4] (OT.call (us := [_, _, _]) (Pre := []) [.tmp 49, .tmp 50, .tmp 51] Try.call102 rfl rfl fun w F hs hF hp => impl_endCell_c h19) z4 trivial z4 (fun _ => rfl) fun ⟨a20, c21⟩ => ?_
    refine HQ.on rfl rfl hg17 ?_
    obtain ⟨t22, h23, H⟩ := bnd H
    refine op [4] [5, 4] (OT.call (us := [_, _]) (Pre := [OwnS kU8 a20 c21 t18]) [.tmp 52, .const (vI 32)] Try.call24 rfl rfl fun w F hs hF hp => impl_Pad_c (hs.lend hF 0 rfl) h23) z3 z1 z4 (fun _ => rfl) fun ⟨a24, c25⟩ => ?_
    refine HQ.on rfl rfl hg17 ?_
    refine pu Pu.move z1 z3 ?_
    refine HQ.on rfl rfl hg17 ?_
    obtain ⟨t26, h27, H⟩ := bnd H
    refine op [5] [5] (OT.call (us := [_, _]) (Pre := [OwnS kU8 a24 c25 t22]) [.tmp 53, .tmp 54] Try.call100 rfl rfl fun w F hs hF hp => bytes_Equal_c (hs.lend hF 0 rfl) (hb_0.pass hp) h27) z3 z1 z4 (fun _ => rfl) fun _ => ?_
    refine HQ.on rfl rfl hg17 ?_
    refine pu Pu.not z1 z3 ?_
    obtain rfl := Option.some.inj H
    refine pu (Pu.pickC0 hg17) z2 z3 ?_
    exact HQ.mid z6 z2 rfl
  refine HQ.done ?_
  refine HQ.keep [(57, _), (4, _), (5, _), (6, _), (9, _), (10, _)] z6 ?_
  rcases brk H with ⟨hc, H⟩ | ⟨hc, H⟩
  ·refine HQ.condT rfl hc ?_
   clear hc
   refine HQ.rseq ?_
   refine pu (Pu.build (us := []) (cs := [vI 0, vI 0, vI 0, .slice none 0 0]) [] st57 rfl rfl rfl) trivial z3 ?_
   refine HQ.opN [1] [1] [] (OT.storeC (cs' := [vI 0, vI 0, vI 0, .slice none 0 0]) sz57 rfl rfl rfl rfl rfl) z2 z1 rfl rfl rfl (fun _ => rfl) fun _ => ?_
   refine pu Pu.assign z1 z3 ?_
   refine pu Pu.assign z1 z3 ?_
   refine HQ.done ?_
   refine HQ.keep [(4, _), (5, _), (6, _), (9, _), (10, _)] z5 ?_
   refine HQ.ret ?_
   refine HQ.thenR ?_
   obtain rfl := Option.some.inj H
   refine HQ.nil kTChange 6 rfl ?_
   exact HQ.fin (vs := [_, _, _]) Try.results31 (none, 0) ⟨⟨_, _, 1, rfl, rfl, ag57, sz57, rfl⟩, rfl, rfl, trivial⟩ rfl [6] z1 rfl
  ·refine HQ.condF rfl hc ?_
   clear hc
   refine HQ.skipThen ?_
   refine HQ.rseq ?_
   refine op [3] [3] (OT.loadBA (vs := [vI t7.1, vI (IntKind.i64.wrap (gt p1 5)), vI (IntKind.i64.wrap (gt p1 6)), .slice none 0 0]) ag57 sz57 rfl rfl) z1 z1 z4 (fun _ => rfl) fun _ => ?_
   refine pu Pu.move z1 z3 ?_
   refine HQ.opN [1] [1] [] (OT.storeC (cs' := [vI t7.1, vI (IntKind.i64.wrap (gt p1 5)), vI (IntKind.i64.wrap (gt p1 6)), .slice none 0 0]) sz57 rfl rfl rfl rfl rfl) z2 z1 rfl rfl rfl (fun _ => rfl) fun _ => ?_
   refine pu Pu.assign z1 z3 ?_
   refine pu Pu.assign z1 z3 ?_
   refine HQ.done ?_
   refine HQ.keep [(4, _), (5, _), (6, _)] z3 ?_
   refine HQ.ret ?_
   obtain rfl := Option.some.inj H
   refine HQ.nil kTChange 7 rfl ?_
   exact HQ.fin (vs := [_, _, _]) Try.results31 (none, 0) ⟨⟨_, _, 1, rfl, rfl, ag57, sz57, rfl⟩, rfl, rfl, trivial⟩ rfl [7] z1 rfl

theorem impl_ReadLog_c {w : World} {k : Nat} {p0 : TDisk} {p1 : Int} {p2 : Int} {a_0 : Option Addr} {c_0 : Nat} {a_1 : Option Addr} {c_1 : Nat} (hb_0 : BorS kTCell a_0 c_0 p0.Cells w.heap (Lt w Nil)) (hb_1 : BorS kTWet a_1 c_1 p0.Wet w.heap (Lt w Nil)) {r : (List TTx) × Int} (H : impl_ReadLog k p0 p1 p2 = some r) :
  Calls Try.prog 55 #[.agg #[vS a_0 p0.Cells c_0, vS a_1 p0.Wet c_1, vI p0.Fuse, .bool p0.Dead], vI p1, vI p2] w (Rt w Nil (fun g : Option Addr × Nat => .tuple #[vS g.1 r.1 g.2, vI r.2]) (fun g => [OwnS kTTx g.1 g.2 r.1])) := by
 rw [impl_ReadLog] at H
 refine Calls.enter0 (N := 83) (us := [_, _, _]) Try.func55 rfl rfl rfl ?_
 refine HQ.rseq ?_
 refine op [] [1] (OT.box (cs := [vS a_0 p0.Cells c_0, vS a_1 p0.Wet c_1, vI p0.Fuse, .bool p0.Dead]) rfl) z1 trivial z4 (fun _ => rfl) fun b1 => ?_
 refine pu Pu.assign z1 z3 ?_
 refine pu Pu.assign z1 z3 ?_
 refine HQ.done ?_
 refine HQ.keep [(1, _), (2, _), (3, _), (6, _), (7, _)] z5 ?_
 refine HQ.rseq ?_
 refine pu Pu.assign z1 z3 ?_
 refine HQ.done ?_
 refine HQ.keep [(1, _), (2, _), (3, _), (6, _), (7, _), (8, _)] z6 ?_
 refine HQ.rseq ?_
 refine pu Pu.assign z1 z3 ?_
 refine HQ.done ?_
 refine HQ.keep [(1, _), (2, _), (3, _), (6, _), (7, _), (8, _), (9, _)] z7 ?_
 refine HQ.rseq ?_
 refine pu Pu.assign z1 z3 ?_
 refine HQ.done ?_
 refine HQ.keep [(1, _), (2, _), (3, _), (6, _), (7, _), (8, _), (9, _), (10, _)] z8 ?_
 refine HQ.seq ?_
 refine HQ.rseq ?_
 refine pu Pu.move z1 z3 ?_
 refine HQ.done ?_
 refine HQ.keep [(1, _), (2, _), (3, _), (6, _), (7, _), (8, _), (9, _), (10, _), (19, _)] z9 ?_
 refine HQ.block ?_
 refine HQ.nil kTChange 12 rfl ?_
 refine HQ.nil kTTx 13 rfl ?_
 obtain ⟨o103, h112, H⟩ := bnd H
 refine HQ.loop h112 0 (fun (s : (List TChange) × Int × (List TTx) × Int) (g : (Option Addr × Nat) × (Option Addr × Nat)) => match s, g with | (l33, i36, l37, i40), ((a34, c35), (a38, c39)) => [(1, vI p1), (2, vI p2), (3, BP b1 0), (6, .slice none 0 0), (7, vI 0), (8, vS a38 l37 c39), (9, vS a34 l33 c35), (10, vI i40), (19, vI i36)]) (fun (s : (List TChange) × Int × (List TTx) × Int) (g : (Option Addr × Nat) × (Option Addr × Nat)) => match s, g with | (l33, i36, l37, i40), ((a34, c35), (a38, c39)) => [(1, Box b1 [vS a_0 p0.Cells c_0, vS a_1 p0.Wet c_1, vI p0.Fuse, .bool p0.Dead]), (13, OwnS kTTx a38 c39 l37), (12, OwnS kTChange a34 c35 l33)]) (fun _ _ _ => False) ((none, 0), (none, 0)) z9 z3 rfl ?_ ?_ ?_
 ·clear H h112
  rintro ⟨l33, i36, l37, i40⟩ ⟨⟨a34, c35⟩, ⟨a38, c39⟩⟩ o H
  rw [impl_ReadLog_b0] at H
  refine HQ.keep [(1, _), (2, _), (3, _), (6, _), (7, _), (8, _), (9, _), (10, _), (19, _)] z9 ?_
  refine HQ.keepR [(1, _), (13, _), (12, _)] z3 rfl ?_
  refine HQ.rseq ?_
  refine pu Pu.lss z2 z3 ?_
  refine HQ.done ?_
  refine HQ.keep [(1, _), (2, _), (3, _), (6, _), (7, _), (8, _), (9, _), (10, _), (19, _), (20, _)] z10 ?_
  refine HQ.seq ?_
  rcases brk H with ⟨hc, H⟩ | ⟨hc, H⟩
  ·refine HQ.condT rfl hc ?_
   clear hc
   refine HQ.skipThen ?_
   refine HQ.seq ?_
   refine HQ.block ?_
   refine HQ.rseq ?_
   refine pu Pu.move z1 z3 ?_
   refine pu Pu.assign z1 z3 ?_
   refine HQ.done ?_
   refine HQ.keep [(1, _), (2, _), (3, _), (6, _), (7, _), (8, _), (9, _), (10, _), (19, _), (11, _)] z10 ?_
   refine HQ.rseq ?_
   refine op [1] [1] (OT.loadBA (vs := [vS a_0 p0.Cells c_0, vS a_1 p0.Wet c_1, vI p0.Fuse, .bool p0.Dead]) ag27 sz27 rfl rfl) z1 z1 z4 (fun _ => rfl) fun _ => ?_
   refine pu Pu.move z1 z3 ?_
   refine pu Pu.add z2 z3 ?_
   obtain ⟨t72, h73, H⟩ := bnd H
   refine op [] [21] (OT.call (us := [_, _]) (Pre := []) [.tmp 23, .tmp 25] Try.call17 rfl rfl fun w F hs hF hp => impl_Read_c (hb_0.pass hp) (hb_1.pass hp) h73) z3 trivial z4 (fun _ => rfl) fun ⟨a74, c75⟩ => ?_
   refine pu Pu.move z1 z3 ?_
   refine pu (Pu.extract rfl) z1 z3 ?_
   refine pu (Pu.extract rfl) z1 z3 ?_
   refine pu Pu.assign z1 z3 ?_
   refine pu Pu.assign z1 z3 ?_
   refine HQ.done ?_
   refine HQ.keep [(1, _), (2, _), (3, _), (6, _), (7, _), (8, _), (9, _), (10, _), (19, _), (11, _), (12, _), (13, _)] z12 ?_
   refine HQ.seq ?_
   refine HQ.rseq ?_
   refine pu Pu.move z1 z3 ?_
   refine pu Pu.not z1 z3 ?_
   refine HQ.done ?_
   refine HQ.keep [(1, _), (2, _), (3, _), (6, _), (7, _), (8, _), (9, _), (10, _), (19, _), (11, _), (12, _), (30, _)] z12 ?_
   rcases brk H with ⟨hc, H⟩ | ⟨hc, H⟩
   ·refine HQ.condT rfl hc ?_
    clear hc
    refine HQ.exit ?_
    refine HQ.thenE ?_
    refine HQ.blkO rfl ?_
    refine HQ.thenE ?_
    obtain rfl := Option.some.inj H
    exact HQ.out ((a34, c35), (a38, c39)) z9 z3 rfl
   ·refine HQ.condF rfl hc ?_
    clear hc
    refine HQ.skipThen ?_
    refine HQ.seq ?_
    refine HQ.rseq ?_
    refine pu Pu.move z1 z3 ?_
    refine pu Pu.move z1 z3 ?_
    obtain ⟨t76, h77, H⟩ := bnd H
    refine op [21] [22, 21] (OT.call (us := [_, _]) (Pre := [OwnS kU8 a74 c75 t72.1]) [.tmp 32, .tmp 33] Try.call28 rfl rfl fun w F hs hF hp => impl_GetPut_c (hs.lend hF 0 rfl) h77) z3 z1 z4 (fun _ => rfl) fun ⟨a78, c79⟩ => ?_
    refine pu Pu.move z1 z3 ?_
    refine pu (Pu.extract rfl) z1 z3 ?_
    refine pu (Pu.extract rfl) z1 z3 ?_
    refine op [] [23] (OT.alloc zc49) trivial trivial z4 (fun _ => rfl) fun b80 => ?_
    refine HQ.opN [23] [23] [] (OT.storeC (cs' := [vI t76.1.Page, .bool t76.1.N.Leaf, vS a78 t76.1.N.L c79]) sz49 rfl rfl rfl rfl rfl) z2 z1 rfl rfl rfl (fun _ => rfl) fun _ => ?_
    refine pu Pu.assign z1 z3 ?_
    refine HQ.done ?_
    refine HQ.keep [(1, _), (2, _), (3, _), (6, _), (7, _), (8, _), (9, _), (10, _), (19, _), (11, _), (12, _), (14, _), (15, _)] z13 ?_
    refine HQ.rseq ?_
    refine pu Pu.move z1 z3 ?_
    refine HQ.done ?_
    refine HQ.keep [(1, _), (2, _), (3, _), (6, _), (7, _), (8, _), (9, _), (10, _), (19, _), (11, _), (12, _), (14, _), (37, _)] z13 ?_
    rcases brk H with ⟨hc, H⟩ | ⟨hc, H⟩
    ·refine HQ.condT rfl hc ?_
     clear hc
     refine HQ.rseq ?_
     refine pu Pu.move z1 z3 ?_
     refine op [23] [23] (OT.loadBA (vs := [vI t76.1.Page, .bool t76.1.N.Leaf, vS a78 t76.1.N.L c79]) ag49 sz49 rfl rfl) z1 z1 z4 (fun _ => rfl) fun _ => ?_
     refine HQ.opD [22] [24] [22] (OT.buildO (u := .agg #[vI t76.1.Page, .bool t76.1.N.Leaf, vS a78 t76.1.N.L c79]) (enc := encTChange) (hl := hlTChange) (sub := fun (x : TChange) => x.N.L) (.tmp 39) t76.1 sl55.ul sl55.szE sl55.zc rfl rfl rfl rfl) z1 z1 rfl rfl rfl rfl (fun _ => rfl) fun ⟨a81, c82⟩ => ?_
     obtain ⟨h85, H⟩ := asr H
     refine HQ.opD [12, 24] [12] [24] (OT.appendO (K := kTChange) sl55 ul55 h85) z2 z2 rfl rfl rfl rfl (fun _ => rfl) fun ⟨a83, c84⟩ => ?_
     refine pu Pu.assign z1 z3 ?_
     refine HQ.done ?_
     refine HQ.keep [(1, _), (2, _), (3, _), (6, _), (7, _), (8, _), (9, _), (10, _), (19, _), (11, _), (12, _)] z11 ?_
     refine HQ.exit ?_
     refine HQ.thenE ?_
     refine HQ.blkE ?_
     refine HQ.thenN ?_
     refine HQ.regionQ ?_
     refine pu Pu.add z2 z3 ?_
     refine pu Pu.move z1 z3 ?_
     refine HQ.done ?_
     refine HQ.keep [(1, _), (2, _), (3, _), (6, _), (7, _), (8, _), (9, _), (10, _), (19, _)] z9 ?_
     obtain rfl := Option.some.inj H
     exact HQ.next ((a83, c84), (a38, c39)) z9 z3 rfl
    ·refine HQ.condF rfl hc ?_
     clear hc
     refine HQ.skipThen ?_
     refine HQ.rseq ?_
     refine pu Pu.move z1 z3 ?_
     refine pu Pu.move z1 z3 ?_
     obtain ⟨t86, h87, H⟩ := bnd H
     refine op [21] [25, 21] (OT.call (us := [_, _]) (Pre := [OwnS kU8 a74 c75 t72.1]) [.tmp 43, .tmp 44] Try.call31 rfl rfl fun w F hs hF hp => impl_GetEnd_c (hs.lend hF 0 rfl) h87) z3 z1 z4 (fun _ => rfl) fun ⟨a88, c89⟩ => ?_
     refine pu Pu.move z1 z3 ?_
     refine pu (Pu.extract rfl) z1 z3 ?_
     refine pu (Pu.extract rfl) z1 z3 ?_
     refine pu (Pu.extract rfl) z1 z3 ?_
     refine op [] [26] (OT.alloc zc57) trivial trivial z4 (fun _ => rfl) fun b90 => ?_
     refine HQ.opN [26] [26] [] (OT.storeC (cs' := [vI t86.1.Seq, vI t86.1.Root, vI t86.1.Size, vS a88 t86.1.Puts c89]) sz57 rfl rfl rfl rfl rfl) z2 z1 rfl rfl rfl (fun _ => rfl) fun _ => ?_
     refine pu Pu.assign z1 z3 ?_
     refine pu Pu.assign z1 z3 ?_
     refine HQ.done ?_
     refine HQ.keep [(1, _), (2, _), (3, _), (6, _), (7, _), (8, _), (9, _), (10, _), (19, _), (11, _), (16, _), (17, _), (18, _)] z13 ?_
     refine HQ.rseq ?_
     refine pu Pu.move z1 z3 ?_
     refine pu (Pu.fieldB fo57_3 rfl) z1 z3 ?_
     refine HQ.opN [26] [26] [] (OT.storeC (cs' := [vI t86.1.Seq, vI t86.1.Root, vI t86.1.Size, vS a34 l33 c35]) sz55 rfl rfl rfl rfl rfl) z2 z1 rfl rfl rfl (fun _ => rfl) fun _ => ?_
     refine HQ.done ?_
     refine HQ.keep [(1, _), (2, _), (3, _), (6, _), (7, _), (8, _), (9, _), (10, _), (19, _), (11, _), (16, _), (17, _), (18, _)] z13 ?_
     refine HQ.seq ?_
     refine HQ.rseq ?_
     refine pu Pu.move z1 z3 ?_
     refine pu Pu.not z1 z3 ?_
     refine pu Pu.move z1 z3 ?_
     refine HQ.cutAt 5 [(58, .bool ((!t86.2.2) || (!decide (t86.2.1 = ((List.length l33 : Nat) : Int))))), (1, vI p1), (2, vI p2), (3, BP b1 0), (6, .slice none 0 0), (7, vI 0), (8, vS a38 l37 c39), (9, vS a34 l33 c35), (10, vI i40), (19, vI i36), (11, vI i36), (16, BP b90 0)] [(1, Box b1 [vS a_0 p0.Cells c_0, vS a_1 p0.Wet c_1, vI p0.Fuse, .bool p0.Dead]), (13, OwnS kTTx a38 c39 l37), (12, OwnS kTChange a34 c35 l33), (21, OwnS kU8 a74 c75 t72.1), (22, OwnS kTEntry a78 c79 t76.1.N.L), (23, Box b80 [vI t76.1.Page, .bool t76.1.N.Leaf, vS a78 t76.1.N.L c79]), (25, OwnS kTChange a88 c89 t86.1.Puts), (26, Box b90 [vI t86.1.Seq, vI t86.1.Root, vI t86.1.Size, vS a34 l33 c35])] ?_ ?_
     ·rcases Bool.eq_false_or_eq_true (!t86.2.2) with hg91 | hg91
      ·refine HQ.off rfl rfl hg91 rfl ?_
       refine HQ.off rfl rfl hg91 rfl ?_
       refine HQ.off rfl rfl hg91 rfl ?_
       refine HQ.off rfl rfl hg91 rfl ?_
       refine pu (Pu.pickOT (u := (!decide (t86.2.1 = ((List.length l33 : Nat) : Int)))) hg91) z2 z3 ?_
       exact HQ.mid z12 z8 rfl
      ·refine HQ.on rfl rfl hg91 ?_
       refine pu Pu.move z1 z3 ?_
       refine HQ.on rfl rfl hg91 ?_
       refine pu Pu.move z1 z3 ?_
       refine HQ.on rfl rfl hg91 ?_
       refine pu (Pu.len ul55) z1 z3 ?_
       refine HQ.on rfl rfl hg91 ?_
       refine pu Pu.neq z2 z3 ?_
       refine pu (Pu.pickOF hg91) z2 z3 ?_
       exact HQ.mid z12 z8 rfl
     refine pu Pu.move z1 z3 ?_
     obtain ⟨c95, h96, H⟩ := bnd H
     refine HQ.cutAt 4 [(63, .bool c95), (1, vI p1), (2, vI p2), (3, BP b1 0), (6, .slice none 0 0), (7, vI 0), (8, vS a38 l37 c39), (9, vS a34 l33 c35), (10, vI i40), (19, vI i36), (11, vI i36), (16, BP b90 0)] [(1, Box b1 [vS a_0 p0.Cells c_0, vS a_1 p0.Wet c_1, vI p0.Fuse, .bool p0.Dead]), (13, OwnS kTTx a38 c39 l37), (12, OwnS kTChange a34 c35 l33), (21, OwnS kU8 a74 c75 t72.1), (22, OwnS kTEntry a78 c79 t76.1.N.L), (23, Box b80 [vI t76.1.Page, .bool t76.1.N.Leaf, vS a78 t76.1.N.L c79]), (25, OwnS kTChange a88 c89 t86.1.Puts), (26, Box b90 [vI t86.1.Seq, vI t86.1.Root, vI t86.1.Size, vS a34 l33 c35])] ?_ ?_
     ·clear H
      have H := h96
      rcases brk H with ⟨hg92, H⟩ | ⟨hg92, H⟩
      ·obtain rfl := Option.some.inj H
       refine HQ.off rfl rfl hg92 rfl ?_
       refine HQ.off rfl rfl hg92 rfl ?_
       refine HQ.off rfl rfl hg92 rfl ?_
       refine pu (Pu.pickC1 hg92) z2 z3 ?_
       exact HQ.mid z12 z8 rfl
      ·refine HQ.on rfl rfl hg92 ?_
       refine op [26] [26] (OT.loadBA (vs := [vI t86.1.Seq, vI t86.1.Root, vI t86.1.Size, vS a34 l33 c35]) ag57 sz57 rfl rfl) z1 z1 z4 (fun _ => rfl) fun _ => ?_
       refine HQ.on rfl rfl hg92 ?_
       obtain ⟨t93, h94, H⟩ := bnd H
       refine op [12] [12] (OT.call (us := [_]) (Pre := [OwnS kTChange a34 c35 l33]) [.tmp 60] Try.call35 rfl rfl fun w F hs hF hp => impl_TxOk_c (hs.lend hF 0 rfl) h94) z2 z1 z4 (fun _ => rfl) fun _ => ?_
       refine HQ.on rfl rfl hg92 ?_
       refine pu Pu.not z1 z3 ?_
       obtain rfl := Option.some.inj H
       refine pu (Pu.pickC0 hg92) z2 z3 ?_
       exact HQ.mid z12 z8 rfl
     refine pu Pu.move z1 z3 ?_
     refine HQ.cutAt 9 [(73, .bool (c95 || (!decide (t86.1.Seq = (wrap64 ((wrap64 (p2 + ((List.length l37 : Nat) : Int))) + 1)))))), (1, vI p1), (2, vI p2), (3, BP b1 0), (6, .slice none 0 0), (7, vI 0), (8, vS a38 l37 c39), (9, vS a34 l33 c35), (10, vI i40), (19, vI i36), (11, vI i36), (16, BP b90 0)] [(1, Box b1 [vS a_0 p0.Cells c_0, vS a_1 p0.Wet c_1, vI p0.Fuse, .bool p0.Dead]), (13, OwnS kTTx a38 c39 l37), (12, OwnS kTChange a34 c35 l33), (21, OwnS kU8 a74 c75 t72.1), (22, OwnS kTEntry a78 c79 t76.1.N.L), (23, Box b80 [vI t76.1.Page, .bool t76.1.N.Leaf, vS a78 t76.1.N.L c79]), (25, OwnS kTChange a88 c89 t86.1.Puts), (26, Box b90 [vI t86.1.Seq, vI t86.1.Root, vI t86.1.Size, vS a34 l33 c35])] ?_ ?_
     ·rcases Bool.eq_false_or_eq_true c95 with hg97 | hg97
      ·refine HQ.off rfl rfl hg97 rfl ?_
       refine HQ.off rfl rfl hg97 rfl ?_
       refine HQ.off rfl rfl hg97 rfl ?_
       refine HQ.off rfl rfl hg97 rfl ?_
       refine HQ.off rfl rfl hg97 rfl ?_
       refine HQ.off rfl rfl hg97 rfl ?_
       refine HQ.off rfl rfl hg97 rfl ?_
       refine HQ.off rfl rfl hg97 rfl ?_
       refine pu (Pu.pickOT (u := (!decide (t86.1.Seq = (wrap64 ((wrap64 (p2 + ((List.length l37 : Nat) : Int))) + 1))))) hg97) z2 z3 ?_
       exact HQ.mid z12 z8 rfl
      ·refine HQ.on rfl rfl hg97 ?_
       refine pu (Pu.fieldB fo57_0 rfl) z1 z3 ?_
       refine HQ.on rfl rfl hg97 ?_
       refine op [26] [26] (OT.loadB sc3 rfl) z1 z1 z4 (fun _ => rfl) fun _ => ?_
       refine HQ.on rfl rfl hg97 ?_
       refine pu Pu.move z1 z3 ?_
       refine HQ.on rfl rfl hg97 ?_
       refine pu Pu.move z1 z3 ?_
       refine HQ.on rfl rfl hg97 ?_
       refine pu (Pu.len ul80) z1 z3 ?_
       refine HQ.on rfl rfl hg97 ?_
       refine pu Pu.add z2 z3 ?_
       refine HQ.on rfl rfl hg97 ?_
       refine pu Pu.add z2 z3 ?_
       refine HQ.on rfl rfl hg97 ?_
       refine pu Pu.neq z2 z3 ?_
       refine pu (Pu.pickOF hg97) z2 z3 ?_
       exact HQ.mid z12 z8 rfl
     refine HQ.done ?_
     refine HQ.keep [(73, _), (1, _), (2, _), (3, _), (6, _), (7, _), (8, _), (9, _), (10, _), (19, _), (11, _), (16, _)] z12 ?_
     rcases brk H with ⟨hc, H⟩ | ⟨hc, H⟩
     ·refine HQ.condT rfl hc ?_
      clear hc
      refine HQ.exit ?_
      refine HQ.thenE ?_
      refine HQ.blkO rfl ?_
      refine HQ.thenE ?_
      obtain rfl := Option.some.inj H
      exact HQ.out ((a34, c35), (a38, c39)) z9 z3 rfl
     ·refine HQ.condF rfl hc ?_
      clear hc
      refine HQ.skipThen ?_
      refine HQ.rseq ?_
      refine pu Pu.move z1 z3 ?_
      refine op [26] [26] (OT.loadBA (vs := [vI t86.1.Seq, vI t86.1.Root, vI t86.1.Size, vS a34 l33 c35]) ag57 sz57 rfl rfl) z1 z1 z4 (fun _ => rfl) fun _ => ?_
      refine HQ.opD [12] [27] [12] (OT.buildO (u := .agg #[vI t86.1.Seq, vI t86.1.Root, vI t86.1.Size, vS a34 l33 c35]) (enc := encTTx) (hl := hlTTx) (sub := fun (x : TTx) => x.Puts) (.tmp 75) (⟨t86.1.Seq, t86.1.Root, t86.1.Size, l33⟩ : TTx) sl80.ul sl80.szE sl80.zc rfl rfl rfl rfl) z1 z1 rfl rfl rfl rfl (fun _ => rfl) fun ⟨a98, c99⟩ => ?_
      obtain ⟨h102, H⟩ := asr H
      refine HQ.opD [13, 27] [13] [27] (OT.appendO (K := kTTx) sl80 ul80 h102) z2 z2 rfl rfl rfl rfl (fun _ => rfl) fun ⟨a100, c101⟩ => ?_
      refine pu Pu.assign z1 z3 ?_
      refine HQ.done ?_
      refine HQ.keep [(1, _), (2, _), (3, _), (6, _), (7, _), (8, _), (9, _), (10, _), (19, _), (11, _)] z10 ?_
      refine HQ.rseq ?_
      refine pu Pu.assign z1 z3 ?_
      refine HQ.done ?_
      refine HQ.keep [(1, _), (2, _), (3, _), (6, _), (7, _), (8, _), (9, _), (10, _), (19, _), (11, _)] z10 ?_
      refine HQ.regionQ ?_
      refine pu Pu.move z1 z3 ?_
      refine pu Pu.add z2 z3 ?_
      refine pu Pu.assign z1 z3 ?_
      refine HQ.done ?_
      refine HQ.keep [(1, _), (2, _), (3, _), (6, _), (7, _), (8, _), (9, _), (10, _), (19, _)] z9 ?_
      refine HQ.blkN ?_
      refine HQ.thenN ?_
      refine HQ.regionQ ?_
      refine pu Pu.add z2 z3 ?_
      refine pu Pu.move z1 z3 ?_
      refine HQ.done ?_
      refine HQ.keep [(1, _), (2, _), (3, _), (6, _), (7, _), (8, _), (9, _), (10, _), (19, _)] z9 ?_
      refine HQ.nil kTChange 28 rfl ?_
      refine HQ.mv 12 28 rfl rfl ?_
      obtain rfl := Option.some.inj H
      exact HQ.next ((none, 0), (a100, c101)) z9 z3 rfl
  ·refine HQ.condF rfl hc ?_
   clear hc
   refine HQ.exit ?_
   refine HQ.thenE ?_
   obtain rfl := Option.some.inj H
   exact HQ.out ((a34, c35), (a38, c39)) z9 z3 rfl
 ·rintro ⟨l104, i107, l108, i111⟩ rfl ⟨⟨a105, c106⟩, ⟨a109, c110⟩⟩
  clear h112
  replace H := H
  refine HQ.keep [(1, _), (2, _), (3, _), (6, _), (7, _), (8, _), (9, _), (10, _), (19, _)] z9 ?_
  refine HQ.keepR [(1, _), (13, _), (12, _)] z3 rfl ?_
  refine HQ.blkE ?_
  refine HQ.thenN ?_
  refine HQ.rseq ?_
  refine pu Pu.move z1 z3 ?_
  refine pu Pu.move z1 z3 ?_
  refine pu Pu.assign z1 z3 ?_
  refine pu Pu.assign z1 z3 ?_
  refine HQ.done ?_
  refine HQ.keep [(6, _), (7, _)] z2 ?_
  refine HQ.ret ?_
  obtain rfl := Option.some.inj H
  exact HQ.fin (vs := [_, _]) Try.results55 (a109, c110) z2 rfl [13] z1 rfl
 ·exact fun r h a w hf => hf.elim

theorem spec_Read_c {w : World} {k : Nat} {p0 : TDisk} {p1 : Int} {a_0 : Option Addr} {c_0 : Nat} {a_1 : Option Addr} {c_1 : Nat} (hb_0 : BorS kTCell a_0 c_0 p0.Cells w.heap (Lt w Nil)) (hb_1 : BorS kTWet a_1 c_1 p0.Wet w.heap (Lt w Nil)) {r : (List Int) × Bool} (H : spec_Read k p0 p1 = some r) :
  Calls Try.prog 18 #[.agg #[vS a_0 p0.Cells c_0, vS a_1 p0.Wet c_1, vI p0.Fuse, .bool p0.Dead], vI p1] w (Rt w Nil (fun g : Option Addr × Nat => .tuple #[vS g.1 r.1 g.2, .bool r.2]) (fun g => [OwnS kU8 g.1 g.2 r.1])) := by
 rw [spec_Read] at H
 refine Calls.enter0 (N := 65) (us := [_, _]) Try.func18 rfl rfl rfl ?_
 refine HQ.rseq ?_
 refine op [] [1] (OT.box (cs := [vS a_0 p0.Cells c_0, vS a_1 p0.Wet c_1, vI p0.Fuse, .bool p0.Dead]) rfl) z1 trivial z4 (fun _ => rfl) fun b1 => ?_
 refine pu Pu.assign z1 z3 ?_
 refine pu Pu.assign z1 z3 ?_
 refine HQ.done ?_
 refine HQ.keep [(1, _), (2, _), (4, _), (5, _)] z4 ?_
 refine HQ.seq ?_
 refine HQ.rseq ?_
 refine pu (Pu.fieldB fo27_1 rfl) z1 z3 ?_
 refine op [1] [1] (OT.loadB sc25 rfl) z1 z1 z4 (fun _ => rfl) fun _ => ?_
 refine pu (Pu.len ul25) z1 z3 ?_
 refine pu Pu.sub z2 z3 ?_
 refine pu Pu.assign z1 z3 ?_
 refine HQ.done ?_
 refine HQ.keep [(1, _), (2, _), (4, _), (5, _), (6, _)] z5 ?_
 refine HQ.block ?_
 obtain ⟨o48, h80, H⟩ := bnd H
 refine HQ.loop h80 0 (fun (s : Int) (g : Unit) => match s, g with | i17, () => [(1, vI p1), (2, BP b1 0), (4, .slice none 0 0), (5, .bool false), (6, vI i17)]) (fun (s : Int) (g : Unit) => match s, g with | i17, () => [(1, Box b1 [vS a_0 p0.Cells c_0, vS a_1 p0.Wet c_1, vI p0.Fuse, .bool p0.Dead])]) (fun r => bodyPost Try.prog Try.f18 (Rt w Nil (fun g : Option Addr × Nat => .tuple #[vS g.1 r.1 g.2, .bool r.2]) (fun g => [OwnS kU8 g.1 g.2 r.1])) .ret) () z5 z1 rfl ?_ ?_ ?_
 ·clear H h80
  rintro i17 _ o H
  rw [spec_Read_b0] at H
  refine HQ.keep [(1, _), (2, _), (4, _), (5, _), (6, _)] z5 ?_
  refine HQ.keepR [(1, _)] z1 rfl ?_
  refine HQ.seq ?_
  refine HQ.rseq ?_
  refine pu Pu.move z1 z3 ?_
  refine pu Pu.geq z2 z3 ?_
  refine HQ.done ?_
  refine HQ.keep [(1, _), (2, _), (4, _), (5, _), (6, _), (12, _)] z6 ?_
  rcases brk H with ⟨hc, H⟩ | ⟨hc, H⟩
  ·refine HQ.condT rfl hc ?_
   clear hc
   refine HQ.skipThen ?_
   refine HQ.seq ?_
   refine HQ.block ?_
   refine HQ.rseq ?_
   refine pu (Pu.fieldB fo27_1 rfl) z1 z3 ?_
   refine op [1] [1] (OT.loadB sc25 rfl) z1 z1 z4 (fun _ => rfl) fun _ => ?_
   refine pu Pu.move z1 z3 ?_
   obtain ⟨h33, H⟩ := asr H
   refine op [] [] (OT.indexB ul25 sz110 hb_1 h33) z2 trivial z4 (fun _ => rfl) fun _ => ?_
   refine pu (Pu.fieldE fo110_0 rfl) z1 z3 ?_
   obtain ⟨⟨a34, c35⟩, hb36, hn37⟩ := BorS.nest hb_1 h33
   refine op [] [] (OT.loadN (v := vI ((gt p0.Wet i17).At)) sc3 hn37 hlTWet rfl) z1 trivial z4 (fun _ => rfl) fun _ => ?_
   refine pu Pu.move z1 z3 ?_
   refine pu Pu.eql z2 z3 ?_
   refine HQ.done ?_
   refine HQ.keep [(1, _), (2, _), (4, _), (5, _), (6, _), (22, _)] z6 ?_
   rcases brk H with ⟨hc, H⟩ | ⟨hc, H⟩
   ·refine HQ.condT rfl hc ?_
    clear hc
    refine HQ.rseq ?_
    refine op [] [4] (OT.buildF (us := []) (ys := ([] : (List Int))) (enc := (encI .u8)) (hl := fun _ => ⟨rfl, rfl⟩) [] sl22.ul sl22.szE sl22.zc rfl rfl rfl rfl rfl) trivial trivial z4 (fun _ => rfl) fun ⟨a38, c39⟩ => ?_
    refine pu (Pu.fieldB fo27_1 rfl) z1 z3 ?_
    refine op [1] [1] (OT.loadB sc25 rfl) z1 z1 z4 (fun _ => rfl) fun _ => ?_
    refine pu Pu.move z1 z3 ?_
    obtain ⟨h40, H⟩ := asr H
    refine op [] [] (OT.indexB ul25 sz110 hb_1 h40) z2 trivial z4 (fun _ => rfl) fun _ => ?_
    refine pu (Pu.fieldE fo110_1 rfl) z1 z3 ?_
    obtain ⟨⟨a41, c42⟩, hb43, hn44⟩ := BorS.nest hb_1 h40
    refine op [] [] (OT.loadN (v := vS a41 ((gt p0.Wet i17).B) c42) sc22 hn44 hlTWet rfl) z1 trivial z4 (fun _ => rfl) fun _ => ?_
    obtain ⟨h47, H⟩ := asr H
    refine op [4] [4] (OT.appendF (enc := (encI .u8)) (hl := fun _ => ⟨rfl, rfl⟩) sl22 ul22 hb43 h47) z2 z1 z4 (fun _ => rfl) fun ⟨a45, c46⟩ => ?_
    refine pu Pu.assign z1 z3 ?_
    refine pu Pu.assign z1 z3 ?_
    refine HQ.done ?_
    refine HQ.keep [(1, _), (2, _), (4, _), (5, _), (6, _)] z5 ?_
    refine HQ.ret ?_
    refine HQ.blkR ?_
    refine HQ.thenR ?_
    obtain rfl := Option.some.inj H
    refine HQ.retL ?_
    exact HQ.fin (vs := [_, _]) Try.results18 (a45, c46) z2 rfl [4] z1 rfl
   ·refine HQ.condF rfl hc ?_
    clear hc
    refine HQ.skip ?_
    refine HQ.blkN ?_
    refine HQ.thenN ?_
    refine HQ.regionQ ?_
    refine pu Pu.move z1 z3 ?_
    refine pu Pu.sub z2 z3 ?_
    refine pu Pu.assign z1 z3 ?_
    refine HQ.done ?_
    refine HQ.keep [(1, _), (2, _), (4, _), (5, _), (6, _)] z5 ?_
    obtain rfl := Option.some.inj H
    exact HQ.next () z5 z1 rfl
  ·refine HQ.condF rfl hc ?_
   clear hc
   refine HQ.exit ?_
   refine HQ.thenE ?_
   obtain rfl := Option.some.inj H
   exact HQ.out () z5 z1 rfl
 ·rintro i49 rfl _
  clear h80
  replace H := H
  refine HQ.keep [(1, _), (2, _), (4, _), (5, _), (6, _)] z5 ?_
  refine HQ.keepR [(1, _)] z1 rfl ?_
  refine HQ.blkE ?_
  refine HQ.thenN ?_
  refine HQ.seq ?_
  refine HQ.rseq ?_
  refine pu Pu.move z1 z3 ?_
  refine pu (Pu.fieldB fo27_0 rfl) z1 z3 ?_
  refine op [1] [1] (OT.loadB sc24 rfl) z1 z1 z4 (fun _ => rfl) fun _ => ?_
  refine pu (Pu.len ul24) z1 z3 ?_
  refine pu Pu.sub z2 z3 ?_
  obtain ⟨t50, h51, H⟩ := bnd H
  refine op [] [] (OT.call (us := [_, _, _]) (Pre := []) [.tmp 31, .const (vI 0), .tmp 35] Try.call89 rfl rfl fun w F hs hF hp => spec_l1In_c h51) z4 trivial z4 (fun _ => rfl) fun _ => ?_
  refine pu Pu.not z1 z3 ?_
  refine pu Pu.move z1 z3 ?_
  obtain ⟨c58, h59, H⟩ := bnd H
  refine HQ.cutAt 7 [(45, .bool c58), (1, vI p1), (2, BP b1 0), (4, .slice none 0 0), (5, .bool false)] [(1, Box b1 [vS a_0 p0.Cells c_0, vS a_1 p0.Wet c_1, vI p0.Fuse, .bool p0.Dead])] ?_ ?_
  ·clear H
   have H := h59
   rcases brk H with ⟨hg52, H⟩ | ⟨hg52, H⟩
   ·obtain rfl := Option.some.inj H
    refine HQ.off rfl rfl hg52 rfl ?_
    refine HQ.off rfl rfl hg52 rfl ?_
    refine HQ.off rfl rfl hg52 rfl ?_
    refine HQ.off rfl rfl hg52 rfl ?_
    refine HQ.off rfl rfl hg52 rfl ?_
    refine HQ.off rfl rfl hg52 rfl ?_
    refine pu (Pu.pickC1 hg52) z2 z3 ?_
    exact HQ.mid z5 z1 rfl
   ·refine HQ.on rfl rfl hg52 ?_
    refine pu (Pu.fieldB fo27_0 rfl) z1 z3 ?_
    refine HQ.on rfl rfl hg52 ?_
    refine op [1] [1] (OT.loadB sc24 rfl) z1 z1 z4 (fun _ => rfl) fun _ => ?_
    refine HQ.on rfl rfl hg52 ?_
    refine pu Pu.move z1 z3 ?_
    refine HQ.on rfl rfl hg52 ?_
    obtain ⟨h53, H⟩ := asr H
    refine op [] [] (OT.indexB ul24 sz113 hb_0 h53) z2 trivial z4 (fun _ => rfl) fun _ => ?_
    refine HQ.on rfl rfl hg52 ?_
    refine pu (Pu.fieldE fo113_0 rfl) z1 z3 ?_
    refine HQ.on rfl rfl hg52 ?_
    obtain ⟨⟨a54, c55⟩, hb56, hn57⟩ := BorS.nest hb_0 h53
    refine op [] [] (OT.loadN (v := .bool ((gt p0.Cells p1).Bad)) sc4 hn57 hlTCell rfl) z1 trivial z4 (fun _ => rfl) fun _ => ?_
    obtain rfl := Option.some.inj H
    refine pu (Pu.pickC0 hg52) z2 z3 ?_
    exact HQ.mid z5 z1 rfl
  refine pu Pu.move z1 z3 ?_
  obtain ⟨c66, h67, H⟩ := bnd H
  refine HQ.cutAt 9 [(55, .bool c66), (1, vI p1), (2, BP b1 0), (4, .slice none 0 0), (5, .bool false)] [(1, Box b1 [vS a_0 p0.Cells c_0, vS a_1 p0.Wet c_1, vI p0.Fuse, .bool p0.Dead])] ?_ ?_
  ·clear H
   have H := h67
   rcases brk H with ⟨hg60, H⟩ | ⟨hg60, H⟩
   ·obtain rfl := Option.some.inj H
    refine HQ.off rfl rfl hg60 rfl ?_
    refine HQ.off rfl rfl hg60 rfl ?_
    refine HQ.off rfl rfl hg60 rfl ?_
    refine HQ.off rfl rfl hg60 rfl ?_
    refine HQ.off rfl rfl hg60 rfl ?_
    refine HQ.off rfl rfl hg60 rfl ?_
    refine HQ.off rfl rfl hg60 rfl ?_
    refine HQ.off rfl rfl hg60 rfl ?_
    refine pu (Pu.pickC1 hg60) z2 z3 ?_
    exact HQ.mid z5 z1 rfl
   ·refine HQ.on rfl rfl hg60 ?_
    refine pu (Pu.fieldB fo27_0 rfl) z1 z3 ?_
    refine HQ.on rfl rfl hg60 ?_
    refine op [1] [1] (OT.loadB sc24 rfl) z1 z1 z4 (fun _ => rfl) fun _ => ?_
    refine HQ.on rfl rfl hg60 ?_
    refine pu Pu.move z1 z3 ?_
    refine HQ.on rfl rfl hg60 ?_
    obtain ⟨h61, H⟩ := asr H
    refine op [] [] (OT.indexB ul24 sz113 hb_0 h61) z2 trivial z4 (fun _ => rfl) fun _ => ?_
    refine HQ.on rfl rfl hg60 ?_
    refine pu (Pu.fieldE fo113_1 rfl) z1 z3 ?_
    refine HQ.on rfl rfl hg60 ?_
    obtain ⟨⟨a62, c63⟩, hb64, hn65⟩ := BorS.nest hb_0 h61
    refine op [] [] (OT.loadN (v := vS a62 ((gt p0.Cells p1).B) c63) sc22 hn65 hlTCell rfl) z1 trivial z4 (fun _ => rfl) fun _ => ?_
    refine HQ.on rfl rfl hg60 ?_
    refine pu (Pu.len ul22) z1 z3 ?_
    refine HQ.on rfl rfl hg60 ?_
    refine pu Pu.eql z2 z3 ?_
    obtain rfl := Option.some.inj H
    refine pu (Pu.pickC0 hg60) z2 z3 ?_
    exact HQ.mid z5 z1 rfl
  refine HQ.done ?_
  refine HQ.keep [(55, _), (1, _), (2, _), (4, _), (5, _)] z5 ?_
  rcases brk H with ⟨hc, H⟩ | ⟨hc, H⟩
  ·refine HQ.condT rfl hc ?_
   clear hc
   refine HQ.rseq ?_
   refine op [] [5] (OT.buildF (us := []) (ys := ([] : (List Int))) (enc := (encI .u8)) (hl := fun _ => ⟨rfl, rfl⟩) [] sl22.ul sl22.szE sl22.zc rfl rfl rfl rfl rfl) trivial trivial z4 (fun _ => rfl) fun ⟨a68, c69⟩ => ?_
   refine pu Pu.assign z1 z3 ?_
   refine pu Pu.assign z1 z3 ?_
   refine HQ.done ?_
   refine HQ.keep [(1, _), (2, _), (4, _), (5, _)] z4 ?_
   refine HQ.ret ?_
   refine HQ.thenR ?_
   obtain rfl := Option.some.inj H
   exact HQ.fin (vs := [_, _]) Try.results18 (a68, c69) z2 rfl [5] z1 rfl
  ·refine HQ.condF rfl hc ?_
   clear hc
   refine HQ.skipThen ?_
   refine HQ.rseq ?_
   refine op [] [6] (OT.buildF (us := []) (ys := ([] : (List Int))) (enc := (encI .u8)) (hl := fun _ => ⟨rfl, rfl⟩) [] sl22.ul sl22.szE sl22.zc rfl rfl rfl rfl rfl) trivial trivial z4 (fun _ => rfl) fun ⟨a70, c71⟩ => ?_
   refine pu (Pu.fieldB fo27_0 rfl) z1 z3 ?_
   refine op [1] [1] (OT.loadB sc24 rfl) z1 z1 z4 (fun _ => rfl) fun _ => ?_
   refine pu Pu.move z1 z3 ?_
   obtain ⟨h72, H⟩ := asr H
   refine op [] [] (OT.indexB ul24 sz113 hb_0 h72) z2 trivial z4 (fun _ => rfl) fun _ => ?_
   refine pu (Pu.fieldE fo113_1 rfl) z1 z3 ?_
   obtain ⟨⟨a73, c74⟩, hb75, hn76⟩ := BorS.nest hb_0 h72
   refine op [] [] (OT.loadN (v := vS a73 ((gt p0.Cells p1).B) c74) sc22 hn76 hlTCell rfl) z1 trivial z4 (fun _ => rfl) fun _ => ?_
   obtain ⟨h79, H⟩ := asr H
   refine op [6] [6] (OT.appendF (enc := (encI .u8)) (hl := fun _ => ⟨rfl, rfl⟩) sl22 ul22 hb75 h79) z2 z1 z4 (fun _ => rfl) fun ⟨a77, c78⟩ => ?_
   refine pu Pu.assign z1 z3 ?_
   refine pu Pu.assign z1 z3 ?_
   refine HQ.done ?_
   refine HQ.keep [(4, _), (5, _)] z2 ?_
   refine HQ.ret ?_
   obtain rfl := Option.some.inj H
   exact HQ.fin (vs := [_, _]) Try.results18 (a77, c78) z2 rfl [6] z1 rfl
 ·rintro r rfl a w hr
  obtain rfl := Option.some.inj H
  exact hr

theorem spec_Get2_c {w : World} {p0 : (List Int)} {p1 : Int} {a_0 : Option Addr} {c_0 : Nat} (hb_0 : BorS kU8 a_0 c_0 p0 w.heap (Lt w Nil)) {r : Int × Bool} (H : spec_Get2 p0 p1 = some r) :
  Calls Try.prog 113 #[vS a_0 p0 c_0, vI p1] w (Rt w Nil (fun _ : Unit => .tuple #[vI r.1, .bool r.2]) (fun _ => [])) := by
 rw [spec_Get2] at H
 refine Calls.enter0 (N := 28) (us := [_, _]) Try.func113 rfl rfl rfl ?_
 refine HQ.rseq ?_
 refine pu Pu.assign z1 z3 ?_
 refine pu Pu.assign z1 z3 ?_
 refine HQ.done ?_
 refine HQ.keep [(0, _), (1, _), (4, _), (5, _)] z4 ?_
 refine HQ.seq ?_
 refine HQ.rseq ?_
 refine pu Pu.move z1 z3 ?_
 refine pu Pu.lss z2 z3 ?_
 refine pu Pu.move z1 z3 ?_
 refine HQ.cutAt 6 [(14, .bool ((decide (p1 < 0)) || (decide (p1 > (wrap64 (((List.length p0 : Nat) : Int) - 2)))))), (0, vS a_0 p0 c_0), (1, vI p1), (4, vI 0), (5, .bool false)] [] ?_ ?_
 ·rcases Bool.eq_false_or_eq_true (decide (p1 < 0)) with hg1 | hg1
  ·refine HQ.off rfl rfl hg1 rfl ?_
   refine HQ.off rfl rfl hg1 rfl ?_
   refine HQ.off rfl rfl hg1 rfl ?_
   refine HQ.off rfl rfl hg1 rfl ?_
   refine HQ.off rfl rfl hg1 rfl ?_
   refine pu (Pu.pickOT (u := (decide (p1 > (wrap64 (((List.length p0 : Nat) : Int) - 2))))) hg1) z2 z3 ?_
   exact HQ.mid z5 trivial rfl
  ·refine HQ.on rfl rfl hg1 ?_
   refine pu Pu.move z1 z3 ?_
   refine HQ.on rfl rfl hg1 ?_
   refine pu Pu.move z1 z3 ?_
   refine HQ.on rfl rfl hg1 ?_
   refine pu (Pu.len ul22) z1 z3 ?_
   refine HQ.on rfl rfl hg1 ?_
   refine pu Pu.sub z2 z3 ?_
   refine HQ.on rfl rfl hg1 ?_
   refine pu Pu.gtr z2 z3 ?_
   refine pu (Pu.pickOF hg1) z2 z3 ?_
   exact HQ.mid z5 trivial rfl
 refine HQ.done ?_
 refine HQ.keep [(14, _), (0, _), (1, _), (4, _), (5, _)] z5 ?_
 rcases brk H with ⟨hc, H⟩ | ⟨hc, H⟩
 ·refine HQ.condT rfl hc ?_
  clear hc
  refine HQ.rseq ?_
  refine pu Pu.assign z1 z3 ?_
  refine pu Pu.assign z1 z3 ?_
  refine HQ.done ?_
  refine HQ.keep [(0, _), (1, _), (4, _), (5, _)] z4 ?_
  refine HQ.ret ?_
  refine HQ.thenR ?_
  obtain rfl := Option.some.inj H
  exact HQ.fin (vs := [_, _]) Try.results113 () z2 rfl [] trivial rfl
 ·refine HQ.condF rfl hc ?_
  clear hc
  refine HQ.skipThen ?_
  obtain ⟨h3, H⟩ := asr H
  obtain ⟨h4, H⟩ := asr H
  refine HQ.drawS mixd [(0, vS a_0 p0 c_0), (1, vI p1), (4, vI 0), (5, .bool false)] 12 [⟨[], [], []⟩, ⟨[], [], []⟩, ⟨[], [], [0, 1]⟩, ⟨[], [], [2]⟩, ⟨[], [], [3]⟩, ⟨[], [], [4]⟩, ⟨[], [], []⟩, ⟨[], [], []⟩, ⟨[], [], [7]⟩, ⟨[], [], [6, 8]⟩, ⟨[], [], [9]⟩, ⟨[], [], [10]⟩] [] (fun (g2 : Unit) => [vS a_0 p0 c_0, vI p1, EP a_0 p1 1 0, .int .u8 (gt p0 p1), vI (IntKind.i64.wrap (gt p0 p1)), vI (wrap64 (256 * (IntKind.i64.wrap (gt p0 p1)))), vS a_0 p0 c_0, vI p1, vI (wrap64 (p1 + 1)), EP a_0 (wrap64 (p1 + 1)) 1 0, .int .u8 (gt p0 (wrap64 (p1 + 1))), vI (IntKind.i64.wrap (gt p0 (wrap64 (p1 + 1))))]) (fun (g2 : Unit) => []) () [] [] [] z4 trivial rfl (by kernel_rfl) (fun _ => rfl) (by kernel_rfl) (fun _ => rfl) ⟨?_, ?_, ?_, ?_, ?_, ?_, ?_, ?_, ?_, ?_, ?_, ?_, trivial⟩ fun g2 => ?_
  ·exact OpOK.pu (fun g2 => [(.tmp 0, vS a_0 p0 c_0)]) z2 (fun _ => z1) (fun _ => Pu.move) (fun _ => z1) (fun _ _ => z2)
  ·exact OpOK.pu (fun g2 => [(.tmp 1, vI p1)]) z2 (fun _ => z1) (fun _ => Pu.move) (fun _ => z1) (fun _ _ => z2)
  ·exact OpOK.of (fun g2 => [(.tmp 15, vS a_0 p0 c_0), (.tmp 16, vI p1)]) _ _ (fun g2 _ => g2) rfl rfl (fun _ => z2) (fun g2 => OT.indexB ul22 sz5 hb_0 h3) (fun _ _ => z2)
  ·exact OpOK.of (fun g2 => [(.tmp 17, EP a_0 p1 1 0)]) _ _ (fun g2 _ => g2) rfl rfl (fun _ => z1) (fun g2 => OT.loadF sc5 hb_0 h3 rfl) (fun _ _ => z2)
  ·exact OpOK.pu (fun g2 => [(.tmp 18, .int .u8 (gt p0 p1))]) z2 (fun _ => z1) (fun _ => (Pu.conv ul5 ul3)) (fun _ => z1) (fun _ _ => z2)
  ·exact OpOK.pu (fun g2 => [(.const (vI 256), vI 256), (.tmp 19, vI (IntKind.i64.wrap (gt p0 p1)))]) z2 (fun _ => z2) (fun _ => Pu.mul) (fun _ => z1) (fun _ _ => z2)
  ·exact OpOK.pu (fun g2 => [(.tmp 0, vS a_0 p0 c_0)]) z2 (fun _ => z1) (fun _ => Pu.move) (fun _ => z1) (fun _ _ => z2)
  ·exact OpOK.pu (fun g2 => [(.tmp 1, vI p1)]) z2 (fun _ => z1) (fun _ => Pu.move) (fun _ => z1) (fun _ _ => z2)
  ·exact OpOK.pu (fun g2 => [(.tmp 22, vI p1), (.const (vI 1), vI 1)]) z2 (fun _ => z2) (fun _ => Pu.add) (fun _ => z1) (fun _ _ => z2)
  ·exact OpOK.of (fun g2 => [(.tmp 21, vS a_0 p0 c_0), (.tmp 23, vI (wrap64 (p1 + 1)))]) _ _ (fun g2 _ => g2) rfl rfl (fun _ => z2) (fun g2 => OT.indexB ul22 sz5 hb_0 h4) (fun _ _ => z2)
  ·exact OpOK.of (fun g2 => [(.tmp 24, EP a_0 (wrap64 (p1 + 1)) 1 0)]) _ _ (fun g2 _ => g2) rfl rfl (fun _ => z1) (fun g2 => OT.loadF sc5 hb_0 h4 rfl) (fun _ _ => z2)
  ·exact OpOK.pu (fun g2 => [(.tmp 25, .int .u8 (gt p0 (wrap64 (p1 + 1))))]) z2 (fun _ => z1) (fun _ => (Pu.conv ul5 ul3)) (fun _ => z1) (fun _ _ => z2)
  refine HQ.keep [(4, _), (5, _), (20, _), (26, _)] z4 ?_
  refine HQ.keepR [] trivial rfl ?_
  refine pu Pu.add z2 z3 ?_
  refine pu Pu.assign z1 z3 ?_
  refine pu Pu.assign z1 z3 ?_
  refine HQ.done ?_
  refine HQ.keep [(4, _), (5, _)] z2 ?_
  refine HQ.ret ?_
  obtain rfl := Option.some.inj H
  exact HQ.fin (vs := [_, _]) Try.results113 () z2 rfl [] trivial rfl

theorem spec_GetEntry_c {w : World} {p0 : (List Int)} {p1 : Int} {a_0 : Option Addr} {c_0 : Nat} (hb_0 : BorS kU8 a_0 c_0 p0 w.heap (Lt w Nil)) {r : TEntry × Bool} (H : spec_GetEntry p0 p1 = some r) :
  Calls Try.prog 135 #[vS a_0 p0 c_0, vI p1] w (Rt w Nil (fun _ : Unit => .tuple #[.agg #[vI r.1.N, vI r.1.R.X0, vI r.1.R.Y0, vI r.1.R.X1, vI r.1.R.Y1], .bool r.2]) (fun _ => [])) := by
 rw [spec_GetEntry] at H
 refine Calls.enter0 (N := 58) (us := [_, _]) Try.func135 rfl rfl rfl ?_
 refine HQ.rseq ?_
 refine op [] [1] (OT.alloc zc134) trivial trivial z4 (fun _ => rfl) fun b1 => ?_
 refine pu Pu.assign z1 z3 ?_
 refine HQ.done ?_
 refine HQ.keep [(0, _), (1, _), (4, _), (5, _)] z4 ?_
 refine HQ.seq ?_
 refine HQ.rseq ?_
 refine pu Pu.move z1 z3 ?_
 refine pu Pu.lss z2 z3 ?_
 refine pu Pu.move z1 z3 ?_
 refine HQ.cutAt 6 [(17, .bool ((decide (p1 < 0)) || (decide (p1 > (wrap64 (((List.length p0 : Nat) : Int) - 6)))))), (0, vS a_0 p0 c_0), (1, vI p1), (4, BP b1 0), (5, .bool false)] [(1, Box b1 [vI 0, vI 0, vI 0, vI 0, vI 0])] ?_ ?_
 ·rcases Bool.eq_false_or_eq_true (decide (p1 < 0)) with hg2 | hg2
  ·refine HQ.off rfl rfl hg2 rfl ?_
   refine HQ.off rfl rfl hg2 rfl ?_
   refine HQ.off rfl rfl hg2 rfl ?_
   refine HQ.off rfl rfl hg2 rfl ?_
   refine HQ.off rfl rfl hg2 rfl ?_
   refine pu (Pu.pickOT (u := (decide (p1 > (wrap64 (((List.length p0 : Nat) : Int) - 6))))) hg2) z2 z3 ?_
   exact HQ.mid z5 z1 rfl
  ·refine HQ.on rfl rfl hg2 ?_
   refine pu Pu.move z1 z3 ?_
   refine HQ.on rfl rfl hg2 ?_
   refine pu Pu.move z1 z3 ?_
   refine HQ.on rfl rfl hg2 ?_
   refine pu (Pu.len ul22) z1 z3 ?_
   refine HQ.on rfl rfl hg2 ?_
   refine pu Pu.sub z2 z3 ?_
   refine HQ.on rfl rfl hg2 ?_
   refine pu Pu.gtr z2 z3 ?_
   refine pu (Pu.pickOF hg2) z2 z3 ?_
   exact HQ.mid z5 z1 rfl
 refine HQ.done ?_
 refine HQ.keep [(17, _), (0, _), (1, _), (4, _), (5, _)] z5 ?_
 rcases brk H with ⟨hc, H⟩ | ⟨hc, H⟩
 ·refine HQ.condT rfl hc ?_
  clear hc
  refine HQ.rseq ?_
  refine pu (Pu.build (us := []) (cs := [vI 0, vI 0, vI 0, vI 0, vI 0]) [] st134 rfl rfl rfl) trivial z3 ?_
  refine HQ.opN [1] [1] [] (OT.storeC (cs' := [vI 0, vI 0, vI 0, vI 0, vI 0]) sz134 rfl rfl rfl rfl rfl) z2 z1 rfl rfl rfl (fun _ => rfl) fun _ => ?_
  refine pu Pu.assign z1 z3 ?_
  refine HQ.done ?_
  refine HQ.keep [(0, _), (1, _), (4, _), (5, _)] z4 ?_
  refine HQ.ret ?_
  refine HQ.thenR ?_
  obtain rfl := Option.some.inj H
  exact HQ.fin (vs := [_, _]) Try.results135 () ⟨⟨_, _, 1, rfl, rfl, ag134, sz134, rfl⟩, rfl, trivial⟩ rfl [] trivial rfl
 ·refine HQ.condF rfl hc ?_
  clear hc
  refine HQ.skipThen ?_
  refine HQ.rseq ?_
  refine pu Pu.move z1 z3 ?_
  refine pu Pu.move z1 z3 ?_
  obtain ⟨t3, h4, H⟩ := bnd H
  refine op [] [] (OT.call (us := [_, _]) (Pre := []) [.tmp 20, .tmp 21] Try.call113 rfl rfl fun w F hs hF hp => spec_Get2_c (hb_0.pass hp) h4) z3 trivial z4 (fun _ => rfl) fun _ => ?_
  refine pu Pu.move z1 z3 ?_
  refine pu (Pu.extract rfl) z1 z3 ?_
  refine pu (Pu.extract rfl) z1 z3 ?_
  refine pu Pu.assign z1 z3 ?_
  refine pu Pu.assign z1 z3 ?_
  refine HQ.done ?_
  refine HQ.keep [(0, _), (1, _), (4, _), (5, _), (6, _)] z5 ?_
  obtain ⟨h6, H⟩ := asr H
  obtain ⟨h7, H⟩ := asr H
  obtain ⟨h8, H⟩ := asr H
  obtain ⟨h9, H⟩ := asr H
  refine HQ.drawS mixd [(0, vS a_0 p0 c_0), (1, vI p1), (4, BP b1 0), (5, .bool false), (6, vI t3.1)] 28 [⟨[], [], []⟩, ⟨[], [], []⟩, ⟨[], [], []⟩, ⟨[], [], [2]⟩, ⟨[], [], [1, 3]⟩, ⟨[], [], [4]⟩, ⟨[], [], [5]⟩, ⟨[], [], []⟩, ⟨[], [], []⟩, ⟨[], [], [8]⟩, ⟨[], [], [7, 9]⟩, ⟨[], [], [10]⟩, ⟨[], [], [11]⟩, ⟨[], [], []⟩, ⟨[], [], []⟩, ⟨[], [], [14]⟩, ⟨[], [], [13, 15]⟩, ⟨[], [], [16]⟩, ⟨[], [], [17]⟩, ⟨[], [], []⟩, ⟨[], [], []⟩, ⟨[], [], [20]⟩, ⟨[], [], [19, 21]⟩, ⟨[], [], [22]⟩, ⟨[], [], [23]⟩, ⟨[], [], [6, 12, 18, 24]⟩, ⟨[], [], [0, 25]⟩, ⟨[], [0], []⟩] [⟨some 27, none⟩] (fun (g5 : Nat) => [vI t3.1, vS a_0 p0 c_0, vI p1, vI (wrap64 (p1 + 2)), EP a_0 (wrap64 (p1 + 2)) 1 0, .int .u8 (gt p0 (wrap64 (p1 + 2))), vI (IntKind.i64.wrap (gt p0 (wrap64 (p1 + 2)))), vS a_0 p0 c_0, vI p1, vI (wrap64 (p1 + 3)), EP a_0 (wrap64 (p1 + 3)) 1 0, .int .u8 (gt p0 (wrap64 (p1 + 3))), vI (IntKind.i64.wrap (gt p0 (wrap64 (p1 + 3)))), vS a_0 p0 c_0, vI p1, vI (wrap64 (p1 + 4)), EP a_0 (wrap64 (p1 + 4)) 1 0, .int .u8 (gt p0 (wrap64 (p1 + 4))), vI (IntKind.i64.wrap (gt p0 (wrap64 (p1 + 4)))), vS a_0 p0 c_0, vI p1, vI (wrap64 (p1 + 5)), EP a_0 (wrap64 (p1 + 5)) 1 0, .int .u8 (gt p0 (wrap64 (p1 + 5))), vI (IntKind.i64.wrap (gt p0 (wrap64 (p1 + 5)))), .agg #[vI (IntKind.i64.wrap (gt p0 (wrap64 (p1 + 2)))), vI (IntKind.i64.wrap (gt p0 (wrap64 (p1 + 3)))), vI (IntKind.i64.wrap (gt p0 (wrap64 (p1 + 4)))), vI (IntKind.i64.wrap (gt p0 (wrap64 (p1 + 5))))], .agg #[vI t3.1, vI (IntKind.i64.wrap (gt p0 (wrap64 (p1 + 2)))), vI (IntKind.i64.wrap (gt p0 (wrap64 (p1 + 3)))), vI (IntKind.i64.wrap (gt p0 (wrap64 (p1 + 4)))), vI (IntKind.i64.wrap (gt p0 (wrap64 (p1 + 5))))], BP g5 0]) (fun (g5 : Nat) => [Box g5 [vI 0, vI 0, vI 0, vI 0, vI 0]]) 0 [] [2] [] z5 trivial rfl (by kernel_rfl) (fun _ => rfl) (by kernel_rfl) (fun _ => rfl) ⟨?_, ?_, ?_, ?_, ?_, ?_, ?_, ?_, ?_, ?_, ?_, ?_, ?_, ?_, ?_, ?_, ?_, ?_, ?_, ?_, ?_, ?_, ?_, ?_, ?_, ?_, ?_, ?_, trivial⟩ fun g5 => ?_
  ·exact OpOK.pu (fun g5 => [(.tmp 6, vI t3.1)]) z2 (fun _ => z1) (fun _ => Pu.move) (fun _ => z1) (fun _ _ => z3)
  ·exact OpOK.pu (fun g5 => [(.tmp 0, vS a_0 p0 c_0)]) z2 (fun _ => z1) (fun _ => Pu.move) (fun _ => z1) (fun _ _ => z3)
  ·exact OpOK.pu (fun g5 => [(.tmp 1, vI p1)]) z2 (fun _ => z1) (fun _ => Pu.move) (fun _ => z1) (fun _ _ => z3)
  ·exact OpOK.pu (fun g5 => [(.tmp 27, vI p1), (.const (vI 2), vI 2)]) z2 (fun _ => z2) (fun _ => Pu.add) (fun _ => z1) (fun _ _ => z3)
  ·exact OpOK.of (fun g5 => [(.tmp 26, vS a_0 p0 c_0), (.tmp 28, vI (wrap64 (p1 + 2)))]) _ _ (fun g5 _ => g5) rfl rfl (fun _ => z2) (fun g5 => OT.indexB ul22 sz5 hb_0 h6) (fun _ _ => z3)
  ·exact OpOK.of (fun g5 => [(.tmp 29, EP a_0 (wrap64 (p1 + 2)) 1 0)]) _ _ (fun g5 _ => g5) rfl rfl (fun _ => z1) (fun g5 => OT.loadF sc5 hb_0 h6 rfl) (fun _ _ => z3)
  ·exact OpOK.pu (fun g5 => [(.tmp 30, .int .u8 (gt p0 (wrap64 (p1 + 2))))]) z2 (fun _ => z1) (fun _ => (Pu.conv ul5 ul3)) (fun _ => z1) (fun _ _ => z3)
  ·exact OpOK.pu (fun g5 => [(.tmp 0, vS a_0 p0 c_0)]) z2 (fun _ => z1) (fun _ => Pu.move) (fun _ => z1) (fun _ _ => z3)
  ·exact OpOK.pu (fun g5 => [(.tmp 1, vI p1)]) z2 (fun _ => z1) (fun _ => Pu.move) (fun _ => z1) (fun _ _ => z3)
  ·exact OpOK.pu (fun g5 => [(.tmp 33, vI p1), (.const (vI 3), vI 3)]) z2 (fun _ => z2) (fun _ => Pu.add) (fun _ => z1) (fun _ _ => z3)
  ·exact OpOK.of (fun g5 => [(.tmp 32, vS a_0 p0 c_0), (.tmp 34, vI (wrap64 (p1 + 3)))]) _ _ (fun g5 _ => g5) rfl rfl (fun _ => z2) (fun g5 => OT.indexB ul22 sz5 hb_0 h7) (fun _ _ => z3)
  ·exact OpOK.of (fun g5 => [(.tmp 35, EP a_0 (wrap64 (p1 + 3)) 1 0)]) _ _ (fun g5 _ => g5) rfl rfl (fun _ => z1) (fun g5 => OT.loadF sc5 hb_0 h7 rfl) (fun _ _ => z3)
  ·exact OpOK.pu (fun g5 => [(.tmp 36, .int .u8 (gt p0 (wrap64 (p1 + 3))))]) z2 (fun _ => z1) (fun _ => (Pu.conv ul5 ul3)) (fun _ => z1) (fun _ _ => z3)
  ·exact OpOK.pu (fun g5 => [(.tmp 0, vS a_0 p0 c_0)]) z2 (fun _ => z1) (fun _ => Pu.move) (fun _ => z1) (fun _ _ => z3)
  ·exact OpOK.pu (fun g5 => [(.tmp 1, vI p1)]) z2 (fun _ => z1) (fun _ => Pu.move) (fun _ => z1) (fun _ _ => z3)
  ·exact OpOK.pu (fun g5 => [(.tmp 39, vI p1), (.const (vI 4), vI 4)]) z2 (fun _ => z2) (fun _ => Pu.add) (fun _ => z1) (fun _ _ => z3)
  ·exact OpOK.of (fun g5 => [(.tmp 38, vS a_0 p0 c_0), (.tmp 40, vI (wrap64 (p1 + 4)))]) _ _ (fun g5 _ => g5) rfl rfl (fun _ => z2) (fun g5 => OT.indexB ul22 sz5 hb_0 h8) (fun _ _ => z3)
  ·exact OpOK.of (fun g5 => [(.tmp 41, EP a_0 (wrap64 (p1 + 4)) 1 0)]) _ _ (fun g5 _ => g5) rfl rfl (fun _ => z1) (fun g5 => OT.loadF sc5 hb_0 h8 rfl) (fun _ _ => z3)
  ·exact OpOK.pu (fun g5 => [(.tmp 42, .int .u8 (gt p0 (wrap64 (p1 + 4))))]) z2 (fun _ => z1) (fun _ => (Pu.conv ul5 ul3)) (fun _ => z1) (fun _ _ => z3)
  ·exact OpOK.pu (fun g5 => [(.tmp 0, vS a_0 p0 c_0)]) z2 (fun _ => z1) (fun _ => Pu.move) (fun _ => z1) (fun _ _ => z3)
  ·exact OpOK.pu (fun g5 => [(.tmp 1, vI p1)]) z2 (fun _ => z1) (fun _ => Pu.move) (fun _ => z1) (fun _ _ => z3)
  ·exact OpOK.pu (fun g5 => [(.tmp 45, vI p1), (.const (vI 5), vI 5)]) z2 (fun _ => z2) (fun _ => Pu.add) (fun _ => z1) (fun _ _ => z3)
  ·exact OpOK.of (fun g5 => [(.tmp 44, vS a_0 p0 c_0), (.tmp 46, vI (wrap64 (p1 + 5)))]) _ _ (fun g5 _ => g5) rfl rfl (fun _ => z2) (fun g5 => OT.indexB ul22 sz5 hb_0 h9) (fun _ _ => z3)
  ·exact OpOK.of (fun g5 => [(.tmp 47, EP a_0 (wrap64 (p1 + 5)) 1 0)]) _ _ (fun g5 _ => g5) rfl rfl (fun _ => z1) (fun g5 => OT.loadF sc5 hb_0 h9 rfl) (fun _ _ => z3)
  ·exact OpOK.pu (fun g5 => [(.tmp 48, .int .u8 (gt p0 (wrap64 (p1 + 5))))]) z2 (fun _ => z1) (fun _ => (Pu.conv ul5 ul3)) (fun _ => z1) (fun _ _ => z3)
  ·exact OpOK.pu (fun g5 => [(.tmp 31, vI (IntKind.i64.wrap (gt p0 (wrap64 (p1 + 2))))), (.tmp 37, vI (IntKind.i64.wrap (gt p0 (wrap64 (p1 + 3))))), (.tmp 43, vI (IntKind.i64.wrap (gt p0 (wrap64 (p1 + 4))))), (.tmp 49, vI (IntKind.i64.wrap (gt p0 (wrap64 (p1 + 5)))))]) z2 (fun _ => z4) (fun _ => (Pu.build (us := [vI (IntKind.i64.wrap (gt p0 (wrap64 (p1 + 2)))), vI (IntKind.i64.wrap (gt p0 (wrap64 (p1 + 3)))), vI (IntKind.i64.wrap (gt p0 (wrap64 (p1 + 4)))), vI (IntKind.i64.wrap (gt p0 (wrap64 (p1 + 5))))]) (cs := [vI (IntKind.i64.wrap (gt p0 (wrap64 (p1 + 2)))), vI (IntKind.i64.wrap (gt p0 (wrap64 (p1 + 3)))), vI (IntKind.i64.wrap (gt p0 (wrap64 (p1 + 4)))), vI (IntKind.i64.wrap (gt p0 (wrap64 (p1 + 5))))]) [(0, .tmp 31), (1, .tmp 37), (2, .tmp 43), (3, .tmp 49)] st132 rfl rfl rfl)) (fun _ => z1) (fun _ _ => z3)
  ·exact OpOK.pu (fun g5 => [(.tmp 25, vI t3.1), (.tmp 50, .agg #[vI (IntKind.i64.wrap (gt p0 (wrap64 (p1 + 2)))), vI (IntKind.i64.wrap (gt p0 (wrap64 (p1 + 3)))), vI (IntKind.i64.wrap (gt p0 (wrap64 (p1 + 4)))), vI (IntKind.i64.wrap (gt p0 (wrap64 (p1 + 5))))])]) z2 (fun _ => z2) (fun _ => (Pu.build (us := [vI t3.1, .agg #[vI (IntKind.i64.wrap (gt p0 (wrap64 (p1 + 2)))), vI (IntKind.i64.wrap (gt p0 (wrap64 (p1 + 3)))), vI (IntKind.i64.wrap (gt p0 (wrap64 (p1 + 4)))), vI (IntKind.i64.wrap (gt p0 (wrap64 (p1 + 5))))]]) (cs := [vI t3.1, vI (IntKind.i64.wrap (gt p0 (wrap64 (p1 + 2)))), vI (IntKind.i64.wrap (gt p0 (wrap64 (p1 + 3)))), vI (IntKind.i64.wrap (gt p0 (wrap64 (p1 + 4)))), vI (IntKind.i64.wrap (gt p0 (wrap64 (p1 + 5))))]) [(0, .tmp 25), (1, .tmp 50)] st134 rfl rfl rfl)) (fun _ => z1) (fun _ _ => z3)
  ·exact OpOK.of (fun g5 => []) _ _ (fun g5 x => x) rfl rfl (fun _ => trivial) (fun g5 => OT.alloc zc134) (fun _ _ => z3)
  refine HQ.keep [(4, _), (5, _), (51, _), (8, _)] z4 ?_
  refine HQ.keepR [(1, _), (2, _)] z2 rfl ?_
  refine HQ.opN [2] [2] [] (OT.storeC (cs' := [vI t3.1, vI (IntKind.i64.wrap (gt p0 (wrap64 (p1 + 2)))), vI (IntKind.i64.wrap (gt p0 (wrap64 (p1 + 3)))), vI (IntKind.i64.wrap (gt p0 (wrap64 (p1 + 4)))), vI (IntKind.i64.wrap (gt p0 (wrap64 (p1 + 5))))]) sz134 rfl rfl rfl rfl rfl) z2 z1 rfl rfl rfl (fun _ => rfl) fun _ => ?_
  refine HQ.done ?_
  refine HQ.keep [(4, _), (5, _), (8, _)] z3 ?_
  refine HQ.seq ?_
  refine HQ.rseq ?_
  refine pu (Pu.fieldB fo134_1 rfl) z1 z3 ?_
  refine op [2] [2] (OT.loadBA (vs := [vI (IntKind.i64.wrap (gt p0 (wrap64 (p1 + 2)))), vI (IntKind.i64.wrap (gt p0 (wrap64 (p1 + 3)))), vI (IntKind.i64.wrap (gt p0 (wrap64 (p1 + 4)))), vI (IntKind.i64.wrap (gt p0 (wrap64 (p1 + 5))))]) ag132 sz132 rfl rfl) z1 z1 z4 (fun _ => rfl) fun _ => ?_
  obtain ⟨t11, h12, H⟩ := bnd H
  refine op [] [] (OT.call (us := [_]) (Pre := []) [.tmp 53] Try.call128 rfl rfl fun w F hs hF hp => spec_BoxOk_c h12) z2 trivial z4 (fun _ => rfl) fun _ => ?_
  refine pu Pu.not z1 z3 ?_
  refine HQ.done ?_
  refine HQ.keep [(4, _), (5, _), (8, _), (55, _)] z4 ?_
  rcases brk H with ⟨hc, H⟩ | ⟨hc, H⟩
  ·refine HQ.condT rfl hc ?_
   clear hc
   refine HQ.rseq ?_
   refine pu (Pu.build (us := []) (cs := [vI 0, vI 0, vI 0, vI 0, vI 0]) [] st134 rfl rfl rfl) trivial z3 ?_
   refine HQ.opN [1] [1] [] (OT.storeC (cs' := [vI 0, vI 0, vI 0, vI 0, vI 0]) sz134 rfl rfl rfl rfl rfl) z2 z1 rfl rfl rfl (fun _ => rfl) fun _ => ?_
   refine pu Pu.assign z1 z3 ?_
   refine HQ.done ?_
   refine HQ.keep [(4, _), (5, _), (8, _)] z3 ?_
   refine HQ.ret ?_
   refine HQ.thenR ?_
   obtain rfl := Option.some.inj H
   exact HQ.fin (vs := [_, _]) Try.results135 () ⟨⟨_, _, 1, rfl, rfl, ag134, sz134, rfl⟩, rfl, trivial⟩ rfl [] trivial rfl
  ·refine HQ.condF rfl hc ?_
   clear hc
   refine HQ.skipThen ?_
   refine HQ.rseq ?_
   refine op [2] [2] (OT.loadBA (vs := [vI t3.1, vI (IntKind.i64.wrap (gt p0 (wrap64 (p1 + 2)))), vI (IntKind.i64.wrap (gt p0 (wrap64 (p1 + 3)))), vI (IntKind.i64.wrap (gt p0 (wrap64 (p1 + 4)))), vI (IntKind.i64.wrap (gt p0 (wrap64 (p1 + 5))))]) ag134 sz134 rfl rfl) z1 z1 z4 (fun _ => rfl) fun _ => ?_
   refine HQ.opN [1] [1] [] (OT.storeC (cs' := [vI t3.1, vI (IntKind.i64.wrap (gt p0 (wrap64 (p1 + 2)))), vI (IntKind.i64.wrap (gt p0 (wrap64 (p1 + 3)))), vI (IntKind.i64.wrap (gt p0 (wrap64 (p1 + 4)))), vI (IntKind.i64.wrap (gt p0 (wrap64 (p1 + 5))))]) sz134 rfl rfl rfl rfl rfl) z2 z1 rfl rfl rfl (fun _ => rfl) fun _ => ?_
   refine pu Pu.assign z1 z3 ?_
   refine HQ.done ?_
   refine HQ.keep [(4, _), (5, _)] z2 ?_
   refine HQ.ret ?_
   obtain rfl := Option.some.inj H
   exact HQ.fin (vs := [_, _]) Try.results135 () ⟨⟨_, _, 1, rfl, rfl, ag134, sz134, rfl⟩, rfl, trivial⟩ rfl [] trivial rfl

end Go.Proofs.Sx
