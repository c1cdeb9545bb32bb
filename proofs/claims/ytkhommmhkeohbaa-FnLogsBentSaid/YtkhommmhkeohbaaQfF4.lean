import Derived.Test.YtkhommmhkeohbaaQfF3
import Derived.KernelRfl
namespace Go.Proofs.Sx
open Go.RowKit
set_option linter.unusedVariables false
set_option linter.unusedSimpArgs false
set_option maxRecDepth 20000
set_option maxHeartbeats 1000000
theorem spec_EndCell_c {w : World} {k : Nat} {p0 : Int} {p1 : TTx} {a_0 : Option Addr} {c_0 : Nat} (hb_0 : BorS kTChange a_0 c_0 p1.Puts w.heap (Lt w Nil)) {r : (List Int)} (H : spec_EndCell k p0 p1 = some r) :
  Calls Try.prog 34 #[vI p0, .agg #[vI p1.Seq, vI p1.Root, vI p1.Size, vS a_0 p1.Puts c_0]] w (Rt w Nil (fun g : Option Addr × Nat => vS g.1 r g.2) (fun g => [OwnS kU8 g.1 g.2 r])) := by
 rw [spec_EndCell] at H
 refine Calls.enter0 (N := 32) (us := [_, _]) Try.func34 rfl rfl rfl ?_
 refine HQ.rseq ?_
 refine op [] [1] (OT.box (cs := [vI p1.Seq, vI p1.Root, vI p1.Size, vS a_0 p1.Puts c_0]) rfl) z1 trivial z4 (fun _ => rfl) fun b1 => ?_
 refine pu Pu.assign z1 z3 ?_
 refine HQ.done ?_
 refine HQ.keep [(0, _), (3, _), (4, _)] z3 ?_
 refine HQ.seq ?_
 refine HQ.rseq ?_
 refine pu Pu.move z1 z3 ?_
 obtain ⟨t2, h3, H⟩ := bnd H
 refine op [] [] (OT.call (us := [_, _, _]) (Pre := []) [.tmp 5, .const (vI 0), .const (vI 65535)] Try.call89 rfl rfl fun w F hs hF hp => spec_l1In_c h3) z4 trivial z4 (fun _ => rfl) fun _ => ?_
 refine pu Pu.not z1 z3 ?_
 refine pu Pu.move z1 z3 ?_
 obtain ⟨c7, h8, H⟩ := bnd H
 refine HQ.cutAt 4 [(12, .bool c7), (0, vI p0), (3, BP b1 0), (4, .slice none 0 0)] [(1, Box b1 [vI p1.Seq, vI p1.Root, vI p1.Size, vS a_0 p1.Puts c_0])] ?_ ?_
 ·clear H
  have H := h8
  rcases brk H with ⟨hg4, H⟩ | ⟨hg4, H⟩
  ·obtain rfl := Option.some.inj H
   refine HQ.off rfl rfl hg4 rfl ?_
   refine HQ.off rfl rfl hg4 rfl ?_
   refine HQ.off rfl rfl hg4 rfl ?_
   refine pu (Pu.pickC1 hg4) z2 z3 ?_
   exact HQ.mid z4 z1 rfl
  ·refine HQ.on rfl rfl hg4 ?_
   refine op [1] [1] (OT.loadBA (vs := [vI p1.Seq, vI p1.Root, vI p1.Size, vS a_0 p1.Puts c_0]) ag57 sz57 rfl rfl) z1 z1 z4 (fun _ => rfl) fun _ => ?_
   refine HQ.on rfl rfl hg4 ?_
   obtain ⟨t5, h6, H⟩ := bnd H
   refine op [] [] (OT.call (us := [_]) (Pre := []) [.tmp 9] Try.call36 rfl rfl fun w F hs hF hp => spec_TxOk_c (hb_0.pass hp) h6) z2 trivial z4 (fun _ => rfl) fun _ => ?_
   refine HQ.on rfl rfl hg4 ?_
   refine pu Pu.not z1 z3 ?_
   obtain rfl := Option.some.inj H
   refine pu (Pu.pickC0 hg4) z2 z3 ?_
   exact HQ.mid z4 z1 rfl
 refine HQ.done ?_
 refine HQ.keep [(12, _), (0, _), (3, _), (4, _)] z4 ?_
 rcases brk H with ⟨hc, H⟩ | ⟨hc, H⟩
 ·refine HQ.condT rfl hc ?_
  clear hc
  refine HQ.rseq ?_
  refine op [] [2] (OT.buildF (us := []) (ys := ([] : (List Int))) (enc := (encI .u8)) (hl := fun _ => ⟨rfl, rfl⟩) [] sl22.ul sl22.szE sl22.zc rfl rfl rfl rfl rfl) trivial trivial z4 (fun _ => rfl) fun ⟨a9, c10⟩ => ?_
  refine pu Pu.assign z1 z3 ?_
  refine HQ.done ?_
  refine HQ.keep [(0, _), (3, _), (4, _)] z3 ?_
  refine HQ.ret ?_
  refine HQ.thenR ?_
  obtain rfl := Option.some.inj H
  exact HQ.fin (vs := [_]) Try.results34 (a9, c10) z1 rfl [2] z1 rfl
 ·refine HQ.condF rfl hc ?_
  clear hc
  refine HQ.skipThen ?_
  obtain ⟨t14, h15, H⟩ := bnd H
  obtain ⟨t18, h19, H⟩ := bnd H
  refine HQ.drawS mixd [(0, vI p0), (3, BP b1 0), (4, .slice none 0 0)] 17 [⟨[], [0], []⟩, ⟨[], [], []⟩, ⟨[0], [1, 0], [0, 1]⟩, ⟨[], [], []⟩, ⟨[2], [2], [3]⟩, ⟨[1], [3, 1], [2, 4]⟩, ⟨[], [], []⟩, ⟨[2], [2], [6]⟩, ⟨[], [], [7]⟩, ⟨[], [], []⟩, ⟨[2], [2], [9]⟩, ⟨[], [], [10]⟩, ⟨[], [], []⟩, ⟨[2], [2], [12]⟩, ⟨[], [], [13]⟩, ⟨[], [], [14]⟩, ⟨[], [4], [8, 11, 15]⟩] [⟨some 0, none⟩, ⟨some 2, none⟩, ⟨none, none⟩, ⟨some 5, none⟩, ⟨some 16, none⟩] (fun (g11 : (Option Addr × Nat) × (Option Addr × Nat) × (Option Addr × Nat) × (Option Addr × Nat)) => [vS g11.1.1 ([2] : (List Int)) g11.1.2, vI p0, vS g11.2.1.1 t14 g11.2.1.2, BP b1 0, vI p1.Seq, vS g11.2.2.1.1 t18 g11.2.2.1.2, BP b1 1, vI p1.Root, .int .u8 (IntKind.u8.wrap p1.Root), BP b1 2, vI p1.Size, .int .u8 (IntKind.u8.wrap p1.Size), BP b1 3, vS a_0 p1.Puts c_0, vI ((List.length p1.Puts : Nat) : Int), .int .u8 (IntKind.u8.wrap ((List.length p1.Puts : Nat) : Int)), vS g11.2.2.2.1 ([(IntKind.u8.wrap p1.Root), (IntKind.u8.wrap p1.Size), (IntKind.u8.wrap ((List.length p1.Puts : Nat) : Int))] : (List Int)) g11.2.2.2.2]) (fun (g11 : (Option Addr × Nat) × (Option Addr × Nat) × (Option Addr × Nat) × (Option Addr × Nat)) => [OwnS kU8 g11.1.1 g11.1.2 ([2] : (List Int)), OwnS kU8 g11.2.1.1 g11.2.1.2 t14, Box b1 [vI p1.Seq, vI p1.Root, vI p1.Size, vS a_0 p1.Puts c_0], OwnS kU8 g11.2.2.1.1 g11.2.2.1.2 t18, OwnS kU8 g11.2.2.2.1 g11.2.2.2.2 ([(IntKind.u8.wrap p1.Root), (IntKind.u8.wrap p1.Size), (IntKind.u8.wrap ((List.length p1.Puts : Nat) : Int))] : (List Int))]) ((none, 0), (none, 0), (none, 0), (none, 0)) [1] [3, 4, 1, 5, 6] [] z3 z1 rfl (by kernel_rfl) (fun _ => rfl) (by kernel_rfl) (fun _ => rfl) ⟨?_, ?_, ?_, ?_, ?_, ?_, ?_, ?_, ?_, ?_, ?_, ?_, ?_, ?_, ?_, ?_, ?_, trivial⟩ fun g11 => ?_
  ·exact OpOK.of (fun g11 => [(.const (.int .u8 2), .int .u8 2)]) _ _ (fun g11 x => (x, g11.2.1, g11.2.2.1, g11.2.2.2)) rfl rfl (fun _ => z1) (fun g11 => OT.buildF (us := [.int .u8 2]) (ys := ([2] : (List Int))) (enc := (encI .u8)) (hl := fun _ => ⟨rfl, rfl⟩) [.const (.int .u8 2)] sl22.ul sl22.szE sl22.zc rfl rfl rfl rfl rfl) (fun _ _ => z7)
  ·exact OpOK.pu (fun g11 => [(.tmp 0, vI p0)]) z2 (fun _ => z1) (fun _ => Pu.move) (fun _ => z1) (fun _ _ => z7)
  ·exact OpOK.of (fun g11 => [(.func 106, .func (.func 106) #[] #[]), (.tmp 14, vS g11.1.1 ([2] : (List Int)) g11.1.2), (.tmp 15, vI p0)]) _ _ (fun g11 x => (g11.1, x, g11.2.2.1, g11.2.2.2)) rfl rfl (fun _ => z3) (fun g11 => OT.call (us := [_, _]) (Pre := [OwnS kU8 g11.1.1 g11.1.2 ([2] : (List Int))]) [.tmp 14, .tmp 15] Try.call106 rfl rfl fun w F hs hF hp => spec_Put2_c (hs.lend hF 0 rfl) h15) (fun _ _ => z7)
  ·exact OpOK.pu (fun g11 => [(.tmp 3, BP b1 0)]) z2 (fun _ => z1) (fun _ => (Pu.fieldB fo57_0 rfl)) (fun _ => z1) (fun _ _ => z7)
  ·exact OpOK.of (fun g11 => [(.tmp 17, BP b1 0)]) _ _ (fun g11 _ => g11) rfl rfl (fun _ => z1) (fun g11 => OT.loadB sc3 rfl) (fun _ _ => z7)
  ·exact OpOK.of (fun g11 => [(.func 106, .func (.func 106) #[] #[]), (.tmp 16, vS g11.2.1.1 t14 g11.2.1.2), (.tmp 18, vI p1.Seq)]) _ _ (fun g11 x => (g11.1, g11.2.1, x, g11.2.2.2)) rfl rfl (fun _ => z3) (fun g11 => OT.call (us := [_, _]) (Pre := [OwnS kU8 g11.2.1.1 g11.2.1.2 t14]) [.tmp 16, .tmp 18] Try.call106 rfl rfl fun w F hs hF hp => spec_Put2_c (hs.lend hF 0 rfl) h19) (fun _ _ => z7)
  ·exact OpOK.pu (fun g11 => [(.tmp 3, BP b1 0)]) z2 (fun _ => z1) (fun _ => (Pu.fieldB fo57_1 rfl)) (fun _ => z1) (fun _ _ => z7)
  ·exact OpOK.of (fun g11 => [(.tmp 20, BP b1 1)]) _ _ (fun g11 _ => g11) rfl rfl (fun _ => z1) (fun g11 => OT.loadB sc3 rfl) (fun _ _ => z7)
  ·exact OpOK.pu (fun g11 => [(.tmp 21, vI p1.Root)]) z2 (fun _ => z1) (fun _ => (Pu.conv ul3 ul5)) (fun _ => z1) (fun _ _ => z7)
  ·exact OpOK.pu (fun g11 => [(.tmp 3, BP b1 0)]) z2 (fun _ => z1) (fun _ => (Pu.fieldB fo57_2 rfl)) (fun _ => z1) (fun _ _ => z7)
  ·exact OpOK.of (fun g11 => [(.tmp 23, BP b1 2)]) _ _ (fun g11 _ => g11) rfl rfl (fun _ => z1) (fun g11 => OT.loadB sc3 rfl) (fun _ _ => z7)
  ·exact OpOK.pu (fun g11 => [(.tmp 24, vI p1.Size)]) z2 (fun _ => z1) (fun _ => (Pu.conv ul3 ul5)) (fun _ => z1) (fun _ _ => z7)
  ·exact OpOK.pu (fun g11 => [(.tmp 3, BP b1 0)]) z2 (fun _ => z1) (fun _ => (Pu.fieldB fo57_3 rfl)) (fun _ => z1) (fun _ _ => z7)
  ·exact OpOK.of (fun g11 => [(.tmp 26, BP b1 3)]) _ _ (fun g11 _ => g11) rfl rfl (fun _ => z1) (fun g11 => OT.loadB sc55 rfl) (fun _ _ => z7)
  ·exact OpOK.pu (fun g11 => [(.tmp 27, vS a_0 p1.Puts c_0)]) z2 (fun _ => z1) (fun _ => (Pu.len ul55)) (fun _ => z1) (fun _ _ => z7)
  ·exact OpOK.pu (fun g11 => [(.tmp 28, vI ((List.length p1.Puts : Nat) : Int))]) z2 (fun _ => z1) (fun _ => (Pu.conv ul3 ul5)) (fun _ => z1) (fun _ _ => z7)
  ·exact OpOK.of (fun g11 => [(.tmp 22, .int .u8 (IntKind.u8.wrap p1.Root)), (.tmp 25, .int .u8 (IntKind.u8.wrap p1.Size)), (.tmp 29, .int .u8 (IntKind.u8.wrap ((List.length p1.Puts : Nat) : Int)))]) _ _ (fun g11 x => (g11.1, g11.2.1, g11.2.2.1, x)) rfl rfl (fun _ => z3) (fun g11 => OT.buildF (us := [.int .u8 (IntKind.u8.wrap p1.Root), .int .u8 (IntKind.u8.wrap p1.Size), .int .u8 (IntKind.u8.wrap ((List.length p1.Puts : Nat) : Int))]) (ys := ([(IntKind.u8.wrap p1.Root), (IntKind.u8.wrap p1.Size), (IntKind.u8.wrap ((List.length p1.Puts : Nat) : Int))] : (List Int))) (enc := (encI .u8)) (hl := fun _ => ⟨rfl, rfl⟩) [.tmp 22, .tmp 25, .tmp 29] sl22.ul sl22.szE sl22.zc rfl rfl rfl rfl rfl) (fun _ _ => z7)
  refine HQ.keep [(4, _), (19, _), (30, _)] z3 ?_
  refine HQ.keepR [(1, _), (3, _), (4, _), (5, _), (6, _)] z5 rfl ?_
  obtain ⟨h26, H⟩ := asr H
  refine op [5, 6] [5, 6] (OT.appendG (enc := (encI .u8)) (hl := fun _ => ⟨rfl, rfl⟩) sl22 ul22 h26) z2 z2 z4 (fun _ => rfl) fun ⟨a24, c25⟩ => ?_
  refine pu Pu.assign z1 z3 ?_
  refine HQ.done ?_
  refine HQ.keep [(4, _)] z1 ?_
  refine HQ.ret ?_
  obtain rfl := Option.some.inj H
  exact HQ.fin (vs := [_]) Try.results34 (a24, c25) z1 rfl [5] z1 rfl

theorem spec_TxCells_c {w : World} {k : Nat} {p0 : Int} {p1 : TTx} {a_0 : Option Addr} {c_0 : Nat} (hb_0 : BorS kTChange a_0 c_0 p1.Puts w.heap (Lt w Nil)) {r : (List (List Int))} (H : spec_TxCells k p0 p1 = some r) :
  Calls Try.prog 65 #[vI p0, .agg #[vI p1.Seq, vI p1.Root, vI p1.Size, vS a_0 p1.Puts c_0]] w (Rt w Nil (fun g : Option Addr × Nat => vS g.1 r g.2) (fun g => [OwnS (kS kU8) g.1 g.2 r])) := by
 rw [spec_TxCells] at H
 refine Calls.enter0 (N := 40) (us := [_, _]) Try.func65 rfl rfl rfl ?_
 refine HQ.rseq ?_
 refine op [] [1] (OT.box (cs := [vI p1.Seq, vI p1.Root, vI p1.Size, vS a_0 p1.Puts c_0]) rfl) z1 trivial z4 (fun _ => rfl) fun b1 => ?_
 refine pu Pu.assign z1 z3 ?_
 refine HQ.done ?_
 refine HQ.keep [(0, _), (3, _), (4, _)] z3 ?_
 refine HQ.rseq ?_
 refine op [] [2] (OT.buildE (K := (kS kU8)) sl91.ul sl91.szE sl91.zc rfl rfl) trivial trivial z4 (fun _ => rfl) fun ⟨a2, c3⟩ => ?_
 refine pu Pu.assign z1 z3 ?_
 refine HQ.done ?_
 refine HQ.keep [(0, _), (3, _), (4, _), (5, _)] z4 ?_
 refine HQ.seq ?_
 refine HQ.rseq ?_
 refine pu Pu.move z1 z3 ?_
 obtain ⟨t4, h5, H⟩ := bnd H
 refine op [] [] (OT.call (us := [_, _, _]) (Pre := []) [.tmp 8, .const (vI 0), .const (vI 65535)] Try.call89 rfl rfl fun w F hs hF hp => spec_l1In_c h5) z4 trivial z4 (fun _ => rfl) fun _ => ?_
 refine pu Pu.not z1 z3 ?_
 refine pu Pu.move z1 z3 ?_
 obtain ⟨c9, h10, H⟩ := bnd H
 refine HQ.cutAt 4 [(15, .bool c9), (0, vI p0), (3, BP b1 0), (4, .slice none 0 0), (5, vS a2 ([] : (List (List Int))) c3)] [(1, Box b1 [vI p1.Seq, vI p1.Root, vI p1.Size, vS a_0 p1.Puts c_0]), (2, OwnS (kS kU8) a2 c3 ([] : (List (List Int))))] ?_ ?_
 ·clear H
  have H := h10
  rcases brk H with ⟨hg6, H⟩ | ⟨hg6, H⟩
  ·obtain rfl := Option.some.inj H
   refine HQ.off rfl rfl hg6 rfl ?_
   refine HQ.off rfl rfl hg6 rfl ?_
   refine HQ.off rfl rfl hg6 rfl ?_
   refine pu (Pu.pickC1 hg6) z2 z3 ?_
   exact HQ.mid z5 z2 rfl
  ·refine HQ.on rfl rfl hg6 ?_
   refine op [1] [1] (OT.loadBA (vs := [vI p1.Seq, vI p1.Root, vI p1.Size, vS a_0 p1.Puts c_0]) ag57 sz57 rfl rfl) z1 z1 z4 (fun _ => rfl) fun _ => ?_
   refine HQ.on rfl rfl hg6 ?_
   obtain ⟨t7, h8, H⟩ := bnd H
   refine op [] [] (OT.call (us := [_]) (Pre := []) [.tmp 12] Try.call36 rfl rfl fun w F hs hF hp => spec_TxOk_c (hb_0.pass hp) h8) z2 trivial z4 (fun _ => rfl) fun _ => ?_
   refine HQ.on rfl rfl hg6 ?_
   refine pu Pu.not z1 z3 ?_
   obtain rfl := Option.some.inj H
   refine pu (Pu.pickC0 hg6) z2 z3 ?_
   exact HQ.mid z5 z2 rfl
 refine HQ.done ?_
 refine HQ.keep [(15, _), (0, _), (3, _), (4, _), (5, _)] z5 ?_
 rcases brk H with ⟨hc, H⟩ | ⟨hc, H⟩
 ·refine HQ.condT rfl hc ?_
  clear hc
  refine HQ.rseq ?_
  refine pu Pu.move z1 z3 ?_
  refine pu Pu.assign z1 z3 ?_
  refine HQ.done ?_
  refine HQ.keep [(0, _), (3, _), (4, _), (5, _)] z4 ?_
  refine HQ.ret ?_
  refine HQ.thenR ?_
  obtain rfl := Option.some.inj H
  exact HQ.fin (vs := [_]) Try.results65 (a2, c3) z1 rfl [2] z1 rfl
 ·refine HQ.condF rfl hc ?_
  clear hc
  refine HQ.skipThen ?_
  refine HQ.seq ?_
  refine HQ.rseq ?_
  refine pu Pu.assign z1 z3 ?_
  refine HQ.done ?_
  refine HQ.keep [(0, _), (3, _), (4, _), (5, _), (6, _)] z5 ?_
  refine HQ.block ?_
  obtain ⟨o57, h71, H⟩ := bnd H
  refine HQ.loop h71 0 (fun (s : (List (List Int)) × Int) (g : Option Addr × Nat) => match s, g with | (l25, i28), (a26, c27) => [(0, vI p0), (3, BP b1 0), (4, .slice none 0 0), (5, vS a26 l25 c27), (6, vI i28)]) (fun (s : (List (List Int)) × Int) (g : Option Addr × Nat) => match s, g with | (l25, i28), (a26, c27) => [(1, Box b1 [vI p1.Seq, vI p1.Root, vI p1.Size, vS a_0 p1.Puts c_0]), (2, OwnS (kS kU8) a26 c27 l25)]) (fun _ _ _ => False) (a2, c3) z5 z2 rfl ?_ ?_ ?_
  ·clear H h71
   rintro ⟨l25, i28⟩ ⟨a26, c27⟩ o H
   rw [spec_TxCells_b0] at H
   refine HQ.keep [(0, _), (3, _), (4, _), (5, _), (6, _)] z5 ?_
   refine HQ.keepR [(1, _), (2, _)] z2 rfl ?_
   refine HQ.seq ?_
   refine HQ.rseq ?_
   refine pu Pu.move z1 z3 ?_
   refine pu (Pu.fieldB fo57_3 rfl) z1 z3 ?_
   refine op [1] [1] (OT.loadB sc55 rfl) z1 z1 z4 (fun _ => rfl) fun _ => ?_
   refine pu (Pu.len ul55) z1 z3 ?_
   refine pu Pu.lss z2 z3 ?_
   refine HQ.done ?_
   refine HQ.keep [(0, _), (3, _), (4, _), (5, _), (6, _), (21, _)] z6 ?_
   rcases brk H with ⟨hc, H⟩ | ⟨hc, H⟩
   ·refine HQ.condT rfl hc ?_
    clear hc
    refine HQ.skipThen ?_
    refine HQ.seq ?_
    refine HQ.block ?_
    refine HQ.regionQ ?_
    refine pu Pu.move z1 z3 ?_
    refine pu Pu.move z1 z3 ?_
    refine pu (Pu.fieldB fo57_3 rfl) z1 z3 ?_
    refine op [1] [1] (OT.loadB sc55 rfl) z1 z1 z4 (fun _ => rfl) fun _ => ?_
    refine pu Pu.move z1 z3 ?_
    obtain ⟨h43, H⟩ := asr H
    refine op [] [] (OT.indexB ul55 sz49 hb_0 h43) z2 trivial z4 (fun _ => rfl) fun _ => ?_
    obtain ⟨⟨a44, c45⟩, hb46, hn47⟩ := BorS.nest hb_0 h43
    refine op [] [] (OT.loadNA (vs := [vI ((gt p1.Puts i28).Page), .bool ((gt p1.Puts i28).N.Leaf), vS a44 ((gt p1.Puts i28).N.L) c45]) ag49 sz49 hn47 hlTChange rfl rfl) z1 trivial z4 (fun _ => rfl) fun _ => ?_
    obtain ⟨t48, h49, H⟩ := bnd H
    refine op [] [7] (OT.call (us := [_, _]) (Pre := []) [.tmp 25, .tmp 30] Try.call33 rfl rfl fun w F hs hF hp => spec_PutCell_c (hb46.pass hp) h49) z3 trivial z4 (fun _ => rfl) fun ⟨a50, c51⟩ => ?_
    refine HQ.opD [7] [8] [7] (OT.buildO (u := vS a50 t48 c51) (enc := (fun _ v => [v])) (hl := fun _ v hv => ⟨rfl, by simp [hv]⟩) (sub := id) (.tmp 31) t48 sl91.ul sl91.szE sl91.zc rfl rfl rfl rfl) z1 z1 rfl rfl rfl rfl (fun _ => rfl) fun ⟨a52, c53⟩ => ?_
    obtain ⟨h56, H⟩ := asr H
    refine HQ.opD [2, 8] [2] [8] (OT.appendO (K := (kS kU8)) sl91 ul91 h56) z2 z2 rfl rfl rfl rfl (fun _ => rfl) fun ⟨a54, c55⟩ => ?_
    refine pu Pu.assign z1 z3 ?_
    refine HQ.done ?_
    refine HQ.keep [(0, _), (3, _), (4, _), (5, _), (6, _)] z5 ?_
    refine HQ.blkN ?_
    refine HQ.thenN ?_
    refine HQ.regionQ ?_
    refine pu Pu.move z1 z3 ?_
    refine pu Pu.add z2 z3 ?_
    refine pu Pu.assign z1 z3 ?_
    refine HQ.done ?_
    refine HQ.keep [(0, _), (3, _), (4, _), (5, _), (6, _)] z5 ?_
    obtain rfl := Option.some.inj H
    exact HQ.next (a54, c55) z5 z2 rfl
   ·refine HQ.condF rfl hc ?_
    clear hc
    refine HQ.exit ?_
    refine HQ.thenE ?_
    obtain rfl := Option.some.inj H
    exact HQ.out (a26, c27) z5 z2 rfl
  ·rintro ⟨l58, i61⟩ rfl ⟨a59, c60⟩
   clear h71
   replace H := H
   refine HQ.keep [(0, _), (3, _), (4, _), (5, _), (6, _)] z5 ?_
   refine HQ.keepR [(1, _), (2, _)] z2 rfl ?_
   refine HQ.blkE ?_
   refine HQ.thenN ?_
   refine HQ.rseq ?_
   refine pu Pu.move z1 z3 ?_
   refine pu Pu.move z1 z3 ?_
   refine op [1] [1] (OT.loadBA (vs := [vI p1.Seq, vI p1.Root, vI p1.Size, vS a_0 p1.Puts c_0]) ag57 sz57 rfl rfl) z1 z1 z4 (fun _ => rfl) fun _ => ?_
   obtain ⟨t62, h63, H⟩ := bnd H
   refine op [] [9] (OT.call (us := [_, _]) (Pre := []) [.tmp 35, .tmp 36] Try.call34 rfl rfl fun w F hs hF hp => spec_EndCell_c (hb_0.pass hp) h63) z3 trivial z4 (fun _ => rfl) fun ⟨a64, c65⟩ => ?_
   refine HQ.opD [9] [10] [9] (OT.buildO (u := vS a64 t62 c65) (enc := (fun _ v => [v])) (hl := fun _ v hv => ⟨rfl, by simp [hv]⟩) (sub := id) (.tmp 37) t62 sl91.ul sl91.szE sl91.zc rfl rfl rfl rfl) z1 z1 rfl rfl rfl rfl (fun _ => rfl) fun ⟨a66, c67⟩ => ?_
   obtain ⟨h70, H⟩ := asr H
   refine HQ.opD [2, 10] [2] [10] (OT.appendO (K := (kS kU8)) sl91 ul91 h70) z2 z2 rfl rfl rfl rfl (fun _ => rfl) fun ⟨a68, c69⟩ => ?_
   refine pu Pu.assign z1 z3 ?_
   refine HQ.done ?_
   refine HQ.keep [(4, _)] z1 ?_
   refine HQ.ret ?_
   obtain rfl := Option.some.inj H
   exact HQ.fin (vs := [_]) Try.results65 (a68, c69) z1 rfl [2] z1 rfl
  ·exact fun r h a w hf => hf.elim

theorem spec_l18Burn_c {w : World} {p0 : TDisk} {β_0 : Nat} {a_0 : Option Addr} {c_0 : Nat} {a_1 : Option Addr} {c_1 : Nat} {F0 : Fp} (hs0 : Sat [Box β_0 [vS a_0 p0.Cells c_0, vS a_1 p0.Wet c_1, vI p0.Fuse, .bool p0.Dead]] w.heap F0) (hF0 : ∀ b, F0 b → b < w.heap.size)  {r : Bool × TDisk} (H : spec_l18Burn p0 = some r) :
  Calls Try.prog 91 #[BP β_0 0] w (Rt w F0 (fun _ : Unit => .bool r.1) (fun _ => [Box β_0 [vS a_0 p0.Cells c_0, vS a_1 p0.Wet c_1, vI r.2.Fuse, .bool r.2.Dead]])) := by
 rw [spec_l18Burn] at H
 refine Calls.enter (N := 28) (us := [_]) (F0 := F0) (Γ0 := [(1, Box β_0 [vS a_0 p0.Cells c_0, vS a_1 p0.Wet c_1, vI p0.Fuse, .bool p0.Dead])]) Try.func91 rfl rfl rfl hs0 hF0 ?_
 refine HQ.rseq ?_
 refine pu Pu.assign z1 z3 ?_
 refine HQ.done ?_
 refine HQ.keep [(0, _), (2, _)] z2 ?_
 refine HQ.seq ?_
 refine HQ.rseq ?_
 refine pu Pu.move z1 z3 ?_
 refine pu Pu.nilCheck z1 z3 ?_
 refine pu (Pu.fieldB fo27_3 rfl) z1 z3 ?_
 refine op [1] [1] (OT.loadB sc4 rfl) z1 z1 z4 (fun _ => rfl) fun _ => ?_
 refine HQ.done ?_
 refine HQ.keep [(0, _), (2, _), (6, _)] z3 ?_
 rcases brk H with ⟨hc, H⟩ | ⟨hc, H⟩
 ·refine HQ.condT rfl hc ?_
  clear hc
  refine HQ.rseq ?_
  refine pu Pu.assign z1 z3 ?_
  refine HQ.done ?_
  refine HQ.keep [(0, _), (2, _)] z2 ?_
  refine HQ.ret ?_
  refine HQ.thenR ?_
  obtain rfl := Option.some.inj H
  exact HQ.fin (vs := [_]) Try.results91 () z1 rfl [1] z1 rfl
 ·refine HQ.condF rfl hc ?_
  clear hc
  refine HQ.skipThen ?_
  refine HQ.seq ?_
  refine HQ.rseq ?_
  refine pu Pu.move z1 z3 ?_
  refine pu Pu.nilCheck z1 z3 ?_
  refine pu (Pu.fieldB fo27_2 rfl) z1 z3 ?_
  refine op [1] [1] (OT.loadB sc3 rfl) z1 z1 z4 (fun _ => rfl) fun _ => ?_
  refine pu Pu.eql z2 z3 ?_
  refine HQ.done ?_
  refine HQ.keep [(0, _), (2, _), (11, _)] z3 ?_
  rcases brk H with ⟨hc, H⟩ | ⟨hc, H⟩
  ·refine HQ.condT rfl hc ?_
   clear hc
   refine HQ.rseq ?_
   refine pu Pu.move z1 z3 ?_
   refine pu Pu.nilCheck z1 z3 ?_
   refine pu (Pu.fieldB fo27_3 rfl) z1 z3 ?_
   refine HQ.opN [1] [1] [] (OT.storeC (cs' := [vS a_0 p0.Cells c_0, vS a_1 p0.Wet c_1, vI p0.Fuse, .bool true]) sz4 rfl rfl rfl rfl rfl) z2 z1 rfl rfl rfl (fun _ => rfl) fun _ => ?_
   refine HQ.done ?_
   refine HQ.keep [(0, _), (2, _)] z2 ?_
   refine HQ.rseq ?_
   refine pu Pu.assign z1 z3 ?_
   refine HQ.done ?_
   refine HQ.keep [(0, _), (2, _)] z2 ?_
   refine HQ.ret ?_
   refine HQ.thenR ?_
   obtain rfl := Option.some.inj H
   exact HQ.fin (vs := [_]) Try.results91 () z1 rfl [1] z1 rfl
  ·refine HQ.condF rfl hc ?_
   clear hc
   refine HQ.skipThen ?_
   refine HQ.seq ?_
   refine HQ.rseq ?_
   refine pu Pu.move z1 z3 ?_
   refine pu Pu.nilCheck z1 z3 ?_
   refine pu (Pu.fieldB fo27_2 rfl) z1 z3 ?_
   refine op [1] [1] (OT.loadB sc3 rfl) z1 z1 z4 (fun _ => rfl) fun _ => ?_
   refine pu Pu.gtr z2 z3 ?_
   refine HQ.done ?_
   refine HQ.keep [(0, _), (2, _), (19, _)] z3 ?_
   rcases brk H with ⟨hc, H⟩ | ⟨hc, H⟩
   ·refine HQ.condT rfl hc ?_
    clear hc
    refine HQ.region ?_
    refine pu Pu.move z1 z3 ?_
    refine pu Pu.move z1 z3 ?_
    refine pu Pu.nilCheck z1 z3 ?_
    refine pu (Pu.fieldB fo27_2 rfl) z1 z3 ?_
    refine op [1] [1] (OT.loadB sc3 rfl) z1 z1 z4 (fun _ => rfl) fun _ => ?_
    refine pu Pu.sub z2 z3 ?_
    refine pu Pu.nilCheck z1 z3 ?_
    refine pu (Pu.fieldB fo27_2 rfl) z1 z3 ?_
    refine HQ.opN [1] [1] [] (OT.storeC (cs' := [vS a_0 p0.Cells c_0, vS a_1 p0.Wet c_1, vI (wrap64 (p0.Fuse - 1)), .bool p0.Dead]) sz3 rfl rfl rfl rfl rfl) z2 z1 rfl rfl rfl (fun _ => rfl) fun _ => ?_
    refine HQ.done ?_
    refine HQ.keep [(2, _)] z1 ?_
    refine HQ.rseq ?_
    refine pu Pu.assign z1 z3 ?_
    refine HQ.done ?_
    refine HQ.keep [(2, _)] z1 ?_
    refine HQ.ret ?_
    obtain rfl := Option.some.inj H
    exact HQ.fin (vs := [_]) Try.results91 () z1 rfl [1] z1 rfl
   ·refine HQ.condF rfl hc ?_
    clear hc
    refine HQ.skipThen ?_
    refine HQ.rseq ?_
    refine pu Pu.assign z1 z3 ?_
    refine HQ.done ?_
    refine HQ.keep [(2, _)] z1 ?_
    refine HQ.ret ?_
    obtain rfl := Option.some.inj H
    exact HQ.fin (vs := [_]) Try.results91 () z1 rfl [1] z1 rfl

theorem spec_Write_c {w : World} {k : Nat} {p0 : TDisk} {p1 : Int} {p2 : (List Int)} {a_0 : Option Addr} {c_0 : Nat} {a_1 : Option Addr} {c_1 : Nat} {a_2 : Option Addr} {c_2 : Nat} (hb_0 : BorS kTCell a_0 c_0 p0.Cells w.heap (Lt w Nil)) (hb_1 : BorS kTWet a_1 c_1 p0.Wet w.heap (Lt w Nil)) (hb_2 : BorS kU8 a_2 c_2 p2 w.heap (Lt w Nil)) {r : TDisk} (H : spec_Write k p0 p1 p2 = some r) :
  Calls Try.prog 20 #[.agg #[vS a_0 p0.Cells c_0, vS a_1 p0.Wet c_1, vI p0.Fuse, .bool p0.Dead], vI p1, vS a_2 p2 c_2] w (Rt w Nil (fun g : (Option Addr × Nat) × (Option Addr × Nat) => .agg #[vS g.1.1 r.Cells g.1.2, vS g.2.1 r.Wet g.2.2, vI r.Fuse, .bool r.Dead]) (fun g => [OwnS kTCell g.1.1 g.1.2 r.Cells, OwnS kTWet g.2.1 g.2.2 r.Wet])) := by
 rw [spec_Write] at H
 refine Calls.enter0 (N := 30) (us := [_, _, _]) Try.func20 rfl rfl rfl ?_
 refine HQ.rseq ?_
 refine op [] [1] (OT.box (cs := [vS a_0 p0.Cells c_0, vS a_1 p0.Wet c_1, vI p0.Fuse, .bool p0.Dead]) rfl) z1 trivial z4 (fun _ => rfl) fun b1 => ?_
 refine op [] [2] (OT.alloc zc27) trivial trivial z4 (fun _ => rfl) fun b2 => ?_
 refine HQ.done ?_
 refine HQ.keep [(1, _), (2, _), (3, _), (6, _)] z4 ?_
 refine HQ.rseq ?_
 refine op [1] [1] (OT.loadBA (vs := [vS a_0 p0.Cells c_0, vS a_1 p0.Wet c_1, vI p0.Fuse, .bool p0.Dead]) ag27 sz27 rfl rfl) z1 z1 z4 (fun _ => rfl) fun _ => ?_
 obtain ⟨t3, h4, H⟩ := bnd H
 refine op [] [3, 4] (OT.call (us := [_]) (Pre := []) [.tmp 8] Try.call90 rfl rfl fun w F hs hF hp => spec_l18Copy_c (hb_0.pass hp) (hb_1.pass hp) h4) z2 trivial z4 (fun _ => rfl) fun ⟨⟨a5, c6⟩, ⟨a7, c8⟩⟩ => ?_
 refine op [] [5] (OT.alloc zc27) trivial trivial z4 (fun _ => rfl) fun b9 => ?_
 refine HQ.opN [5] [5] [] (OT.storeC (cs' := [vS a5 t3.Cells c6, vS a7 t3.Wet c8, vI t3.Fuse, .bool t3.Dead]) sz27 rfl rfl rfl rfl rfl) z2 z1 rfl rfl rfl (fun _ => rfl) fun _ => ?_
 refine HQ.done ?_
 refine HQ.keep [(1, _), (2, _), (6, _), (7, _)] z4 ?_
 refine HQ.seq ?_
 refine HQ.rseq ?_
 obtain ⟨t10, h11, H⟩ := bnd H
 refine op [5] [5] (OT.callM (us := [_]) (PreX := [Box b9 [vS a5 t3.Cells c6, vS a7 t3.Wet c8, vI t3.Fuse, .bool t3.Dead]]) (PreL := []) [.tmp 7] Try.call91 rfl rfl fun w FX FL hs1 hF1 hs2 hF2 hp => spec_l18Burn_c (p0 := t3) hs1 hF1 h11) z2 z1 z4 (fun _ => rfl) fun _ => ?_
 refine pu Pu.move z1 z3 ?_
 obtain ⟨c15, h16, H⟩ := bnd H
 refine HQ.cutAt 3 [(14, .bool c15), (1, vI p1), (2, vS a_2 p2 c_2), (6, BP b2 0), (7, BP b9 0)] [(1, Box b1 [vS a_0 p0.Cells c_0, vS a_1 p0.Wet c_1, vI p0.Fuse, .bool p0.Dead]), (2, Box b2 [.slice none 0 0, .slice none 0 0, vI 0, .bool false]), (3, OwnS kTCell a5 c6 t3.Cells), (4, OwnS kTWet a7 c8 t3.Wet), (5, Box b9 [vS a5 t3.Cells c6, vS a7 t3.Wet c8, vI t10.2.Fuse, .bool t10.2.Dead])] ?_ ?_
 ·clear H
  have H := h16
  rcases brk H with ⟨hg12, H⟩ | ⟨hg12, H⟩
  ·refine HQ.on rfl rfl hg12 ?_
   refine pu Pu.move z1 z3 ?_
   refine HQ.on rfl rfl hg12 ?_
   obtain ⟨t13, h14, H⟩ := bnd H
   refine op [] [] (OT.call (us := [_, _, _]) (Pre := []) [.tmp 12, .const (vI 0), .const (vI 113)] Try.call89 rfl rfl fun w F hs hF hp => spec_l1In_c h14) z4 trivial z4 (fun _ => rfl) fun _ => ?_
   obtain rfl := Option.some.inj H
   refine pu (Pu.pickC1 hg12) z2 z3 ?_
   exact HQ.mid z5 z5 rfl
  ·obtain rfl := Option.some.inj H
   refine HQ.off rfl rfl hg12 rfl ?_
   refine HQ.off rfl rfl hg12 rfl ?_
   refine pu (Pu.pickC0 hg12) z2 z3 ?_
   exact HQ.mid z5 z5 rfl
 refine pu Pu.move z1 z3 ?_
 refine HQ.cutAt 4 [(19, .bool (c15 && (decide (((List.length p2 : Nat) : Int) ≤ 32)))), (1, vI p1), (2, vS a_2 p2 c_2), (6, BP b2 0), (7, BP b9 0)] [(1, Box b1 [vS a_0 p0.Cells c_0, vS a_1 p0.Wet c_1, vI p0.Fuse, .bool p0.Dead]), (2, Box b2 [.slice none 0 0, .slice none 0 0, vI 0, .bool false]), (3, OwnS kTCell a5 c6 t3.Cells), (4, OwnS kTWet a7 c8 t3.Wet), (5, Box b9 [vS a5 t3.Cells c6, vS a7 t3.Wet c8, vI t10.2.Fuse, .bool t10.2.Dead])] ?_ ?_
 ·rcases Bool.eq_false_or_eq_true c15 with hg17 | hg17
  ·refine HQ.on rfl rfl hg17 ?_
   refine pu Pu.move z1 z3 ?_
   refine HQ.on rfl rfl hg17 ?_
   refine pu (Pu.len ul22) z1 z3 ?_
   refine HQ.on rfl rfl hg17 ?_
   refine pu Pu.leq z2 z3 ?_
   refine pu (Pu.pickAT hg17) z2 z3 ?_
   exact HQ.mid z5 z5 rfl
  ·refine HQ.off rfl rfl hg17 rfl ?_
   refine HQ.off rfl rfl hg17 rfl ?_
   refine HQ.off rfl rfl hg17 rfl ?_
   refine pu (Pu.pickAF (u := (decide (((List.length p2 : Nat) : Int) ≤ 32))) hg17) z2 z3 ?_
   exact HQ.mid z5 z5 rfl
 refine HQ.done ?_
 refine HQ.keep [(19, _), (1, _), (2, _), (6, _), (7, _)] z5 ?_
 rcases brk H with ⟨hc, H⟩ | ⟨hc, H⟩
 ·refine HQ.condT rfl hc ?_
  clear hc
  refine HQ.dStart mixd ?_
  obtain ⟨t19, h20, H⟩ := bnd H
  refine HQ.dPart [(1, vI p1), (2, vS a_2 p2 c_2), (6, BP b2 0), (7, BP b9 0)] 7 [⟨[], [], []⟩, ⟨[0], [0], [0]⟩, ⟨[], [], []⟩, ⟨[], [], []⟩, ⟨[], [1], [3]⟩, ⟨[], [], [2, 4]⟩, ⟨[1], [2], [5]⟩] [⟨none, none⟩, ⟨some 4, some 6⟩, ⟨some 6, none⟩] (fun (g18 : (Option Addr × Nat) × (Option Addr × Nat)) => [BP b9 1, vS a7 t3.Wet c8, vI p1, vS a_2 p2 c_2, vS g18.1.1 t19 g18.1.2, .agg #[vI p1, vS g18.1.1 t19 g18.1.2], vS g18.2.1 ([(⟨p1, t19⟩ : TWet)] : (List TWet)) g18.2.2]) (fun (g18 : (Option Addr × Nat) × (Option Addr × Nat)) => [Box b9 [vS a5 t3.Cells c6, vS a7 t3.Wet c8, vI t10.2.Fuse, .bool t10.2.Dead], OwnS kU8 g18.1.1 g18.1.2 t19, OwnS kTWet g18.2.1 g18.2.2 ([(⟨p1, t19⟩ : TWet)] : (List TWet))]) ((none, 0), (none, 0)) [5] [5, 7] [] z4 z1 rfl (by kernel_rfl) (by kernel_rfl) (fun _ => rfl) (by kernel_rfl) (fun _ => rfl) rfl ⟨?_, ?_, ?_, ?_, ?_, ?_, ?_, trivial⟩ fun g18 => ?_
  ·exact OpOK2.pu (fun g18 => [(.tmp 7, BP b9 0)]) z2 (fun _ => z1) (fun _ => (Pu.fieldB fo27_1 rfl)) (fun _ => z1) (fun _ _ => z5)
  ·exact OpOK2.of (fun g18 => [(.tmp 20, BP b9 1)]) _ _ (fun g18 _ => g18) rfl rfl (fun _ => z1) (fun g18 => OT.loadB sc25 rfl) (fun _ _ => z5)
  ·exact OpOK2.pu (fun g18 => [(.tmp 1, vI p1)]) z2 (fun _ => z1) (fun _ => Pu.move) (fun _ => z1) (fun _ _ => z5)
  ·exact OpOK2.pu (fun g18 => [(.tmp 2, vS a_2 p2 c_2)]) z2 (fun _ => z1) (fun _ => Pu.move) (fun _ => z1) (fun _ _ => z5)
  ·exact OpOK2.ofD [5] (by kernel_rfl) (fun g18 => [(.func 92, .func (.func 92) #[] #[]), (.tmp 23, vS a_2 p2 c_2), (.const (vI 32), vI 32)]) _ _ (fun g18 x => (x, g18.2)) rfl rfl (fun _ => z3) (fun g18 => OT.call (us := [_, _]) (Pre := []) [.tmp 23, .const (vI 32)] Try.call92 rfl rfl fun w F hs hF hp => spec_Pad_c (hb_2.pass hp) h20) (fun _ _ => ⟨⟨rfl, rfl, rfl, rfl, rfl, trivial, rfl, trivial⟩, rfl, z3⟩)
  ·exact OpOK2.pu (fun g18 => [(.tmp 22, vI p1), (.tmp 24, vS g18.1.1 t19 g18.1.2)]) z2 (fun _ => z2) (fun g18 => (Pu.build (us := [vI p1, vS g18.1.1 t19 g18.1.2]) (cs := [vI p1, vS g18.1.1 t19 g18.1.2]) [(0, .tmp 22), (1, .tmp 24)] st110 rfl rfl rfl)) (fun _ => z1) (fun _ _ => z5)
  ·exact OpOK2.of (fun g18 => [(.tmp 25, .agg #[vI p1, vS g18.1.1 t19 g18.1.2])]) _ _ (fun g18 x => (g18.1, x)) rfl rfl (fun _ => z1) (fun g18 => OT.buildO (u := .agg #[vI p1, vS g18.1.1 t19 g18.1.2]) (enc := encTWet) (hl := hlTWet) (sub := fun (x : TWet) => x.B) (.tmp 25) (⟨p1, t19⟩ : TWet) sl25.ul sl25.szE sl25.zc rfl rfl rfl rfl) (fun _ _ => z5)
  refine HQ.keep [(6, _), (7, _), (21, _), (26, _)] z4 ?_
  refine HQ.keepR [(1, _), (2, _), (3, _), (4, _), (5, _), (7, _)] z6 rfl ?_
  refine HQ.dRun 3 rfl rfl (by kernel_rfl) (by kernel_rfl) ?_
  obtain ⟨h27, H⟩ := asr H
  refine HQ.opD [4, 7] [4] [7] (OT.appendO (K := kTWet) sl25 ul25 h27) z2 z2 rfl rfl rfl rfl (fun _ => rfl) fun ⟨a25, c26⟩ => ?_
  refine pu (Pu.fieldB fo27_1 rfl) z1 z3 ?_
  refine HQ.opN [5] [5] [] (OT.storeC (cs' := [vS a5 t3.Cells c6, vS a25 (t3.Wet ++ ([(⟨p1, t19⟩ : TWet)] : (List TWet))) c26, vI t10.2.Fuse, .bool t10.2.Dead]) sz25 rfl rfl rfl rfl rfl) z2 z1 rfl rfl rfl (fun _ => rfl) fun _ => ?_
  refine HQ.done ?_
  refine HQ.dEnd rfl ?_
  refine HQ.thenN ?_
  refine HQ.keep [(6, _), (7, _)] z2 ?_
  refine HQ.rseq ?_
  refine op [5] [5] (OT.loadBA (vs := [vS a5 t3.Cells c6, vS a25 (t3.Wet ++ ([(⟨p1, t19⟩ : TWet)] : (List TWet))) c26, vI t10.2.Fuse, .bool t10.2.Dead]) ag27 sz27 rfl rfl) z1 z1 z4 (fun _ => rfl) fun _ => ?_
  refine HQ.opN [2] [2] [] (OT.storeC (cs' := [vS a5 t3.Cells c6, vS a25 (t3.Wet ++ ([(⟨p1, t19⟩ : TWet)] : (List TWet))) c26, vI t10.2.Fuse, .bool t10.2.Dead]) sz27 rfl rfl rfl rfl rfl) z2 z1 rfl rfl rfl (fun _ => rfl) fun _ => ?_
  refine HQ.done ?_
  refine HQ.keep [(6, _)] z1 ?_
  refine HQ.ret ?_
  obtain rfl := Option.some.inj H
  exact HQ.fin (vs := [_]) Try.results20 ((a5, c6), (a25, c26)) ⟨⟨_, _, 2, rfl, rfl, ag27, sz27, rfl⟩, trivial⟩ rfl [3, 4] z2 rfl
 ·refine HQ.condF rfl hc ?_
  clear hc
  refine HQ.skipThen ?_
  refine HQ.rseq ?_
  refine op [5] [5] (OT.loadBA (vs := [vS a5 t3.Cells c6, vS a7 t3.Wet c8, vI t10.2.Fuse, .bool t10.2.Dead]) ag27 sz27 rfl rfl) z1 z1 z4 (fun _ => rfl) fun _ => ?_
  refine HQ.opN [2] [2] [] (OT.storeC (cs' := [vS a5 t3.Cells c6, vS a7 t3.Wet c8, vI t10.2.Fuse, .bool t10.2.Dead]) sz27 rfl rfl rfl rfl rfl) z2 z1 rfl rfl rfl (fun _ => rfl) fun _ => ?_
  refine HQ.done ?_
  refine HQ.keep [(6, _)] z1 ?_
  refine HQ.ret ?_
  obtain rfl := Option.some.inj H
  exact HQ.fin (vs := [_]) Try.results20 ((a5, c6), (a7, c8)) ⟨⟨_, _, 2, rfl, rfl, ag27, sz27, rfl⟩, trivial⟩ rfl [3, 4] z2 rfl

theorem spec_Append_c {w : World} {k : Nat} {p0 : TDisk} {p1 : Int} {p2 : Int} {p3 : TTx} {a_0 : Option Addr} {c_0 : Nat} {a_1 : Option Addr} {c_1 : Nat} {a_2 : Option Addr} {c_2 : Nat} (hb_0 : BorS kTCell a_0 c_0 p0.Cells w.heap (Lt w Nil)) (hb_1 : BorS kTWet a_1 c_1 p0.Wet w.heap (Lt w Nil)) (hb_2 : BorS kTChange a_2 c_2 p3.Puts w.heap (Lt w Nil)) {r : TDisk × Int} (H : spec_Append k p0 p1 p2 p3 = some r) :
  Calls Try.prog 69 #[.agg #[vS a_0 p0.Cells c_0, vS a_1 p0.Wet c_1, vI p0.Fuse, .bool p0.Dead], vI p1, vI p2, .agg #[vI p3.Seq, vI p3.Root, vI p3.Size, vS a_2 p3.Puts c_2]] w (Rt w Nil (fun g : (Option Addr × Nat) × (Option Addr × Nat) => .tuple #[.agg #[vS g.1.1 r.1.Cells g.1.2, vS g.2.1 r.1.Wet g.2.2, vI r.1.Fuse, .bool r.1.Dead], vI r.2]) (fun g => [OwnS kTCell g.1.1 g.1.2 r.1.Cells, OwnS kTWet g.2.1 g.2.2 r.1.Wet])) := by
 rw [spec_Append] at H
 refine Calls.enter0 (N := 54) (us := [_, _, _, _]) Try.func69 rfl rfl rfl ?_
 refine HQ.rseq ?_
 refine op [] [1] (OT.box (cs := [vS a_0 p0.Cells c_0, vS a_1 p0.Wet c_1, vI p0.Fuse, .bool p0.Dead]) rfl) z1 trivial z4 (fun _ => rfl) fun b1 => ?_
 refine op [] [2] (OT.box (cs := [vI p3.Seq, vI p3.Root, vI p3.Size, vS a_2 p3.Puts c_2]) rfl) z1 trivial z4 (fun _ => rfl) fun b2 => ?_
 refine op [] [3] (OT.alloc zc27) trivial trivial z4 (fun _ => rfl) fun b3 => ?_
 refine pu Pu.assign z1 z3 ?_
 refine HQ.done ?_
 refine HQ.keep [(1, _), (2, _), (4, _), (7, _), (8, _), (9, _)] z6 ?_
 refine HQ.rseq ?_
 refine op [1] [1] (OT.loadBA (vs := [vS a_0 p0.Cells c_0, vS a_1 p0.Wet c_1, vI p0.Fuse, .bool p0.Dead]) ag27 sz27 rfl rfl) z1 z1 z4 (fun _ => rfl) fun _ => ?_
 obtain ⟨t4, h5, H⟩ := bnd H
 refine op [] [4, 5] (OT.call (us := [_]) (Pre := []) [.tmp 13] Try.call90 rfl rfl fun w F hs hF hp => spec_l18Copy_c (hb_0.pass hp) (hb_1.pass hp) h5) z2 trivial z4 (fun _ => rfl) fun ⟨⟨a6, c7⟩, ⟨a8, c9⟩⟩ => ?_
 refine op [] [6] (OT.alloc zc27) trivial trivial z4 (fun _ => rfl) fun b10 => ?_
 refine HQ.opN [6] [6] [] (OT.storeC (cs' := [vS a6 t4.Cells c7, vS a8 t4.Wet c9, vI t4.Fuse, .bool t4.Dead]) sz27 rfl rfl rfl rfl rfl) z2 z1 rfl rfl rfl (fun _ => rfl) fun _ => ?_
 refine HQ.done ?_
 refine HQ.keep [(1, _), (2, _), (7, _), (8, _), (9, _), (10, _)] z6 ?_
 refine HQ.rseq ?_
 refine pu Pu.move z1 z3 ?_
 refine op [2] [2] (OT.loadBA (vs := [vI p3.Seq, vI p3.Root, vI p3.Size, vS a_2 p3.Puts c_2]) ag57 sz57 rfl rfl) z1 z1 z4 (fun _ => rfl) fun _ => ?_
 obtain ⟨t11, h12, H⟩ := bnd H
 refine op [] [7] (OT.call (us := [_, _]) (Pre := []) [.tmp 15, .tmp 16] Try.call65 rfl rfl fun w F hs hF hp => spec_TxCells_c (hb_2.pass hp) h12) z3 trivial z4 (fun _ => rfl) fun ⟨a13, c14⟩ => ?_
 refine pu Pu.assign z1 z3 ?_
 refine HQ.done ?_
 refine HQ.keep [(1, _), (8, _), (9, _), (10, _), (11, _)] z5 ?_
 refine HQ.seq ?_
 refine HQ.rseq ?_
 refine pu Pu.move z1 z3 ?_
 refine pu (Pu.len ul91) z1 z3 ?_
 refine pu Pu.eql z2 z3 ?_
 refine pu Pu.move z1 z3 ?_
 refine HQ.cutAt 3 [(24, .bool ((decide (((List.length t11 : Nat) : Int) = 0)) || (decide (p1 < 0)))), (1, vI p1), (8, BP b3 0), (9, vI 0), (10, BP b10 0), (11, vS a13 t11 c14)] [(1, Box b1 [vS a_0 p0.Cells c_0, vS a_1 p0.Wet c_1, vI p0.Fuse, .bool p0.Dead]), (2, Box b2 [vI p3.Seq, vI p3.Root, vI p3.Size, vS a_2 p3.Puts c_2]), (3, Box b3 [.slice none 0 0, .slice none 0 0, vI 0, .bool false]), (4, OwnS kTCell a6 c7 t4.Cells), (5, OwnS kTWet a8 c9 t4.Wet), (6, Box b10 [vS a6 t4.Cells c7, vS a8 t4.Wet c9, vI t4.Fuse, .bool t4.Dead]), (7, OwnS (kS kU8) a13 c14 t11)] ?_ ?_
 ·rcases Bool.eq_false_or_eq_true (decide (((List.length t11 : Nat) : Int) = 0)) with hg15 | hg15
  ·refine HQ.off rfl rfl hg15 rfl ?_
   refine HQ.off rfl rfl hg15 rfl ?_
   refine pu (Pu.pickOT (u := (decide (p1 < 0))) hg15) z2 z3 ?_
   exact HQ.mid z6 z7 rfl
  ·refine HQ.on rfl rfl hg15 ?_
   refine pu Pu.move z1 z3 ?_
   refine HQ.on rfl rfl hg15 ?_
   refine pu Pu.lss z2 z3 ?_
   refine pu (Pu.pickOF hg15) z2 z3 ?_
   exact HQ.mid z6 z7 rfl
 refine pu Pu.move z1 z3 ?_
 refine HQ.cutAt 6 [(31, .bool (((decide (((List.length t11 : Nat) : Int) = 0)) || (decide (p1 < 0))) || (decide (p1 > (wrap64 (64 - ((List.length t11 : Nat) : Int))))))), (1, vI p1), (8, BP b3 0), (9, vI 0), (10, BP b10 0), (11, vS a13 t11 c14)] [(1, Box b1 [vS a_0 p0.Cells c_0, vS a_1 p0.Wet c_1, vI p0.Fuse, .bool p0.Dead]), (2, Box b2 [vI p3.Seq, vI p3.Root, vI p3.Size, vS a_2 p3.Puts c_2]), (3, Box b3 [.slice none 0 0, .slice none 0 0, vI 0, .bool false]), (4, OwnS kTCell a6 c7 t4.Cells), (5, OwnS kTWet a8 c9 t4.Wet), (6, Box b10 [vS a6 t4.Cells c7, vS a8 t4.Wet c9, vI t4.Fuse, .bool t4.Dead]), (7, OwnS (kS kU8) a13 c14 t11)] ?_ ?_
 ·rcases Bool.eq_false_or_eq_true ((decide (((List.length t11 : Nat) : Int) = 0)) || (decide (p1 < 0))) with hg16 | hg16
  ·refine HQ.off rfl rfl hg16 rfl ?_
   refine HQ.off rfl rfl hg16 rfl ?_
   refine HQ.off rfl rfl hg16 rfl ?_
   refine HQ.off rfl rfl hg16 rfl ?_
   refine HQ.off rfl rfl hg16 rfl ?_
   refine pu (Pu.pickOT (u := (decide (p1 > (wrap64 (64 - ((List.length t11 : Nat) : Int)))))) hg16) z2 z3 ?_
   exact HQ.mid z6 z7 rfl
  ·refine HQ.on rfl rfl hg16 ?_
   refine pu Pu.move z1 z3 ?_
   refine HQ.on rfl rfl hg16 ?_
   refine pu Pu.move z1 z3 ?_
   refine HQ.on rfl rfl hg16 ?_
   refine pu (Pu.len ul91) z1 z3 ?_
   refine HQ.on rfl rfl hg16 ?_
   refine pu Pu.sub z2 z3 ?_
   refine HQ.on rfl rfl hg16 ?_
   refine pu Pu.gtr z2 z3 ?_
   refine pu (Pu.pickOF hg16) z2 z3 ?_
   exact HQ.mid z6 z7 rfl
 refine HQ.done ?_
 refine HQ.keep [(31, _), (1, _), (8, _), (9, _), (10, _), (11, _)] z6 ?_
 rcases brk H with ⟨hc, H⟩ | ⟨hc, H⟩
 ·refine HQ.condT rfl hc ?_
  clear hc
  refine HQ.rseq ?_
  refine op [6] [6] (OT.loadBA (vs := [vS a6 t4.Cells c7, vS a8 t4.Wet c9, vI t4.Fuse, .bool t4.Dead]) ag27 sz27 rfl rfl) z1 z1 z4 (fun _ => rfl) fun _ => ?_
  refine HQ.opN [3] [3] [] (OT.storeC (cs' := [vS a6 t4.Cells c7, vS a8 t4.Wet c9, vI t4.Fuse, .bool t4.Dead]) sz27 rfl rfl rfl rfl rfl) z2 z1 rfl rfl rfl (fun _ => rfl) fun _ => ?_
  refine pu Pu.assign z1 z3 ?_
  refine HQ.done ?_
  refine HQ.keep [(1, _), (8, _), (9, _), (10, _), (11, _)] z5 ?_
  refine HQ.ret ?_
  refine HQ.thenR ?_
  obtain rfl := Option.some.inj H
  exact HQ.fin (vs := [_, _]) Try.results69 ((a6, c7), (a8, c9)) ⟨⟨_, _, 3, rfl, rfl, ag27, sz27, rfl⟩, rfl, trivial⟩ rfl [4, 5] z2 rfl
 ·refine HQ.condF rfl hc ?_
  clear hc
  refine HQ.skipThen ?_
  refine HQ.seq ?_
  refine HQ.rseq ?_
  refine pu Pu.assign z1 z3 ?_
  refine HQ.done ?_
  refine HQ.keep [(1, _), (8, _), (9, _), (10, _), (11, _), (12, _)] z6 ?_
  refine HQ.block ?_
  obtain ⟨o71, h81, H⟩ := bnd H
  refine HQ.loop h81 0 (fun (s : Int × (List TCell) × (List TWet) × Int × Bool) (g : (Option Addr × Nat) × (Option Addr × Nat)) => match s, g with | (i32, l33, l36, i39, q40), ((a34, c35), (a37, c38)) => [(1, vI p1), (8, BP b3 0), (9, vI 0), (10, BP b10 0), (11, vS a13 t11 c14), (12, vI i32)]) (fun (s : Int × (List TCell) × (List TWet) × Int × Bool) (g : (Option Addr × Nat) × (Option Addr × Nat)) => match s, g with | (i32, l33, l36, i39, q40), ((a34, c35), (a37, c38)) => [(3, Box b3 [.slice none 0 0, .slice none 0 0, vI 0, .bool false]), (6, Box b10 [vS a34 l33 c35, vS a37 l36 c38, vI i39, .bool q40]), (7, OwnS (kS kU8) a13 c14 t11), (4, OwnS kTCell a34 c35 l33), (5, OwnS kTWet a37 c38 l36)]) (fun _ _ _ => False) ((a6, c7), (a8, c9)) z6 z5 rfl ?_ ?_ ?_
  ·clear H h81
   rintro ⟨i32, l33, l36, i39, q40⟩ ⟨⟨a34, c35⟩, ⟨a37, c38⟩⟩ o H
   rw [spec_Append_b0] at H
   refine HQ.keep [(1, _), (8, _), (9, _), (10, _), (11, _), (12, _)] z6 ?_
   refine HQ.keepR [(3, _), (6, _), (7, _), (4, _), (5, _)] z5 rfl ?_
   refine HQ.seq ?_
   refine HQ.rseq ?_
   refine pu Pu.move z1 z3 ?_
   refine pu Pu.move z1 z3 ?_
   refine pu (Pu.len ul91) z1 z3 ?_
   refine pu Pu.lss z2 z3 ?_
   refine HQ.done ?_
   refine HQ.keep [(1, _), (8, _), (9, _), (10, _), (11, _), (12, _), (36, _)] z7 ?_
   rcases brk H with ⟨hc, H⟩ | ⟨hc, H⟩
   ·refine HQ.condT rfl hc ?_
    clear hc
    refine HQ.skipThen ?_
    refine HQ.seq ?_
    refine HQ.block ?_
    refine HQ.lend 7 rfl fun w56 P57 hL58 => ?_
    obtain ⟨h60, H⟩ := asr H
    obtain ⟨⟨a61, c62⟩, hb63, hn64⟩ := BorS.nest hL58.get h60
    refine HQ.draw mixd [(1, vI p1), (8, BP b3 0), (9, vI 0), (10, BP b10 0), (11, vS a13 t11 c14), (12, vI i32)] 9 [⟨[0], [0], []⟩, ⟨[], [], []⟩, ⟨[], [], [1]⟩, ⟨[], [], []⟩, ⟨[], [], [2, 3]⟩, ⟨[], [], []⟩, ⟨[], [], []⟩, ⟨[], [], [5, 6]⟩, ⟨[], [], [7]⟩] [⟨none, none⟩] (fun (g59 : Unit) => [.agg #[vS a34 l33 c35, vS a37 l36 c38, vI i39, .bool q40], vI p1, vI (wrap64 (2 + p1)), vI i32, vI (wrap64 ((wrap64 (2 + p1)) + i32)), vS a13 t11 c14, vI i32, EP a13 i32 1 0, vS a61 (gt t11 i32) c62]) (fun (g59 : Unit) => [Box b10 [vS a34 l33 c35, vS a37 l36 c38, vI i39, .bool q40]]) () [6] [6] [] z6 z1 rfl (by kernel_rfl) (fun _ => rfl) (by kernel_rfl) (fun _ => rfl) ⟨?_, ?_, ?_, ?_, ?_, ?_, ?_, ?_, ?_, trivial⟩ fun g59 => ?_
    ·exact OpOK.of (fun g59 => [(.tmp 10, BP b10 0)]) _ _ (fun g59 _ => g59) rfl rfl (fun _ => z1) (fun g59 => OT.loadBA (vs := [vS a34 l33 c35, vS a37 l36 c38, vI i39, .bool q40]) ag27 sz27 rfl rfl) (fun _ _ => z3)
    ·exact OpOK.pu (fun g59 => [(.tmp 1, vI p1)]) z2 (fun _ => z1) (fun _ => Pu.move) (fun _ => z1) (fun _ _ => z3)
    ·exact OpOK.pu (fun g59 => [(.const (vI 2), vI 2), (.tmp 40, vI p1)]) z2 (fun _ => z2) (fun _ => Pu.add) (fun _ => z1) (fun _ _ => z3)
    ·exact OpOK.pu (fun g59 => [(.tmp 12, vI i32)]) z2 (fun _ => z1) (fun _ => Pu.move) (fun _ => z1) (fun _ _ => z3)
    ·exact OpOK.pu (fun g59 => [(.tmp 41, vI (wrap64 (2 + p1))), (.tmp 42, vI i32)]) z2 (fun _ => z2) (fun _ => Pu.add) (fun _ => z1) (fun _ _ => z3)
    ·exact OpOK.pu (fun g59 => [(.tmp 11, vS a13 t11 c14)]) z2 (fun _ => z1) (fun _ => Pu.move) (fun _ => z1) (fun _ _ => z3)
    ·exact OpOK.pu (fun g59 => [(.tmp 12, vI i32)]) z2 (fun _ => z1) (fun _ => Pu.move) (fun _ => z1) (fun _ _ => z3)
    ·exact OpOK.of (fun g59 => [(.tmp 44, vS a13 t11 c14), (.tmp 45, vI i32)]) _ _ (fun g59 _ => g59) rfl rfl (fun _ => z2) (fun g59 => OT.indexB ul91 sz22 hL58.get h60) (fun _ _ => z3)
    ·exact OpOK.of (fun g59 => [(.tmp 46, EP a13 i32 1 0)]) _ _ (fun g59 _ => g59) rfl rfl (fun _ => z1) (fun g59 => OT.loadN (v := vS a61 (gt t11 i32) c62) sc22 hn64 (fun _ v hv => ⟨rfl, by simp [hv]⟩) rfl) (fun _ _ => z3)
    refine HQ.keep [(1, _), (8, _), (9, _), (10, _), (11, _), (12, _), (39, _), (43, _), (47, _)] z9 ?_
    refine HQ.keepR [(3, _), (6, _), (7, _), (4, _), (5, _)] z5 rfl ?_
    obtain ⟨t65, h66, H⟩ := bnd H
    refine op [4, 5] [12, 13, 4, 5] (OT.call (us := [_, _, _]) (Pre := [OwnS kTCell a34 c35 l33, OwnS kTWet a37 c38 l36]) [.tmp 39, .tmp 43, .tmp 47] Try.call20 rfl rfl fun w F hs hF hp => spec_Write_c (hs.lend hF 0 rfl) (hs.lend hF 1 rfl) (hb63.pass hp) h66) z4 z2 z4 (fun _ => rfl) fun ⟨⟨a67, c68⟩, ⟨a69, c70⟩⟩ => ?_
    refine HQ.opN [6] [6] [] (OT.storeC (cs' := [vS a67 t65.Cells c68, vS a69 t65.Wet c70, vI t65.Fuse, .bool t65.Dead]) sz27 rfl rfl rfl rfl rfl) z2 z1 rfl rfl rfl (fun _ => rfl) fun _ => ?_
    refine HQ.unlend hL58 7 rfl ?_
    refine HQ.done ?_
    refine HQ.keep [(1, _), (8, _), (9, _), (10, _), (11, _), (12, _)] z6 ?_
    refine HQ.blkN ?_
    refine HQ.thenN ?_
    refine HQ.regionQ ?_
    refine pu Pu.move z1 z3 ?_
    refine pu Pu.add z2 z3 ?_
    refine pu Pu.assign z1 z3 ?_
    refine HQ.done ?_
    refine HQ.keep [(1, _), (8, _), (9, _), (10, _), (11, _), (12, _)] z6 ?_
    refine HQ.mv 4 12 rfl rfl ?_
    refine HQ.mv 5 13 rfl rfl ?_
    obtain rfl := Option.some.inj H
    exact HQ.next ((a67, c68), (a69, c70)) z6 z5 rfl
   ·refine HQ.condF rfl hc ?_
    clear hc
    refine HQ.exit ?_
    refine HQ.thenE ?_
    obtain rfl := Option.some.inj H
    exact HQ.out ((a34, c35), (a37, c38)) z6 z5 rfl
  ·rintro ⟨i72, l73, l76, i79, q80⟩ rfl ⟨⟨a74, c75⟩, ⟨a77, c78⟩⟩
   clear h81
   replace H := H
   refine HQ.keep [(1, _), (8, _), (9, _), (10, _), (11, _), (12, _)] z6 ?_
   refine HQ.keepR [(3, _), (6, _), (7, _), (4, _), (5, _)] z5 rfl ?_
   refine HQ.blkE ?_
   refine HQ.thenN ?_
   refine HQ.rseq ?_
   refine op [6] [6] (OT.loadBA (vs := [vS a74 l73 c75, vS a77 l76 c78, vI i79, .bool q80]) ag27 sz27 rfl rfl) z1 z1 z4 (fun _ => rfl) fun _ => ?_
   refine pu Pu.move z1 z3 ?_
   refine pu Pu.move z1 z3 ?_
   refine pu (Pu.len ul91) z1 z3 ?_
   refine pu Pu.add z2 z3 ?_
   refine HQ.opN [3] [3] [] (OT.storeC (cs' := [vS a74 l73 c75, vS a77 l76 c78, vI i79, .bool q80]) sz27 rfl rfl rfl rfl rfl) z2 z1 rfl rfl rfl (fun _ => rfl) fun _ => ?_
   refine pu Pu.assign z1 z3 ?_
   refine HQ.done ?_
   refine HQ.keep [(8, _), (9, _)] z2 ?_
   refine HQ.ret ?_
   obtain rfl := Option.some.inj H
   exact HQ.fin (vs := [_, _]) Try.results69 ((a74, c75), (a77, c78)) ⟨⟨_, _, 3, rfl, rfl, ag27, sz27, rfl⟩, rfl, trivial⟩ rfl [4, 5] z2 rfl
  ·exact fun r h a w hf => hf.elim

theorem spec_l18Room_c {w : World} {k : Nat} {p0 : TDisk} {p1 : Int} {β_0 : Nat} {a_0 : Option Addr} {c_0 : Nat} {a_1 : Option Addr} {c_1 : Nat} {F0 : Fp} (hs0 : Sat [Box β_0 [vS a_0 p0.Cells c_0, vS a_1 p0.Wet c_1, vI p0.Fuse, .bool p0.Dead], OwnS kTCell a_0 c_0 p0.Cells] w.heap F0) (hF0 : ∀ b, F0 b → b < w.heap.size)  {r : TDisk} (H : spec_l18Room k p0 p1 = some r) :
  Calls Try.prog 93 #[BP β_0 0, vI p1] w (Rt w F0 (fun g : Option Addr × Nat => .tuple #[]) (fun g => [Box β_0 [vS g.1 r.Cells g.2, vS a_1 p0.Wet c_1, vI r.Fuse, .bool r.Dead], OwnS kTCell g.1 g.2 r.Cells])) := by
 rw [spec_l18Room] at H
 refine Calls.enter (N := 21) (us := [_, _]) (F0 := F0) (Γ0 := [(2, Box β_0 [vS a_0 p0.Cells c_0, vS a_1 p0.Wet c_1, vI p0.Fuse, .bool p0.Dead]), (1, OwnS kTCell a_0 c_0 p0.Cells)]) Try.func93 rfl rfl rfl hs0 hF0 ?_
 refine HQ.block ?_
 obtain ⟨o19, h23, H⟩ := bnd H
 refine HQ.loop h23 0 (fun (s : (List TCell)) (g : Option Addr × Nat) => match s, g with | l6, (a7, c8) => [(0, BP β_0 0), (1, vI p1)]) (fun (s : (List TCell)) (g : Option Addr × Nat) => match s, g with | l6, (a7, c8) => [(2, Box β_0 [vS a7 l6 c8, vS a_1 p0.Wet c_1, vI p0.Fuse, .bool p0.Dead]), (1, OwnS kTCell a7 c8 l6)]) (fun _ _ _ => False) (a_0, c_0) z2 z2 rfl ?_ ?_ ?_
 ·clear H h23
  rintro l6 ⟨a7, c8⟩ o H
  rw [spec_l18Room_b0] at H
  refine HQ.keep [(0, _), (1, _)] z2 ?_
  refine HQ.keepR [(2, _), (1, _)] z2 rfl ?_
  refine HQ.seq ?_
  refine HQ.rseq ?_
  refine pu Pu.move z1 z3 ?_
  refine pu Pu.nilCheck z1 z3 ?_
  refine pu (Pu.fieldB fo27_0 rfl) z1 z3 ?_
  refine op [2] [2] (OT.loadB sc24 rfl) z1 z1 z4 (fun _ => rfl) fun _ => ?_
  refine pu (Pu.len ul24) z1 z3 ?_
  refine pu Pu.move z1 z3 ?_
  refine pu Pu.leq z2 z3 ?_
  refine HQ.done ?_
  refine HQ.keep [(0, _), (1, _), (10, _)] z3 ?_
  rcases brk H with ⟨hc, H⟩ | ⟨hc, H⟩
  ·refine HQ.condT rfl hc ?_
   clear hc
   refine HQ.skipThen ?_
   refine HQ.block ?_
   refine HQ.regionQ ?_
   refine pu Pu.move z1 z3 ?_
   refine pu Pu.move z1 z3 ?_
   refine pu Pu.nilCheck z1 z3 ?_
   refine pu (Pu.fieldB fo27_0 rfl) z1 z3 ?_
   refine op [2] [2] (OT.loadB sc24 rfl) z1 z1 z4 (fun _ => rfl) fun _ => ?_
   refine pu (Pu.build (us := []) (cs := [.bool false, .slice none 0 0]) [] st113 rfl rfl rfl) trivial z3 ?_
   refine HQ.nil kU8 7 rfl ?_
   refine HQ.opD [7] [8] [7] (OT.buildO (u := .agg #[.bool false, .slice none 0 0]) (enc := encTCell) (hl := hlTCell) (sub := fun (x : TCell) => x.B) (.tmp 16) (⟨false, ([] : (List Int))⟩ : TCell) sl24.ul sl24.szE sl24.zc rfl rfl rfl rfl) z1 z1 rfl rfl rfl rfl (fun _ => rfl) fun ⟨a14, c15⟩ => ?_
   obtain ⟨h18, H⟩ := asr H
   refine HQ.opD [1, 8] [1] [8] (OT.appendO (K := kTCell) sl24 ul24 h18) z2 z2 rfl rfl rfl rfl (fun _ => rfl) fun ⟨a16, c17⟩ => ?_
   refine pu Pu.nilCheck z1 z3 ?_
   refine pu (Pu.fieldB fo27_0 rfl) z1 z3 ?_
   refine HQ.opN [2] [2] [] (OT.storeC (cs' := [vS a16 (l6 ++ ([(⟨false, ([] : (List Int))⟩ : TCell)] : (List TCell))) c17, vS a_1 p0.Wet c_1, vI p0.Fuse, .bool p0.Dead]) sz24 rfl rfl rfl rfl rfl) z2 z1 rfl rfl rfl (fun _ => rfl) fun _ => ?_
   refine HQ.done ?_
   refine HQ.keep [(0, _), (1, _)] z2 ?_
   refine HQ.blkN ?_
   obtain rfl := Option.some.inj H
   exact HQ.next (a16, c17) z2 z2 rfl
  ·refine HQ.condF rfl hc ?_
   clear hc
   refine HQ.exit ?_
   refine HQ.thenE ?_
   obtain rfl := Option.some.inj H
   exact HQ.out (a7, c8) z2 z2 rfl
 ·rintro l20 rfl ⟨a21, c22⟩
  clear h23
  replace H := H
  refine HQ.keep [(0, _), (1, _)] z2 ?_
  refine HQ.keepR [(2, _), (1, _)] z2 rfl ?_
  refine HQ.blkE ?_
  obtain rfl := Option.some.inj H
  exact HQ.fin (vs := []) Try.results93 (a21, c22) trivial rfl [2, 1] z2 rfl
 ·exact fun r h a w hf => hf.elim

theorem spec_Flush_c {w : World} {k : Nat} {p0 : TDisk} {a_0 : Option Addr} {c_0 : Nat} {a_1 : Option Addr} {c_1 : Nat} (hb_0 : BorS kTCell a_0 c_0 p0.Cells w.heap (Lt w Nil)) (hb_1 : BorS kTWet a_1 c_1 p0.Wet w.heap (Lt w Nil)) {r : TDisk} (H : spec_Flush k p0 = some r) :
  Calls Try.prog 21 #[.agg #[vS a_0 p0.Cells c_0, vS a_1 p0.Wet c_1, vI p0.Fuse, .bool p0.Dead]] w (Rt w Nil (fun g : (Option Addr × Nat) × (Option Addr × Nat) => .agg #[vS g.1.1 r.Cells g.1.2, vS g.2.1 r.Wet g.2.2, vI r.Fuse, .bool r.Dead]) (fun g => [OwnS kTCell g.1.1 g.1.2 r.Cells, OwnS kTWet g.2.1 g.2.2 r.Wet])) := by
 rw [spec_Flush] at H
 refine Calls.enter0 (N := 42) (us := [_]) Try.func21 rfl rfl rfl ?_
 refine HQ.rseq ?_
 refine op [] [1] (OT.box (cs := [vS a_0 p0.Cells c_0, vS a_1 p0.Wet c_1, vI p0.Fuse, .bool p0.Dead]) rfl) z1 trivial z4 (fun _ => rfl) fun b1 => ?_
 refine op [] [2] (OT.alloc zc27) trivial trivial z4 (fun _ => rfl) fun b2 => ?_
 refine HQ.done ?_
 refine HQ.keep [(1, _), (2, _)] z2 ?_
 refine HQ.rseq ?_
 refine op [1] [1] (OT.loadBA (vs := [vS a_0 p0.Cells c_0, vS a_1 p0.Wet c_1, vI p0.Fuse, .bool p0.Dead]) ag27 sz27 rfl rfl) z1 z1 z4 (fun _ => rfl) fun _ => ?_
 obtain ⟨t3, h4, H⟩ := bnd H
 refine op [] [3, 4] (OT.call (us := [_]) (Pre := []) [.tmp 6] Try.call90 rfl rfl fun w F hs hF hp => spec_l18Copy_c (hb_0.pass hp) (hb_1.pass hp) h4) z2 trivial z4 (fun _ => rfl) fun ⟨⟨a5, c6⟩, ⟨a7, c8⟩⟩ => ?_
 refine op [] [5] (OT.alloc zc27) trivial trivial z4 (fun _ => rfl) fun b9 => ?_
 refine HQ.opN [5] [5] [] (OT.storeC (cs' := [vS a5 t3.Cells c6, vS a7 t3.Wet c8, vI t3.Fuse, .bool t3.Dead]) sz27 rfl rfl rfl rfl rfl) z2 z1 rfl rfl rfl (fun _ => rfl) fun _ => ?_
 refine HQ.done ?_
 refine HQ.keep [(2, _), (3, _)] z2 ?_
 refine HQ.seq ?_
 refine HQ.rseq ?_
 obtain ⟨t10, h11, H⟩ := bnd H
 refine op [5] [5] (OT.callM (us := [_]) (PreX := [Box b9 [vS a5 t3.Cells c6, vS a7 t3.Wet c8, vI t3.Fuse, .bool t3.Dead]]) (PreL := []) [.tmp 3] Try.call91 rfl rfl fun w FX FL hs1 hF1 hs2 hF2 hp => spec_l18Burn_c (p0 := t3) hs1 hF1 h11) z2 z1 z4 (fun _ => rfl) fun _ => ?_
 refine pu Pu.not z1 z3 ?_
 refine HQ.done ?_
 refine HQ.keep [(2, _), (3, _), (9, _)] z3 ?_
 rcases brk H with ⟨hc, H⟩ | ⟨hc, H⟩
 ·refine HQ.condT rfl hc ?_
  clear hc
  refine HQ.rseq ?_
  refine op [5] [5] (OT.loadBA (vs := [vS a5 t3.Cells c6, vS a7 t3.Wet c8, vI t10.2.Fuse, .bool t10.2.Dead]) ag27 sz27 rfl rfl) z1 z1 z4 (fun _ => rfl) fun _ => ?_
  refine HQ.opN [2] [2] [] (OT.storeC (cs' := [vS a5 t3.Cells c6, vS a7 t3.Wet c8, vI t10.2.Fuse, .bool t10.2.Dead]) sz27 rfl rfl rfl rfl rfl) z2 z1 rfl rfl rfl (fun _ => rfl) fun _ => ?_
  refine HQ.done ?_
  refine HQ.keep [(2, _), (3, _)] z2 ?_
  refine HQ.ret ?_
  refine HQ.thenR ?_
  obtain rfl := Option.some.inj H
  exact HQ.fin (vs := [_]) Try.results21 ((a5, c6), (a7, c8)) ⟨⟨_, _, 2, rfl, rfl, ag27, sz27, rfl⟩, trivial⟩ rfl [3, 4] z2 rfl
 ·refine HQ.condF rfl hc ?_
  clear hc
  refine HQ.skipThen ?_
  refine HQ.seq ?_
  refine HQ.rseq ?_
  refine pu Pu.assign z1 z3 ?_
  refine HQ.done ?_
  refine HQ.keep [(2, _), (3, _), (4, _)] z3 ?_
  refine HQ.block ?_
  refine HQ.toRob 4 rfl ?_
  obtain ⟨o70, h80, H⟩ := bnd H
  refine HQ.loop h80 0 (fun (s : Int × (List TCell) × Int × Bool × Int) (g : Option Addr × Nat) => match s, g with | (i29, l30, i33, q34, i35), (a31, c32) => [(2, BP b2 0), (3, BP b9 0), (4, vI i29)]) (fun (s : Int × (List TCell) × Int × Bool × Int) (g : Option Addr × Nat) => match s, g with | (i29, l30, i33, q34, i35), (a31, c32) => [(2, Box b2 [.slice none 0 0, .slice none 0 0, vI 0, .bool false]), (5, Box b9 [vS a31 l30 c32, vS a7 t3.Wet c8, vI i33, .bool q34]), (3, OwnS kTCell a31 c32 l30), (4, RobS 2 encTWet hlTWet kU8 (fun x => x.B) a7 c8 t3.Wet i35)]) (fun _ _ _ => False) (a5, c6) z3 z4 rfl ?_ ?_ ?_
  ·clear H h80
   rintro ⟨i29, l30, i33, q34, i35⟩ ⟨a31, c32⟩ o H
   rw [spec_Flush_b0] at H
   refine HQ.keep [(2, _), (3, _), (4, _)] z3 ?_
   refine HQ.keepR [(2, _), (5, _), (3, _), (4, _)] z4 rfl ?_
   refine HQ.seq ?_
   refine HQ.rseq ?_
   refine pu Pu.move z1 z3 ?_
   refine pu (Pu.fieldB fo27_1 rfl) z1 z3 ?_
   refine op [5] [5] (OT.loadB sc25 rfl) z1 z1 z4 (fun _ => rfl) fun _ => ?_
   refine pu (Pu.len ul25) z1 z3 ?_
   refine pu Pu.lss z2 z3 ?_
   refine HQ.done ?_
   refine HQ.keep [(2, _), (3, _), (4, _), (15, _)] z4 ?_
   rcases brk H with ⟨hc, H⟩ | ⟨hc, H⟩
   ·refine HQ.condT rfl hc ?_
    clear hc
    refine HQ.skipThen ?_
    refine HQ.seq ?_
    refine HQ.block ?_
    refine HQ.rseq ?_
    refine pu (Pu.fieldB fo27_1 rfl) z1 z3 ?_
    refine op [5] [5] (OT.loadB sc25 rfl) z1 z1 z4 (fun _ => rfl) fun _ => ?_
    refine pu Pu.move z1 z3 ?_
    obtain ⟨h53, H⟩ := asr H
    refine op [4] [4] (OT.indexR ul25 sz110 h53) z2 z1 z4 (fun _ => rfl) fun _ => ?_
    refine pu (Pu.fieldE fo110_0 rfl) z1 z3 ?_
    obtain ⟨h54, H⟩ := asr H
    refine op [4] [4] (OT.loadR sc3 h53 h54 (fun _ => rfl)) z1 z1 z4 (fun _ => rfl) fun _ => ?_
    refine pu Pu.assign z1 z3 ?_
    refine HQ.done ?_
    refine HQ.keep [(2, _), (3, _), (4, _), (5, _)] z4 ?_
    refine HQ.rseq ?_
    refine pu Pu.move z1 z3 ?_
    obtain ⟨t55, h56, H⟩ := bnd H
    refine op [] [] (OT.call (us := [_, _, _]) (Pre := []) [.tmp 24, .const (vI 0), .const (vI 113)] Try.call89 rfl rfl fun w F hs hF hp => spec_l1In_c h56) z4 trivial z4 (fun _ => rfl) fun _ => ?_
    refine HQ.done ?_
    refine HQ.keep [(2, _), (3, _), (4, _), (5, _), (25, _)] z5 ?_
    rcases brk H with ⟨hc, H⟩ | ⟨hc, H⟩
    ·refine HQ.condT rfl hc ?_
     clear hc
     refine HQ.rseq ?_
     refine pu Pu.move z1 z3 ?_
     obtain ⟨t57, h58, H⟩ := bnd H
     refine HQ.opD [5, 3] [5, 10] [3] (OT.callM (us := [_, _]) (PreX := [Box b9 [vS a31 l30 c32, vS a7 t3.Wet c8, vI i33, .bool q34], OwnS kTCell a31 c32 l30]) (PreL := []) [.tmp 3, .tmp 26] Try.call93 rfl rfl fun w FX FL hs1 hF1 hs2 hF2 hp => spec_l18Room_c (p0 := (⟨l30, t3.Wet, i33, q34⟩ : TDisk)) (p1 := (gt t3.Wet i29).At) hs1 hF1 h58) z3 z2 rfl rfl rfl rfl (fun _ => rfl) fun ⟨a59, c60⟩ => ?_
     refine HQ.done ?_
     refine HQ.keep [(2, _), (3, _), (4, _), (5, _)] z4 ?_
     refine HQ.dStart mixd ?_
     obtain ⟨h62, H⟩ := asr H
     obtain ⟨h63, H⟩ := asr H
     refine HQ.dPart [(2, BP b2 0), (3, BP b9 0), (4, vI i29), (5, vI ((gt t3.Wet i29).At))] 10 [⟨[], [], []⟩, ⟨[0], [0], [0]⟩, ⟨[], [], []⟩, ⟨[], [], []⟩, ⟨[0], [0], [3]⟩, ⟨[], [], []⟩, ⟨[1], [1], [4, 5]⟩, ⟨[], [], [6]⟩, ⟨[1], [2, 3], [7]⟩, ⟨[], [], [8]⟩] [⟨none, none⟩, ⟨none, some 8⟩, ⟨some 8, none⟩, ⟨some 8, none⟩] (fun (g61 : (Option Addr × Nat)) => [BP b9 0, vS a59 t57.Cells c60, vI ((gt t3.Wet i29).At), BP b9 1, vS a7 t3.Wet c8, vI i29, EP a7 i29 2 0, EP a7 i29 2 1, vS g61.1 ((gt t3.Wet i29).B) g61.2, .agg #[.bool false, vS g61.1 ((gt t3.Wet i29).B) g61.2]]) (fun (g61 : (Option Addr × Nat)) => [Box b9 [vS a59 t57.Cells c60, vS a7 t3.Wet c8, vI t57.Fuse, .bool t57.Dead], RobS 2 encTWet hlTWet kU8 (fun x => x.B) a7 c8 t3.Wet i35, RobS 2 encTWet hlTWet kU8 (fun x => x.B) a7 c8 t3.Wet (i29 + 1), OwnS kU8 g61.1 g61.2 ((gt t3.Wet i29).B)]) (none, 0) [5, 4] [5, 4, 11] [] z4 z2 rfl (by kernel_rfl) (by kernel_rfl) (fun _ => rfl) (by kernel_rfl) (fun _ => rfl) rfl ⟨?_, ?_, ?_, ?_, ?_, ?_, ?_, ?_, ?_, ?_, trivial⟩ fun g61 => ?_
     ·exact OpOK2.pu (fun g61 => [(.tmp 3, BP b9 0)]) z2 (fun _ => z1) (fun _ => (Pu.fieldB fo27_0 rfl)) (fun _ => z1) (fun _ _ => z6)
     ·exact OpOK2.of (fun g61 => [(.tmp 28, BP b9 0)]) _ _ (fun g61 _ => g61) rfl rfl (fun _ => z1) (fun g61 => OT.loadB sc24 rfl) (fun _ _ => z6)
     ·exact OpOK2.pu (fun g61 => [(.tmp 5, vI ((gt t3.Wet i29).At))]) z2 (fun _ => z1) (fun _ => Pu.move) (fun _ => z1) (fun _ _ => z6)
     ·exact OpOK2.pu (fun g61 => [(.tmp 3, BP b9 0)]) z2 (fun _ => z1) (fun _ => (Pu.fieldB fo27_1 rfl)) (fun _ => z1) (fun _ _ => z6)
     ·exact OpOK2.of (fun g61 => [(.tmp 31, BP b9 1)]) _ _ (fun g61 _ => g61) rfl rfl (fun _ => z1) (fun g61 => OT.loadB sc25 rfl) (fun _ _ => z6)
     ·exact OpOK2.pu (fun g61 => [(.tmp 4, vI i29)]) z2 (fun _ => z1) (fun _ => Pu.move) (fun _ => z1) (fun _ _ => z6)
     ·exact OpOK2.of (fun g61 => [(.tmp 32, vS a7 t3.Wet c8), (.tmp 33, vI i29)]) _ _ (fun g61 _ => g61) rfl rfl (fun _ => z2) (fun g61 => OT.indexR ul25 sz110 h62) (fun _ _ => z6)
     ·exact OpOK2.pu (fun g61 => [(.tmp 34, EP a7 i29 2 0)]) z2 (fun _ => z1) (fun _ => (Pu.fieldE fo110_1 rfl)) (fun _ => z1) (fun _ _ => z6)
     ·exact OpOK2.ofD [9] (by kernel_rfl) (fun g61 => [(.tmp 35, EP a7 i29 2 1)]) _ _ (fun g61 x => x) rfl rfl (fun _ => z1) (fun g61 => OT.rob (v := fun pa pc => vS pa ((gt t3.Wet i29).B) pc) sc22 h62 h63 (fun _ _ => rfl)) (fun _ _ => ⟨⟨rfl, rfl, rfl, rfl, rfl, rfl, rfl, rfl, rfl, trivial, trivial⟩, rfl, z4⟩)
     ·exact OpOK2.pu (fun g61 => [(.tmp 36, vS g61.1 ((gt t3.Wet i29).B) g61.2)]) z2 (fun _ => z1) (fun g61 => (Pu.build (us := [vS g61.1 ((gt t3.Wet i29).B) g61.2]) (cs := [.bool false, vS g61.1 ((gt t3.Wet i29).B) g61.2]) [(1, .tmp 36)] st113 rfl rfl rfl)) (fun _ => z1) (fun _ _ => z6)
     refine HQ.keep [(2, _), (3, _), (4, _), (29, _), (30, _), (37, _)] z6 ?_
     refine HQ.keepR [(2, _), (5, _), (4, _), (10, _), (11, _)] z5 rfl ?_
     refine HQ.dRun 2 rfl rfl (by kernel_rfl) (by kernel_rfl) ?_
     obtain ⟨h66, H⟩ := asr H
     refine op [10] [10] (OT.indexO ul24 sz113 h66) z2 z1 z4 (fun _ => rfl) fun _ => ?_
     refine HQ.opN [10, 11] [10] [11] (OT.storeW (⟨false, (gt t3.Wet i29).B⟩ : TCell) sz113 rfl rfl rfl h66 rfl (fun _ => rfl) rfl) z2 z2 rfl rfl rfl (fun _ => rfl) fun _ => ?_
     obtain ⟨l67, h68, H⟩ := bnd H
     replace h68 := Option.some.inj h68
     refine HQ.reR (B := OwnS kTCell a59 c60 l67) 10 rfl (by intro _ _ hb; rw [← h68]; exact hb) ?_
     have h69 : List.length l67 = List.length t57.Cells := by rw [← h68, List.length_set]
     refine HQ.re (v' := vS a59 l67 c60) 29 rfl (by simp [h69]) ?_
     refine HQ.reR (B := Box b9 [vS a59 l67 c60, vS a7 t3.Wet c8, vI t57.Fuse, .bool t57.Dead]) 5 rfl (fun _ _ hb => by simp only [vS]; rw [show List.length l67 = List.length t57.Cells from (by simp [h69])]; exact hb) ?_
     refine HQ.done ?_
     refine HQ.dEnd rfl ?_
     refine HQ.keep [(2, _), (3, _), (4, _)] z3 ?_
     refine HQ.blkN ?_
     refine HQ.thenN ?_
     refine HQ.regionQ ?_
     refine pu Pu.move z1 z3 ?_
     refine pu Pu.add z2 z3 ?_
     refine pu Pu.assign z1 z3 ?_
     refine HQ.done ?_
     refine HQ.keep [(2, _), (3, _), (4, _)] z3 ?_
     refine HQ.mv 3 10 rfl rfl ?_
     obtain rfl := Option.some.inj H
     exact HQ.next (a59, c60) z3 z4 rfl
    ·refine HQ.condF rfl hc ?_
     clear hc
     refine HQ.skip ?_
     refine HQ.blkN ?_
     refine HQ.thenN ?_
     refine HQ.regionQ ?_
     refine pu Pu.move z1 z3 ?_
     refine pu Pu.add z2 z3 ?_
     refine pu Pu.assign z1 z3 ?_
     refine HQ.done ?_
     refine HQ.keep [(2, _), (3, _), (4, _)] z3 ?_
     obtain rfl := Option.some.inj H
     exact HQ.next (a31, c32) z3 z4 rfl
   ·refine HQ.condF rfl hc ?_
    clear hc
    refine HQ.exit ?_
    refine HQ.thenE ?_
    obtain rfl := Option.some.inj H
    exact HQ.out (a31, c32) z3 z4 rfl
  ·rintro ⟨i71, l72, i75, q76, i77⟩ rfl ⟨a73, c74⟩
   clear h80
   replace H := H
   refine HQ.keep [(2, _), (3, _), (4, _)] z3 ?_
   refine HQ.keepR [(2, _), (5, _), (3, _), (4, _)] z4 rfl ?_
   refine HQ.blkE ?_
   refine HQ.thenN ?_
   refine HQ.rseq ?_
   refine op [] [12] (OT.buildE (K := kTWet) sl25.ul sl25.szE sl25.zc rfl rfl) trivial trivial z4 (fun _ => rfl) fun ⟨a78, c79⟩ => ?_
   refine pu (Pu.fieldB fo27_1 rfl) z1 z3 ?_
   refine HQ.opN [5] [5] [] (OT.storeC (cs' := [vS a73 l72 c74, vS a78 ([] : (List TWet)) c79, vI i75, .bool q76]) sz25 rfl rfl rfl rfl rfl) z2 z1 rfl rfl rfl (fun _ => rfl) fun _ => ?_
   refine HQ.done ?_
   refine HQ.keep [(2, _), (3, _)] z2 ?_
   refine HQ.rseq ?_
   refine op [5] [5] (OT.loadBA (vs := [vS a73 l72 c74, vS a78 ([] : (List TWet)) c79, vI i75, .bool q76]) ag27 sz27 rfl rfl) z1 z1 z4 (fun _ => rfl) fun _ => ?_
   refine HQ.opN [2] [2] [] (OT.storeC (cs' := [vS a73 l72 c74, vS a78 ([] : (List TWet)) c79, vI i75, .bool q76]) sz27 rfl rfl rfl rfl rfl) z2 z1 rfl rfl rfl (fun _ => rfl) fun _ => ?_
   refine HQ.done ?_
   refine HQ.keep [(2, _)] z1 ?_
   refine HQ.ret ?_
   obtain rfl := Option.some.inj H
   exact HQ.fin (vs := [_]) Try.results21 ((a73, c74), (a78, c79)) ⟨⟨_, _, 2, rfl, rfl, ag27, sz27, rfl⟩, trivial⟩ rfl [3, 12] z2 rfl
  ·exact fun r h a w hf => hf.elim

end Go.Proofs.Sx
