import Derived.Test.YtkhommmhkeohbaaQfF6
import Derived.KernelRfl
namespace Go.Proofs.Sx
open Go.RowKit
set_option linter.unusedVariables false
set_option linter.unusedSimpArgs false
set_option maxRecDepth 20000
set_option maxHeartbeats 1000000
theorem impl_TxOk_c {w : World} {k : Nat} {p0 : TTx} {a_0 : Option Addr} {c_0 : Nat} (hb_0 : BorS kTChange a_0 c_0 p0.Puts w.heap (Lt w Nil)) {r : Bool} (H : impl_TxOk k p0 = some r) :
  Calls Try.prog 35 #[.agg #[vI p0.Seq, vI p0.Root, vI p0.Size, vS a_0 p0.Puts c_0]] w (Rt w Nil (fun _ : Unit => .bool r) (fun _ => [])) := by
 rw [impl_TxOk] at H
 refine Calls.enter0 (N := 40) (us := [_]) Try.func35 rfl rfl rfl ?_
 refine HQ.rseq ?_
 refine op [] [1] (OT.box (cs := [vI p0.Seq, vI p0.Root, vI p0.Size, vS a_0 p0.Puts c_0]) rfl) z1 trivial z4 (fun _ => rfl) fun b1 => ?_
 refine pu Pu.assign z1 z3 ?_
 refine HQ.done ?_
 refine HQ.keep [(1, _), (2, _)] z2 ?_
 refine HQ.rseq ?_
 refine op [] [2] (OT.makeMap) trivial trivial z4 (fun _ => rfl) fun b2 => ?_
 refine pu Pu.assign z1 z3 ?_
 refine HQ.done ?_
 refine HQ.keep [(1, _), (2, _), (3, _)] z3 ?_
 refine HQ.seq ?_
 refine HQ.rseq ?_
 refine pu (Pu.fieldB fo57_3 rfl) z1 z3 ?_
 refine op [1] [1] (OT.loadB sc55 rfl) z1 z1 z4 (fun _ => rfl) fun _ => ?_
 refine pu (Pu.len ul55) z1 z3 ?_
 refine pu Pu.move z1 z3 ?_
 refine HQ.done ?_
 refine HQ.keep [(1, _), (2, _), (3, _), (8, _), (9, _), (10, _)] z6 ?_
 refine HQ.block ?_
 obtain ⟨o47, h52, H⟩ := bnd H
 refine HQ.loop h52 0 (fun (s : (List (Int × Int)) × Int) (g : Unit) => match s, g with | (l17, i18), () => [(1, BP b1 0), (2, .bool false), (3, .map (some b2)), (8, vS a_0 p0.Puts c_0), (9, vI ((List.length p0.Puts : Nat) : Int)), (10, vI i18)]) (fun (s : (List (Int × Int)) × Int) (g : Unit) => match s, g with | (l17, i18), () => [(1, Box b1 [vI p0.Seq, vI p0.Root, vI p0.Size, vS a_0 p0.Puts c_0]), (2, MapS b2 l17)]) (fun r => bodyPost Try.prog Try.f35 (Rt w Nil (fun _ : Unit => .bool r) (fun _ => [])) .ret) () z6 z2 rfl ?_ ?_ ?_
 ·clear H h52
  rintro ⟨l17, i18⟩ _ o H
  rw [impl_TxOk_b0] at H
  refine HQ.keep [(1, _), (2, _), (3, _), (8, _), (9, _), (10, _)] z6 ?_
  refine HQ.keepR [(1, _), (2, _)] z2 rfl ?_
  refine HQ.rseq ?_
  refine pu Pu.lss z2 z3 ?_
  refine HQ.done ?_
  refine HQ.keep [(1, _), (2, _), (3, _), (8, _), (9, _), (10, _), (11, _)] z7 ?_
  refine HQ.seq ?_
  rcases brk H with ⟨hc, H⟩ | ⟨hc, H⟩
  ·refine HQ.condT rfl hc ?_
   clear hc
   refine HQ.skipThen ?_
   refine HQ.seq ?_
   refine HQ.block ?_
   refine HQ.rseq ?_
   obtain ⟨h33, H⟩ := asr H
   refine op [] [] (OT.indexB ul55 sz49 hb_0 h33) z2 trivial z4 (fun _ => rfl) fun _ => ?_
   obtain ⟨⟨a34, c35⟩, hb36, hn37⟩ := BorS.nest hb_0 h33
   refine op [] [] (OT.loadNA (vs := [vI ((gt p0.Puts i18).Page), .bool ((gt p0.Puts i18).N.Leaf), vS a34 ((gt p0.Puts i18).N.L) c35]) ag49 sz49 hn37 hlTChange rfl rfl) z1 trivial z4 (fun _ => rfl) fun _ => ?_
   refine op [] [5] (OT.alloc zc49) trivial trivial z4 (fun _ => rfl) fun b38 => ?_
   refine HQ.opN [5] [5] [] (OT.storeC (cs' := [vI ((gt p0.Puts i18).Page), .bool ((gt p0.Puts i18).N.Leaf), vS a34 ((gt p0.Puts i18).N.L) c35]) sz49 rfl rfl rfl rfl rfl) z2 z1 rfl rfl rfl (fun _ => rfl) fun _ => ?_
   refine HQ.done ?_
   refine HQ.keep [(1, _), (2, _), (3, _), (8, _), (9, _), (10, _), (5, _)] z7 ?_
   refine HQ.seq ?_
   refine HQ.rseq ?_
   refine pu (Pu.fieldB fo49_0 rfl) z1 z3 ?_
   refine op [5] [5] (OT.loadB sc3 rfl) z1 z1 z4 (fun _ => rfl) fun _ => ?_
   refine pu (Pu.fieldB fo57_2 rfl) z1 z3 ?_
   refine op [1] [1] (OT.loadB sc3 rfl) z1 z1 z4 (fun _ => rfl) fun _ => ?_
   refine pu Pu.sub z2 z3 ?_
   obtain ⟨t39, h40, H⟩ := bnd H
   refine op [] [] (OT.call (us := [_, _, _]) (Pre := []) [.tmp 15, .const (vI 0), .tmp 18] Try.call83 rfl rfl fun w F hs hF hp => impl_in_c h40) z4 trivial z4 (fun _ => rfl) fun _ => ?_
   refine pu Pu.not z1 z3 ?_
   refine pu Pu.move z1 z3 ?_
   refine HQ.cutAt 6 [(27, .bool ((!t39) || (decide ((mget l17 ((gt p0.Puts i18).Page)) = 1)))), (1, BP b1 0), (2, .bool false), (3, .map (some b2)), (8, vS a_0 p0.Puts c_0), (9, vI ((List.length p0.Puts : Nat) : Int)), (10, vI i18), (5, BP b38 0)] [(1, Box b1 [vI p0.Seq, vI p0.Root, vI p0.Size, vS a_0 p0.Puts c_0]), (2, MapS b2 l17), (5, Box b38 [vI ((gt p0.Puts i18).Page), .bool ((gt p0.Puts i18).N.Leaf), vS a34 ((gt p0.Puts i18).N.L) c35])] ?_ ?_
   ·rcases Bool.eq_false_or_eq_true (!t39) with hg41 | hg41
    ·refine HQ.off rfl rfl hg41 rfl ?_
     refine HQ.off rfl rfl hg41 rfl ?_
     refine HQ.off rfl rfl hg41 rfl ?_
     refine HQ.off rfl rfl hg41 rfl ?_
     refine HQ.off rfl rfl hg41 rfl ?_
     refine pu (Pu.pickOT (u := (decide ((mget l17 ((gt p0.Puts i18).Page)) = 1))) hg41) z2 z3 ?_
     exact HQ.mid z8 z3 rfl
    ·refine HQ.on rfl rfl hg41 ?_
     refine pu Pu.move z1 z3 ?_
     refine HQ.on rfl rfl hg41 ?_
     refine pu (Pu.fieldB fo49_0 rfl) z1 z3 ?_
     refine HQ.on rfl rfl hg41 ?_
     refine op [5] [5] (OT.loadB sc3 rfl) z1 z1 z4 (fun _ => rfl) fun _ => ?_
     refine HQ.on rfl rfl hg41 ?_
     refine op [2] [2] (OT.lookup ul129 ul3 tz3) z2 z1 z4 (fun _ => rfl) fun _ => ?_
     refine HQ.on rfl rfl hg41 ?_
     refine pu Pu.eql z2 z3 ?_
     refine pu (Pu.pickOF hg41) z2 z3 ?_
     exact HQ.mid z8 z3 rfl
   refine pu Pu.move z1 z3 ?_
   obtain ⟨c45, h46, H⟩ := bnd H
   refine HQ.cutAt 5 [(33, .bool c45), (1, BP b1 0), (2, .bool false), (3, .map (some b2)), (8, vS a_0 p0.Puts c_0), (9, vI ((List.length p0.Puts : Nat) : Int)), (10, vI i18), (5, BP b38 0)] [(1, Box b1 [vI p0.Seq, vI p0.Root, vI p0.Size, vS a_0 p0.Puts c_0]), (2, MapS b2 l17), (5, Box b38 [vI ((gt p0.Puts i18).Page), .bool ((gt p0.Puts i18).N.Leaf), vS a34 ((gt p0.Puts i18).N.L) c35])] ?_ ?_
   ·clear H
    have H := h46
    rcases brk H with ⟨hg42, H⟩ | ⟨hg42, H⟩
    ·obtain rfl := Option.some.inj H
     refine HQ.off rfl rfl hg42 rfl ?_
     refine HQ.off rfl rfl hg42 rfl ?_
     refine HQ.off rfl rfl hg42 rfl ?_
     refine HQ.off rfl rfl hg42 rfl ?_
     refine pu (Pu.pickC1 hg42) z2 z3 ?_
     exact HQ.mid z8 z3 rfl
    ·refine HQ.on rfl rfl hg42 ?_
     refine pu (Pu.fieldB fo49_1 rfl) z1 z3 ?_
     refine HQ.on rfl rfl hg42 ?_
     refine op [5] [5] (OT.loadBA (vs := [.bool ((gt p0.Puts i18).N.Leaf), vS a34 ((gt p0.Puts i18).N.L) c35]) ag47 sz47 rfl rfl) z1 z1 z4 (fun _ => rfl) fun _ => ?_
     refine HQ.on rfl rfl hg42 ?_
     obtain ⟨t43, h44, H⟩ := bnd H
     refine op [] [] (OT.call (us := [_]) (Pre := []) [.tmp 30] Try.call38 rfl rfl fun w F hs hF hp => impl_NodeOk_c (hb36.pass hp) h44) z2 trivial z4 (fun _ => rfl) fun _ => ?_
     refine HQ.on rfl rfl hg42 ?_
     refine pu Pu.not z1 z3 ?_
     obtain rfl := Option.some.inj H
     refine pu (Pu.pickC0 hg42) z2 z3 ?_
     exact HQ.mid z8 z3 rfl
   refine HQ.done ?_
   refine HQ.keep [(33, _), (1, _), (2, _), (3, _), (8, _), (9, _), (10, _), (5, _)] z8 ?_
   rcases brk H with ⟨hc, H⟩ | ⟨hc, H⟩
   ·refine HQ.condT rfl hc ?_
    clear hc
    refine HQ.rseq ?_
    refine pu Pu.assign z1 z3 ?_
    refine HQ.done ?_
    refine HQ.keep [(1, _), (2, _), (3, _), (8, _), (9, _), (10, _), (5, _)] z7 ?_
    refine HQ.ret ?_
    refine HQ.thenR ?_
    refine HQ.blkR ?_
    refine HQ.thenR ?_
    obtain rfl := Option.some.inj H
    refine HQ.retL ?_
    exact HQ.fin (vs := [_]) Try.results35 () z1 rfl [] trivial rfl
   ·refine HQ.condF rfl hc ?_
    clear hc
    refine HQ.skipThen ?_
    refine HQ.regionQ ?_
    refine pu Pu.move z1 z3 ?_
    refine pu (Pu.fieldB fo49_0 rfl) z1 z3 ?_
    refine op [5] [5] (OT.loadB sc3 rfl) z1 z1 z4 (fun _ => rfl) fun _ => ?_
    refine HQ.opN [2] [2] [] (OT.mapUpdate ul129 ul3) z3 z1 rfl rfl rfl (fun _ => rfl) fun _ => ?_
    refine HQ.done ?_
    refine HQ.keep [(1, _), (2, _), (3, _), (8, _), (9, _), (10, _)] z6 ?_
    refine HQ.blkN ?_
    refine HQ.thenN ?_
    refine HQ.regionQ ?_
    refine pu Pu.add z2 z3 ?_
    refine pu Pu.move z1 z3 ?_
    refine HQ.done ?_
    refine HQ.keep [(1, _), (2, _), (3, _), (8, _), (9, _), (10, _)] z6 ?_
    obtain rfl := Option.some.inj H
    exact HQ.next () z6 z2 rfl
  ·refine HQ.condF rfl hc ?_
   clear hc
   refine HQ.exit ?_
   refine HQ.thenE ?_
   obtain rfl := Option.some.inj H
   exact HQ.out () z6 z2 rfl
 ·rintro ⟨l48, i49⟩ rfl _
  clear h52
  replace H := H
  refine HQ.keep [(1, _), (2, _), (3, _), (8, _), (9, _), (10, _)] z6 ?_
  refine HQ.keepR [(1, _), (2, _)] z2 rfl ?_
  refine HQ.blkE ?_
  refine HQ.thenN ?_
  refine HQ.rseq ?_
  refine op [1] [1] (OT.loadBA (vs := [vI p0.Seq, vI p0.Root, vI p0.Size, vS a_0 p0.Puts c_0]) ag57 sz57 rfl rfl) z1 z1 z4 (fun _ => rfl) fun _ => ?_
  obtain ⟨t50, h51, H⟩ := bnd H
  refine op [] [] (OT.call (us := [_]) (Pre := []) [.tmp 38] Try.call104 rfl rfl fun w F hs hF hp => impl_Tx_numbersOk_c h51) z2 trivial z4 (fun _ => rfl) fun _ => ?_
  refine pu Pu.assign z1 z3 ?_
  refine HQ.done ?_
  refine HQ.keep [(2, _)] z1 ?_
  refine HQ.ret ?_
  obtain rfl := Option.some.inj H
  exact HQ.fin (vs := [_]) Try.results35 () z1 rfl [] trivial rfl
 ·rintro r rfl a w hr
  obtain rfl := Option.some.inj H
  exact hr

theorem slices_Clone_byte_byte_c {w : World} {p0 : (List Int)} {a_0 : Option Addr} {c_0 : Nat} (hb_0 : BorS kU8 a_0 c_0 p0 w.heap (Lt w Nil)) {r : (List Int)} (H : slices_Clone_byte_byte p0 = some r) :
  Calls Try.prog 88 #[vS a_0 p0 c_0] w (Rt w Nil (fun g : Option Addr × Nat => vS g.1 r g.2) (fun g => [OwnS kU8 g.1 g.2 r])) := by
 rw [slices_Clone_byte_byte] at H
 obtain ⟨h5, H⟩ := asr H
 obtain rfl := Option.some.inj H
 refine Calls.enter0 (N := 8) (us := [_]) Try.func88 rfl rfl rfl ?_
 refine HQ.rseq ?_
 refine pu Pu.assign z1 z3 ?_
 refine HQ.done ?_
 refine HQ.seq ?_
 refine HQ.rseq ?_
 refine pu Pu.move z1 z3 ?_
 refine pu (Pu.eqlNil ul22) z2 z3 ?_
 refine HQ.done ?_
 cases a_0 with
 | none =>
  refine HQ.condT rfl rfl ?_
  have hp : p0 = [] := by
   rcases hb_0.2 with h | ⟨b, off, cs, ty, fz, h, _⟩
   ·exact h
   ·cases h
  subst hp
  refine HQ.rseq ?_
  refine pu Pu.assign z1 z3 ?_
  refine HQ.done ?_
  refine HQ.ret ?_
  refine HQ.thenR ?_
  refine HQ.nil kU8 1 rfl ?_
  exact HQ.fin (vs := [_]) Try.results88 (none, 0) z1 rfl [1] z1 rfl
 | some a =>
  refine HQ.condF rfl rfl ?_
  refine HQ.skipThen ?_
  refine HQ.rseq ?_
  refine op [] [1] (OT.buildF (us := []) (ys := ([] : (List Int))) (enc := (encI .u8)) (hl := fun _ => ⟨rfl, rfl⟩) [] sl22.ul sl22.szE sl22.zc rfl rfl rfl rfl rfl) trivial trivial z4 (fun _ => rfl) fun ⟨a1, c2⟩ => ?_
  refine pu Pu.move z1 z3 ?_
  refine op [1] [1] (OT.appendF (enc := (encI .u8)) (hl := fun _ => ⟨rfl, rfl⟩) sl22 ul22 hb_0 (by simpa using h5)) z2 z1 z4 (fun _ => rfl) fun ⟨a3, c4⟩ => ?_
  refine pu Pu.assign z1 z3 ?_
  refine HQ.done ?_
  refine HQ.ret ?_
  exact HQ.fin (vs := [_]) Try.results88 (a3, c4) z1 rfl [1] z1 rfl

theorem impl_Put2_c {w : World} {p0 : (List Int)} {p1 : Int} {a_0 : Option Addr} {c_0 : Nat} (hb_0 : BorS kU8 a_0 c_0 p0 w.heap (Lt w Nil)) {r : (List Int)} (H : impl_Put2 p0 p1 = some r) :
  Calls Try.prog 97 #[vS a_0 p0 c_0, vI p1] w (Rt w Nil (fun g : Option Addr × Nat => vS g.1 r g.2) (fun g => [OwnS kU8 g.1 g.2 r])) := by
 rw [impl_Put2] at H
 refine Calls.enter0 (N := 20) (us := [_, _]) Try.func97 rfl rfl rfl ?_
 refine HQ.rseq ?_
 refine pu Pu.assign z1 z3 ?_
 refine HQ.done ?_
 refine HQ.keep [(0, _), (1, _), (4, _)] z3 ?_
 refine HQ.rseq ?_
 refine pu Pu.move z1 z3 ?_
 obtain ⟨t1, h2, H⟩ := bnd H
 refine op [] [1] (OT.call (us := [_]) (Pre := []) [.tmp 6] Try.call88 rfl rfl fun w F hs hF hp => slices_Clone_byte_byte_c (hb_0.pass hp) h2) z2 trivial z4 (fun _ => rfl) fun ⟨a3, c4⟩ => ?_
 refine pu Pu.assign z1 z3 ?_
 refine HQ.done ?_
 refine HQ.keep [(1, _), (4, _), (5, _)] z3 ?_
 refine HQ.seq ?_
 refine HQ.rseq ?_
 refine pu Pu.move z1 z3 ?_
 obtain ⟨t5, h6, H⟩ := bnd H
 refine op [] [] (OT.call (us := [_, _, _]) (Pre := []) [.tmp 8, .const (vI 0), .const (vI 65535)] Try.call83 rfl rfl fun w F hs hF hp => impl_in_c h6) z4 trivial z4 (fun _ => rfl) fun _ => ?_
 refine pu Pu.not z1 z3 ?_
 refine HQ.done ?_
 refine HQ.keep [(1, _), (4, _), (5, _), (10, _)] z4 ?_
 rcases brk H with ⟨hc, H⟩ | ⟨hc, H⟩
 ·refine HQ.condT rfl hc ?_
  clear hc
  refine HQ.rseq ?_
  refine pu Pu.move z1 z3 ?_
  refine pu Pu.assign z1 z3 ?_
  refine HQ.done ?_
  refine HQ.keep [(1, _), (4, _), (5, _)] z3 ?_
  refine HQ.ret ?_
  refine HQ.thenR ?_
  obtain rfl := Option.some.inj H
  exact HQ.fin (vs := [_]) Try.results97 (a3, c4) z1 rfl [1] z1 rfl
 ·refine HQ.condF rfl hc ?_
  clear hc
  refine HQ.skipThen ?_
  refine HQ.rseq ?_
  refine pu Pu.move z1 z3 ?_
  refine pu Pu.move z1 z3 ?_
  refine pu (Pu.shr (by decide)) z2 z3 ?_
  refine pu (Pu.conv ul3 ul5) z1 z3 ?_
  refine pu Pu.move z1 z3 ?_
  refine pu (Pu.conv ul3 ul5) z1 z3 ?_
  refine op [] [2] (OT.buildF (us := [.int .u8 (IntKind.u8.wrap (Int.fdiv p1 (2 ^ (min (Int.toNat 8) 64)))), .int .u8 (IntKind.u8.wrap p1)]) (ys := ([(IntKind.u8.wrap (Int.fdiv p1 (2 ^ (min (Int.toNat 8) 64)))), (IntKind.u8.wrap p1)] : (List Int))) (enc := (encI .u8)) (hl := fun _ => ⟨rfl, rfl⟩) [.tmp 15, .tmp 17] sl22.ul sl22.szE sl22.zc rfl rfl rfl rfl rfl) z2 trivial z4 (fun _ => rfl) fun ⟨a7, c8⟩ => ?_
  obtain ⟨h11, H⟩ := asr H
  refine op [1, 2] [1, 2] (OT.appendG (enc := (encI .u8)) (hl := fun _ => ⟨rfl, rfl⟩) sl22 ul22 h11) z2 z2 z4 (fun _ => rfl) fun ⟨a9, c10⟩ => ?_
  refine pu Pu.assign z1 z3 ?_
  refine HQ.done ?_
  refine HQ.keep [(4, _)] z1 ?_
  refine HQ.ret ?_
  obtain rfl := Option.some.inj H
  exact HQ.fin (vs := [_]) Try.results97 (a9, c10) z1 rfl [1] z1 rfl

theorem impl_endCell_c {w : World} {p0 : Int} {p1 : TTx} {p2 : Int} {a_0 : Option Addr} {c_0 : Nat}  {r : (List Int)} (H : impl_endCell p0 p1 p2 = some r) :
  Calls Try.prog 102 #[vI p0, .agg #[vI p1.Seq, vI p1.Root, vI p1.Size, vS a_0 p1.Puts c_0], vI p2] w (Rt w Nil (fun g : Option Addr × Nat => vS g.1 r g.2) (fun g => [OwnS kU8 g.1 g.2 r])) := by
 rw [impl_endCell] at H
 refine Calls.enter0 (N := 23) (us := [_, _, _]) Try.func102 rfl rfl rfl ?_
 refine HQ.rseq ?_
 refine op [] [1] (OT.box (cs := [vI p1.Seq, vI p1.Root, vI p1.Size, vS a_0 p1.Puts c_0]) rfl) z1 trivial z4 (fun _ => rfl) fun b1 => ?_
 refine pu Pu.assign z1 z3 ?_
 refine HQ.done ?_
 refine HQ.keep [(0, _), (2, _), (4, _), (6, _)] z4 ?_
 obtain ⟨t5, h6, H⟩ := bnd H
 obtain ⟨t9, h10, H⟩ := bnd H
 refine HQ.drawS mixd [(0, vI p0), (2, vI p2), (4, BP b1 0), (6, .slice none 0 0)] 15 [⟨[], [0], []⟩, ⟨[], [], []⟩, ⟨[0], [1, 0], [0, 1]⟩, ⟨[], [], []⟩, ⟨[2], [2], [3]⟩, ⟨[1], [3, 1], [2, 4]⟩, ⟨[], [], []⟩, ⟨[2], [2], [6]⟩, ⟨[], [], [7]⟩, ⟨[], [], []⟩, ⟨[2], [2], [9]⟩, ⟨[], [], [10]⟩, ⟨[], [], []⟩, ⟨[], [], [12]⟩, ⟨[], [4], [8, 11, 13]⟩] [⟨some 0, none⟩, ⟨some 2, none⟩, ⟨none, none⟩, ⟨some 5, none⟩, ⟨some 14, none⟩] (fun (g2 : (Option Addr × Nat) × (Option Addr × Nat) × (Option Addr × Nat) × (Option Addr × Nat)) => [vS g2.1.1 ([2] : (List Int)) g2.1.2, vI p0, vS g2.2.1.1 t5 g2.2.1.2, BP b1 0, vI p1.Seq, vS g2.2.2.1.1 t9 g2.2.2.1.2, BP b1 1, vI p1.Root, .int .u8 (IntKind.u8.wrap p1.Root), BP b1 2, vI p1.Size, .int .u8 (IntKind.u8.wrap p1.Size), vI p2, .int .u8 (IntKind.u8.wrap p2), vS g2.2.2.2.1 ([(IntKind.u8.wrap p1.Root), (IntKind.u8.wrap p1.Size), (IntKind.u8.wrap p2)] : (List Int)) g2.2.2.2.2]) (fun (g2 : (Option Addr × Nat) × (Option Addr × Nat) × (Option Addr × Nat) × (Option Addr × Nat)) => [OwnS kU8 g2.1.1 g2.1.2 ([2] : (List Int)), OwnS kU8 g2.2.1.1 g2.2.1.2 t5, Box b1 [vI p1.Seq, vI p1.Root, vI p1.Size, vS a_0 p1.Puts c_0], OwnS kU8 g2.2.2.1.1 g2.2.2.1.2 t9, OwnS kU8 g2.2.2.2.1 g2.2.2.2.2 ([(IntKind.u8.wrap p1.Root), (IntKind.u8.wrap p1.Size), (IntKind.u8.wrap p2)] : (List Int))]) ((none, 0), (none, 0), (none, 0), (none, 0)) [1] [2, 3, 1, 4, 5] [] z4 z1 rfl (by kernel_rfl) (fun _ => rfl) (by kernel_rfl) (fun _ => rfl) ⟨?_, ?_, ?_, ?_, ?_, ?_, ?_, ?_, ?_, ?_, ?_, ?_, ?_, ?_, ?_, trivial⟩ fun g2 => ?_
 ·exact OpOK.of (fun g2 => [(.const (.int .u8 2), .int .u8 2)]) _ _ (fun g2 x => (x, g2.2.1, g2.2.2.1, g2.2.2.2)) rfl rfl (fun _ => z1) (fun g2 => OT.buildF (us := [.int .u8 2]) (ys := ([2] : (List Int))) (enc := (encI .u8)) (hl := fun _ => ⟨rfl, rfl⟩) [.const (.int .u8 2)] sl22.ul sl22.szE sl22.zc rfl rfl rfl rfl rfl) (fun _ _ => z7)
 ·exact OpOK.pu (fun g2 => [(.tmp 0, vI p0)]) z2 (fun _ => z1) (fun _ => Pu.move) (fun _ => z1) (fun _ _ => z7)
 ·exact OpOK.of (fun g2 => [(.func 97, .func (.func 97) #[] #[]), (.tmp 7, vS g2.1.1 ([2] : (List Int)) g2.1.2), (.tmp 8, vI p0)]) _ _ (fun g2 x => (g2.1, x, g2.2.2.1, g2.2.2.2)) rfl rfl (fun _ => z3) (fun g2 => OT.call (us := [_, _]) (Pre := [OwnS kU8 g2.1.1 g2.1.2 ([2] : (List Int))]) [.tmp 7, .tmp 8] Try.call97 rfl rfl fun w F hs hF hp => impl_Put2_c (hs.lend hF 0 rfl) h6) (fun _ _ => z7)
 ·exact OpOK.pu (fun g2 => [(.tmp 4, BP b1 0)]) z2 (fun _ => z1) (fun _ => (Pu.fieldB fo57_0 rfl)) (fun _ => z1) (fun _ _ => z7)
 ·exact OpOK.of (fun g2 => [(.tmp 10, BP b1 0)]) _ _ (fun g2 _ => g2) rfl rfl (fun _ => z1) (fun g2 => OT.loadB sc3 rfl) (fun _ _ => z7)
 ·exact OpOK.of (fun g2 => [(.func 97, .func (.func 97) #[] #[]), (.tmp 9, vS g2.2.1.1 t5 g2.2.1.2), (.tmp 11, vI p1.Seq)]) _ _ (fun g2 x => (g2.1, g2.2.1, x, g2.2.2.2)) rfl rfl (fun _ => z3) (fun g2 => OT.call (us := [_, _]) (Pre := [OwnS kU8 g2.2.1.1 g2.2.1.2 t5]) [.tmp 9, .tmp 11] Try.call97 rfl rfl fun w F hs hF hp => impl_Put2_c (hs.lend hF 0 rfl) h10) (fun _ _ => z7)
 ·exact OpOK.pu (fun g2 => [(.tmp 4, BP b1 0)]) z2 (fun _ => z1) (fun _ => (Pu.fieldB fo57_1 rfl)) (fun _ => z1) (fun _ _ => z7)
 ·exact OpOK.of (fun g2 => [(.tmp 13, BP b1 1)]) _ _ (fun g2 _ => g2) rfl rfl (fun _ => z1) (fun g2 => OT.loadB sc3 rfl) (fun _ _ => z7)
 ·exact OpOK.pu (fun g2 => [(.tmp 14, vI p1.Root)]) z2 (fun _ => z1) (fun _ => (Pu.conv ul3 ul5)) (fun _ => z1) (fun _ _ => z7)
 ·exact OpOK.pu (fun g2 => [(.tmp 4, BP b1 0)]) z2 (fun _ => z1) (fun _ => (Pu.fieldB fo57_2 rfl)) (fun _ => z1) (fun _ _ => z7)
 ·exact OpOK.of (fun g2 => [(.tmp 16, BP b1 2)]) _ _ (fun g2 _ => g2) rfl rfl (fun _ => z1) (fun g2 => OT.loadB sc3 rfl) (fun _ _ => z7)
 ·exact OpOK.pu (fun g2 => [(.tmp 17, vI p1.Size)]) z2 (fun _ => z1) (fun _ => (Pu.conv ul3 ul5)) (fun _ => z1) (fun _ _ => z7)
 ·exact OpOK.pu (fun g2 => [(.tmp 2, vI p2)]) z2 (fun _ => z1) (fun _ => Pu.move) (fun _ => z1) (fun _ _ => z7)
 ·exact OpOK.pu (fun g2 => [(.tmp 19, vI p2)]) z2 (fun _ => z1) (fun _ => (Pu.conv ul3 ul5)) (fun _ => z1) (fun _ _ => z7)
 ·exact OpOK.of (fun g2 => [(.tmp 15, .int .u8 (IntKind.u8.wrap p1.Root)), (.tmp 18, .int .u8 (IntKind.u8.wrap p1.Size)), (.tmp 20, .int .u8 (IntKind.u8.wrap p2))]) _ _ (fun g2 x => (g2.1, g2.2.1, g2.2.2.1, x)) rfl rfl (fun _ => z3) (fun g2 => OT.buildF (us := [.int .u8 (IntKind.u8.wrap p1.Root), .int .u8 (IntKind.u8.wrap p1.Size), .int .u8 (IntKind.u8.wrap p2)]) (ys := ([(IntKind.u8.wrap p1.Root), (IntKind.u8.wrap p1.Size), (IntKind.u8.wrap p2)] : (List Int))) (enc := (encI .u8)) (hl := fun _ => ⟨rfl, rfl⟩) [.tmp 15, .tmp 18, .tmp 20] sl22.ul sl22.szE sl22.zc rfl rfl rfl rfl rfl) (fun _ _ => z7)
 refine HQ.keep [(6, _), (12, _), (21, _)] z3 ?_
 refine HQ.keepR [(1, _), (2, _), (3, _), (4, _), (5, _)] z5 rfl ?_
 obtain ⟨h17, H⟩ := asr H
 refine op [4, 5] [4, 5] (OT.appendG (enc := (encI .u8)) (hl := fun _ => ⟨rfl, rfl⟩) sl22 ul22 h17) z2 z2 z4 (fun _ => rfl) fun ⟨a15, c16⟩ => ?_
 refine pu Pu.assign z1 z3 ?_
 refine HQ.done ?_
 refine HQ.keep [(6, _)] z1 ?_
 refine HQ.ret ?_
 obtain rfl := Option.some.inj H
 exact HQ.fin (vs := [_]) Try.results102 (a15, c16) z1 rfl [4] z1 rfl

theorem impl_EndCell_c {w : World} {k : Nat} {p0 : Int} {p1 : TTx} {a_0 : Option Addr} {c_0 : Nat} (hb_0 : BorS kTChange a_0 c_0 p1.Puts w.heap (Lt w Nil)) {r : (List Int)} (H : impl_EndCell k p0 p1 = some r) :
  Calls Try.prog 30 #[vI p0, .agg #[vI p1.Seq, vI p1.Root, vI p1.Size, vS a_0 p1.Puts c_0]] w (Rt w Nil (fun g : Option Addr × Nat => vS g.1 r g.2) (fun g => [OwnS kU8 g.1 g.2 r])) := by
 rw [impl_EndCell] at H
 refine Calls.enter0 (N := 19) (us := [_, _]) Try.func30 rfl rfl rfl ?_
 refine HQ.rseq ?_
 refine op [] [1] (OT.box (cs := [vI p1.Seq, vI p1.Root, vI p1.Size, vS a_0 p1.Puts c_0]) rfl) z1 trivial z4 (fun _ => rfl) fun b1 => ?_
 refine pu Pu.assign z1 z3 ?_
 refine HQ.done ?_
 refine HQ.keep [(0, _), (3, _), (4, _)] z3 ?_
 refine HQ.seq ?_
 refine HQ.rseq ?_
 refine pu Pu.move z1 z3 ?_
 obtain ⟨t2, h3, H⟩ := bnd H
 refine op [] [] (OT.call (us := [_, _, _]) (Pre := []) [.tmp 5, .const (vI 0), .const (vI 65535)] Try.call83 rfl rfl fun w F hs hF hp => impl_in_c h3) z4 trivial z4 (fun _ => rfl) fun _ => ?_
 refine pu Pu.not z1 z3 ?_
 refine pu Pu.move z1 z3 ?_
 obtain ⟨c7, h8, H⟩ := bnd H
 refine HQ.cutAt 4 [(12, .bool c7), (0, vI p0), (3, BP b1 0), (4, .slice none 0 0)] [(1, Box b1 [vI p1.Seq, vI p1.Root, vI p1.Size, vS a_0 p1.Puts c_0])] ?_ ?_
 ·clear H
  have H := h8
  rcases brk H with ⟨hg4, H⟩ | ⟨hg4, H⟩
  ·obtain rfl := Option.some.inj H
   refine HQ.off rfl rfl hg4 rfl ?_
   refine HQ.off rfl rfl hg4 rfl ?_
   refine HQ.off rfl rfl hg4 rfl ?_
   refine pu (Pu.pickC1 hg4) z2 z3 ?_
   exact HQ.mid z4 z1 rfl
  ·refine HQ.on rfl rfl hg4 ?_
   refine op [1] [1] (OT.loadBA (vs := [vI p1.Seq, vI p1.Root, vI p1.Size, vS a_0 p1.Puts c_0]) ag57 sz57 rfl rfl) z1 z1 z4 (fun _ => rfl) fun _ => ?_
   refine HQ.on rfl rfl hg4 ?_
   obtain ⟨t5, h6, H⟩ := bnd H
   refine op [] [] (OT.call (us := [_]) (Pre := []) [.tmp 9] Try.call35 rfl rfl fun w F hs hF hp => impl_TxOk_c (hb_0.pass hp) h6) z2 trivial z4 (fun _ => rfl) fun _ => ?_
   refine HQ.on rfl rfl hg4 ?_
   refine pu Pu.not z1 z3 ?_
   obtain rfl := Option.some.inj H
   refine pu (Pu.pickC0 hg4) z2 z3 ?_
   exact HQ.mid z4 z1 rfl
 refine HQ.done ?_
 refine HQ.keep [(12, _), (0, _), (3, _), (4, _)] z4 ?_
 rcases brk H with ⟨hc, H⟩ | ⟨hc, H⟩
 ·refine HQ.condT rfl hc ?_
  clear hc
  refine HQ.rseq ?_
  refine pu Pu.assign z1 z3 ?_
  refine HQ.done ?_
  refine HQ.keep [(0, _), (3, _), (4, _)] z3 ?_
  refine HQ.ret ?_
  refine HQ.thenR ?_
  obtain rfl := Option.some.inj H
  refine HQ.nil kU8 2 rfl ?_
  exact HQ.fin (vs := [_]) Try.results30 (none, 0) z1 rfl [2] z1 rfl
 ·refine HQ.condF rfl hc ?_
  clear hc
  refine HQ.skipThen ?_
  refine HQ.rseq ?_
  refine pu Pu.move z1 z3 ?_
  refine op [1] [1] (OT.loadBA (vs := [vI p1.Seq, vI p1.Root, vI p1.Size, vS a_0 p1.Puts c_0]) ag57 sz57 rfl rfl) z1 z1 z4 (fun _ => rfl) fun _ => ?_
  refine pu (Pu.fieldB fo57_3 rfl) z1 z3 ?_
  refine op [1] [1] (OT.loadB sc55 rfl) z1 z1 z4 (fun _ => rfl) fun _ => ?_
  refine pu (Pu.len ul55) z1 z3 ?_
  obtain ⟨t9, h10, H⟩ := bnd H
  refine op [] [3] (OT.call (us := [_, _, _]) (Pre := []) [.tmp 13, .tmp 14, .tmp 17] Try.call102 rfl rfl fun w F hs hF hp => impl_endCell_c h10) z4 trivial z4 (fun _ => rfl) fun ⟨a11, c12⟩ => ?_
  refine pu Pu.assign z1 z3 ?_
  refine HQ.done ?_
  refine HQ.keep [(4, _)] z1 ?_
  refine HQ.ret ?_
  obtain rfl := Option.some.inj H
  exact HQ.fin (vs := [_]) Try.results30 (a11, c12) z1 rfl [3] z1 rfl

theorem impl_PutEntry_c {w : World} {p0 : TEntry}   {r : (List Int)} (H : impl_PutEntry p0 = some r) :
  Calls Try.prog 126 #[.agg #[vI p0.N, vI p0.R.X0, vI p0.R.Y0, vI p0.R.X1, vI p0.R.Y1]] w (Rt w Nil (fun g : Option Addr × Nat => vS g.1 r g.2) (fun g => [OwnS kU8 g.1 g.2 r])) := by
 rw [impl_PutEntry] at H
 refine Calls.enter0 (N := 34) (us := [_]) Try.func126 rfl rfl rfl ?_
 refine HQ.rseq ?_
 refine op [] [1] (OT.box (cs := [vI p0.N, vI p0.R.X0, vI p0.R.Y0, vI p0.R.X1, vI p0.R.Y1]) rfl) z1 trivial z4 (fun _ => rfl) fun b1 => ?_
 refine pu Pu.assign z1 z3 ?_
 refine HQ.done ?_
 refine HQ.keep [(1, _), (2, _)] z2 ?_
 refine HQ.seq ?_
 refine HQ.rseq ?_
 refine pu (Pu.fieldB fo134_0 rfl) z1 z3 ?_
 refine op [1] [1] (OT.loadB sc3 rfl) z1 z1 z4 (fun _ => rfl) fun _ => ?_
 obtain ⟨t2, h3, H⟩ := bnd H
 refine op [] [] (OT.call (us := [_, _, _]) (Pre := []) [.tmp 4, .const (vI 0), .const (vI 65535)] Try.call83 rfl rfl fun w F hs hF hp => impl_in_c h3) z4 trivial z4 (fun _ => rfl) fun _ => ?_
 refine pu Pu.not z1 z3 ?_
 refine pu Pu.move z1 z3 ?_
 obtain ⟨c7, h8, H⟩ := bnd H
 refine HQ.cutAt 5 [(12, .bool c7), (1, BP b1 0), (2, .slice none 0 0)] [(1, Box b1 [vI p0.N, vI p0.R.X0, vI p0.R.Y0, vI p0.R.X1, vI p0.R.Y1])] ?_ ?_
 ·clear H
  have H := h8
  rcases brk H with ⟨hg4, H⟩ | ⟨hg4, H⟩
  ·obtain rfl := Option.some.inj H
   refine HQ.off rfl rfl hg4 rfl ?_
   refine HQ.off rfl rfl hg4 rfl ?_
   refine HQ.off rfl rfl hg4 rfl ?_
   refine HQ.off rfl rfl hg4 rfl ?_
   refine pu (Pu.pickC1 hg4) z2 z3 ?_
   exact HQ.mid z3 z1 rfl
  ·refine HQ.on rfl rfl hg4 ?_
   refine pu (Pu.fieldB fo134_1 rfl) z1 z3 ?_
   refine HQ.on rfl rfl hg4 ?_
   refine op [1] [1] (OT.loadBA (vs := [vI p0.R.X0, vI p0.R.Y0, vI p0.R.X1, vI p0.R.Y1]) ag132 sz132 rfl rfl) z1 z1 z4 (fun _ => rfl) fun _ => ?_
   refine HQ.on rfl rfl hg4 ?_
   obtain ⟨t5, h6, H⟩ := bnd H
   refine op [] [] (OT.call (us := [_]) (Pre := []) [.tmp 9] Try.call109 rfl rfl fun w F hs hF hp => impl_BoxOk_c h6) z2 trivial z4 (fun _ => rfl) fun _ => ?_
   refine HQ.on rfl rfl hg4 ?_
   refine pu Pu.not z1 z3 ?_
   obtain rfl := Option.some.inj H
   refine pu (Pu.pickC0 hg4) z2 z3 ?_
   exact HQ.mid z3 z1 rfl
 refine HQ.done ?_
 refine HQ.keep [(12, _), (1, _), (2, _)] z3 ?_
 rcases brk H with ⟨hc, H⟩ | ⟨hc, H⟩
 ·refine HQ.condT rfl hc ?_
  clear hc
  refine HQ.rseq ?_
  refine pu Pu.assign z1 z3 ?_
  refine HQ.done ?_
  refine HQ.keep [(1, _), (2, _)] z2 ?_
  refine HQ.ret ?_
  refine HQ.thenR ?_
  obtain rfl := Option.some.inj H
  refine HQ.nil kU8 2 rfl ?_
  exact HQ.fin (vs := [_]) Try.results126 (none, 0) z1 rfl [2] z1 rfl
 ·refine HQ.condF rfl hc ?_
  clear hc
  refine HQ.skipThen ?_
  obtain ⟨t10, h11, H⟩ := bnd H
  refine HQ.drawS mixd [(1, BP b1 0), (2, .slice none 0 0)] 20 [⟨[], [], []⟩, ⟨[0], [0], [0]⟩, ⟨[], [1], [1]⟩, ⟨[], [], []⟩, ⟨[], [], [3]⟩, ⟨[0], [0], [4]⟩, ⟨[], [], [5]⟩, ⟨[], [], []⟩, ⟨[], [], [7]⟩, ⟨[0], [0], [8]⟩, ⟨[], [], [9]⟩, ⟨[], [], []⟩, ⟨[], [], [11]⟩, ⟨[0], [0], [12]⟩, ⟨[], [], [13]⟩, ⟨[], [], []⟩, ⟨[], [], [15]⟩, ⟨[0], [0], [16]⟩, ⟨[], [], [17]⟩, ⟨[], [2], [6, 10, 14, 18]⟩] [⟨none, none⟩, ⟨some 2, none⟩, ⟨some 19, none⟩] (fun (g9 : (Option Addr × Nat) × (Option Addr × Nat)) => [BP b1 0, vI p0.N, vS g9.1.1 t10 g9.1.2, BP b1 1, BP b1 1, vI p0.R.X0, .int .u8 (IntKind.u8.wrap p0.R.X0), BP b1 1, BP b1 2, vI p0.R.Y0, .int .u8 (IntKind.u8.wrap p0.R.Y0), BP b1 1, BP b1 3, vI p0.R.X1, .int .u8 (IntKind.u8.wrap p0.R.X1), BP b1 1, BP b1 4, vI p0.R.Y1, .int .u8 (IntKind.u8.wrap p0.R.Y1), vS g9.2.1 ([(IntKind.u8.wrap p0.R.X0), (IntKind.u8.wrap p0.R.Y0), (IntKind.u8.wrap p0.R.X1), (IntKind.u8.wrap p0.R.Y1)] : (List Int)) g9.2.2]) (fun (g9 : (Option Addr × Nat) × (Option Addr × Nat)) => [Box b1 [vI p0.N, vI p0.R.X0, vI p0.R.Y0, vI p0.R.X1, vI p0.R.Y1], OwnS kU8 g9.1.1 g9.1.2 t10, OwnS kU8 g9.2.1 g9.2.2 ([(IntKind.u8.wrap p0.R.X0), (IntKind.u8.wrap p0.R.Y0), (IntKind.u8.wrap p0.R.X1), (IntKind.u8.wrap p0.R.Y1)] : (List Int))]) ((none, 0), (none, 0)) [1] [1, 3, 4] [] z2 z1 rfl (by kernel_rfl) (fun _ => rfl) (by kernel_rfl) (fun _ => rfl) ⟨?_, ?_, ?_, ?_, ?_, ?_, ?_, ?_, ?_, ?_, ?_, ?_, ?_, ?_, ?_, ?_, ?_, ?_, ?_, ?_, trivial⟩ fun g9 => ?_
  ·exact OpOK.pu (fun g9 => [(.tmp 1, BP b1 0)]) z2 (fun _ => z1) (fun _ => (Pu.fieldB fo134_0 rfl)) (fun _ => z1) (fun _ _ => z5)
  ·exact OpOK.of (fun g9 => [(.tmp 13, BP b1 0)]) _ _ (fun g9 _ => g9) rfl rfl (fun _ => z1) (fun g9 => OT.loadB sc3 rfl) (fun _ _ => z5)
  ·exact OpOK.of (fun g9 => [(.func 97, .func (.func 97) #[] #[]), (.const (.slice none 0 0), .slice none 0 0), (.tmp 14, vI p0.N)]) _ _ (fun g9 x => (x, g9.2)) rfl rfl (fun _ => z3) (fun g9 => OT.call (us := [_, _]) (Pre := []) [.const (.slice none 0 0), .tmp 14] Try.call97 rfl rfl fun w F hs hF hp => impl_Put2_c (p0 := ([] : (List Int))) (p1 := p0.N) nilB h11) (fun _ _ => z5)
  ·exact OpOK.pu (fun g9 => [(.tmp 1, BP b1 0)]) z2 (fun _ => z1) (fun _ => (Pu.fieldB fo134_1 rfl)) (fun _ => z1) (fun _ _ => z5)
  ·exact OpOK.pu (fun g9 => [(.tmp 16, BP b1 1)]) z2 (fun _ => z1) (fun _ => (Pu.fieldB fo132_0 rfl)) (fun _ => z1) (fun _ _ => z5)
  ·exact OpOK.of (fun g9 => [(.tmp 17, BP b1 1)]) _ _ (fun g9 _ => g9) rfl rfl (fun _ => z1) (fun g9 => OT.loadB sc3 rfl) (fun _ _ => z5)
  ·exact OpOK.pu (fun g9 => [(.tmp 18, vI p0.R.X0)]) z2 (fun _ => z1) (fun _ => (Pu.conv ul3 ul5)) (fun _ => z1) (fun _ _ => z5)
  ·exact OpOK.pu (fun g9 => [(.tmp 1, BP b1 0)]) z2 (fun _ => z1) (fun _ => (Pu.fieldB fo134_1 rfl)) (fun _ => z1) (fun _ _ => z5)
  ·exact OpOK.pu (fun g9 => [(.tmp 20, BP b1 1)]) z2 (fun _ => z1) (fun _ => (Pu.fieldB fo132_1 rfl)) (fun _ => z1) (fun _ _ => z5)
  ·exact OpOK.of (fun g9 => [(.tmp 21, BP b1 2)]) _ _ (fun g9 _ => g9) rfl rfl (fun _ => z1) (fun g9 => OT.loadB sc3 rfl) (fun _ _ => z5)
  ·exact OpOK.pu (fun g9 => [(.tmp 22, vI p0.R.Y0)]) z2 (fun _ => z1) (fun _ => (Pu.conv ul3 ul5)) (fun _ => z1) (fun _ _ => z5)
  ·exact OpOK.pu (fun g9 => [(.tmp 1, BP b1 0)]) z2 (fun _ => z1) (fun _ => (Pu.fieldB fo134_1 rfl)) (fun _ => z1) (fun _ _ => z5)
  ·exact OpOK.pu (fun g9 => [(.tmp 24, BP b1 1)]) z2 (fun _ => z1) (fun _ => (Pu.fieldB fo132_2 rfl)) (fun _ => z1) (fun _ _ => z5)
  ·exact OpOK.of (fun g9 => [(.tmp 25, BP b1 3)]) _ _ (fun g9 _ => g9) rfl rfl (fun _ => z1) (fun g9 => OT.loadB sc3 rfl) (fun _ _ => z5)
  ·exact OpOK.pu (fun g9 => [(.tmp 26, vI p0.R.X1)]) z2 (fun _ => z1) (fun _ => (Pu.conv ul3 ul5)) (fun _ => z1) (fun _ _ => z5)
  ·exact OpOK.pu (fun g9 => [(.tmp 1, BP b1 0)]) z2 (fun _ => z1) (fun _ => (Pu.fieldB fo134_1 rfl)) (fun _ => z1) (fun _ _ => z5)
  ·exact OpOK.pu (fun g9 => [(.tmp 28, BP b1 1)]) z2 (fun _ => z1) (fun _ => (Pu.fieldB fo132_3 rfl)) (fun _ => z1) (fun _ _ => z5)
  ·exact OpOK.of (fun g9 => [(.tmp 29, BP b1 4)]) _ _ (fun g9 _ => g9) rfl rfl (fun _ => z1) (fun g9 => OT.loadB sc3 rfl) (fun _ _ => z5)
  ·exact OpOK.pu (fun g9 => [(.tmp 30, vI p0.R.Y1)]) z2 (fun _ => z1) (fun _ => (Pu.conv ul3 ul5)) (fun _ => z1) (fun _ _ => z5)
  ·exact OpOK.of (fun g9 => [(.tmp 19, .int .u8 (IntKind.u8.wrap p0.R.X0)), (.tmp 23, .int .u8 (IntKind.u8.wrap p0.R.Y0)), (.tmp 27, .int .u8 (IntKind.u8.wrap p0.R.X1)), (.tmp 31, .int .u8 (IntKind.u8.wrap p0.R.Y1))]) _ _ (fun g9 x => (g9.1, x)) rfl rfl (fun _ => z4) (fun g9 => OT.buildF (us := [.int .u8 (IntKind.u8.wrap p0.R.X0), .int .u8 (IntKind.u8.wrap p0.R.Y0), .int .u8 (IntKind.u8.wrap p0.R.X1), .int .u8 (IntKind.u8.wrap p0.R.Y1)]) (ys := ([(IntKind.u8.wrap p0.R.X0), (IntKind.u8.wrap p0.R.Y0), (IntKind.u8.wrap p0.R.X1), (IntKind.u8.wrap p0.R.Y1)] : (List Int))) (enc := (encI .u8)) (hl := fun _ => ⟨rfl, rfl⟩) [.tmp 19, .tmp 23, .tmp 27, .tmp 31] sl22.ul sl22.szE sl22.zc rfl rfl rfl rfl rfl) (fun _ _ => z5)
  refine HQ.keep [(2, _), (15, _), (32, _)] z3 ?_
  refine HQ.keepR [(1, _), (3, _), (4, _)] z3 rfl ?_
  obtain ⟨h18, H⟩ := asr H
  refine op [3, 4] [3, 4] (OT.appendG (enc := (encI .u8)) (hl := fun _ => ⟨rfl, rfl⟩) sl22 ul22 h18) z2 z2 z4 (fun _ => rfl) fun ⟨a16, c17⟩ => ?_
  refine pu Pu.assign z1 z3 ?_
  refine HQ.done ?_
  refine HQ.keep [(2, _)] z1 ?_
  refine HQ.ret ?_
  obtain rfl := Option.some.inj H
  exact HQ.fin (vs := [_]) Try.results126 (a16, c17) z1 rfl [3] z1 rfl

theorem impl_Pad_c {w : World} {k : Nat} {p0 : (List Int)} {p1 : Int} {a_0 : Option Addr} {c_0 : Nat} (hb_0 : BorS kU8 a_0 c_0 p0 w.heap (Lt w Nil)) {r : (List Int)} (H : impl_Pad k p0 p1 = some r) :
  Calls Try.prog 24 #[vS a_0 p0 c_0, vI p1] w (Rt w Nil (fun g : Option Addr × Nat => vS g.1 r g.2) (fun g => [OwnS kU8 g.1 g.2 r])) := by
 rw [impl_Pad] at H
 refine Calls.enter0 (N := 19) (us := [_, _]) Try.func24 rfl rfl rfl ?_
 refine HQ.rseq ?_
 refine pu Pu.assign z1 z3 ?_
 refine HQ.done ?_
 refine HQ.keep [(0, _), (1, _), (4, _)] z3 ?_
 refine HQ.rseq ?_
 refine pu Pu.move z1 z3 ?_
 obtain ⟨t1, h2, H⟩ := bnd H
 refine op [] [1] (OT.call (us := [_]) (Pre := []) [.tmp 6] Try.call88 rfl rfl fun w F hs hF hp => slices_Clone_byte_byte_c (hb_0.pass hp) h2) z2 trivial z4 (fun _ => rfl) fun ⟨a3, c4⟩ => ?_
 refine pu Pu.assign z1 z3 ?_
 refine HQ.done ?_
 refine HQ.keep [(1, _), (4, _), (5, _)] z3 ?_
 refine HQ.seq ?_
 refine HQ.rseq ?_
 refine pu Pu.move z1 z3 ?_
 refine pu Pu.gtr z2 z3 ?_
 refine HQ.done ?_
 refine HQ.keep [(1, _), (4, _), (5, _), (9, _)] z4 ?_
 rcases brk H with ⟨hc, H⟩ | ⟨hc, H⟩
 ·refine HQ.condT rfl hc ?_
  clear hc
  refine HQ.rseq ?_
  refine pu Pu.move z1 z3 ?_
  refine pu Pu.assign z1 z3 ?_
  refine HQ.done ?_
  refine HQ.keep [(1, _), (4, _), (5, _)] z3 ?_
  refine HQ.ret ?_
  refine HQ.thenR ?_
  obtain rfl := Option.some.inj H
  exact HQ.fin (vs := [_]) Try.results24 (a3, c4) z1 rfl [1] z1 rfl
 ·refine HQ.condF rfl hc ?_
  clear hc
  refine HQ.skipThen ?_
  refine HQ.seq ?_
  refine HQ.block ?_
  obtain ⟨o23, h27, H⟩ := bnd H
  refine HQ.loop h27 0 (fun (s : (List Int)) (g : Option Addr × Nat) => match s, g with | l10, (a11, c12) => [(1, vI p1), (4, .slice none 0 0), (5, vS a11 l10 c12)]) (fun (s : (List Int)) (g : Option Addr × Nat) => match s, g with | l10, (a11, c12) => [(1, OwnS kU8 a11 c12 l10)]) (fun _ _ _ => False) (a3, c4) z3 z1 rfl ?_ ?_ ?_
  ·clear H h27
   rintro l10 ⟨a11, c12⟩ o H
   rw [impl_Pad_b0] at H
   refine HQ.keep [(1, _), (4, _), (5, _)] z3 ?_
   refine HQ.keepR [(1, _)] z1 rfl ?_
   refine HQ.seq ?_
   refine HQ.rseq ?_
   refine pu Pu.move z1 z3 ?_
   refine pu (Pu.len ul22) z1 z3 ?_
   refine pu Pu.move z1 z3 ?_
   refine pu Pu.lss z2 z3 ?_
   refine HQ.done ?_
   refine HQ.keep [(1, _), (4, _), (5, _), (14, _)] z4 ?_
   rcases brk H with ⟨hc, H⟩ | ⟨hc, H⟩
   ·refine HQ.condT rfl hc ?_
    clear hc
    refine HQ.skipThen ?_
    refine HQ.block ?_
    refine HQ.regionQ ?_
    refine pu Pu.move z1 z3 ?_
    refine op [] [4] (OT.buildF (us := [.int .u8 0]) (ys := ([0] : (List Int))) (enc := (encI .u8)) (hl := fun _ => ⟨rfl, rfl⟩) [.const (.int .u8 0)] sl22.ul sl22.szE sl22.zc rfl rfl rfl rfl rfl) z1 trivial z4 (fun _ => rfl) fun ⟨a18, c19⟩ => ?_
    obtain ⟨h22, H⟩ := asr H
    refine op [1, 4] [1, 4] (OT.appendG (enc := (encI .u8)) (hl := fun _ => ⟨rfl, rfl⟩) sl22 ul22 h22) z2 z2 z4 (fun _ => rfl) fun ⟨a20, c21⟩ => ?_
    refine pu Pu.assign z1 z3 ?_
    refine HQ.done ?_
    refine HQ.keep [(1, _), (4, _), (5, _)] z3 ?_
    refine HQ.blkN ?_
    obtain rfl := Option.some.inj H
    exact HQ.next (a20, c21) z3 z1 rfl
   ·refine HQ.condF rfl hc ?_
    clear hc
    refine HQ.exit ?_
    refine HQ.thenE ?_
    obtain rfl := Option.some.inj H
    exact HQ.out (a11, c12) z3 z1 rfl
  ·rintro l24 rfl ⟨a25, c26⟩
   clear h27
   replace H := H
   refine HQ.keep [(1, _), (4, _), (5, _)] z3 ?_
   refine HQ.keepR [(1, _)] z1 rfl ?_
   refine HQ.blkE ?_
   refine HQ.thenN ?_
   refine HQ.rseq ?_
   refine pu Pu.move z1 z3 ?_
   refine pu Pu.assign z1 z3 ?_
   refine HQ.done ?_
   refine HQ.keep [(4, _)] z1 ?_
   refine HQ.ret ?_
   obtain rfl := Option.some.inj H
   exact HQ.fin (vs := [_]) Try.results24 (a25, c26) z1 rfl [1] z1 rfl
  ·exact fun r h a w hf => hf.elim

theorem impl_PutNode_c {w : World} {k : Nat} {p0 : TNode} {a_0 : Option Addr} {c_0 : Nat} (hb_0 : BorS kTEntry a_0 c_0 p0.L w.heap (Lt w Nil)) {r : (List Int)} (H : impl_PutNode k p0 = some r) :
  Calls Try.prog 98 #[.agg #[.bool p0.Leaf, vS a_0 p0.L c_0]] w (Rt w Nil (fun g : Option Addr × Nat => vS g.1 r g.2) (fun g => [OwnS kU8 g.1 g.2 r])) := by
 rw [impl_PutNode] at H
 refine Calls.enter0 (N := 34) (us := [_]) Try.func98 rfl rfl rfl ?_
 refine HQ.rseq ?_
 refine op [] [1] (OT.box (cs := [.bool p0.Leaf, vS a_0 p0.L c_0]) rfl) z1 trivial z4 (fun _ => rfl) fun b1 => ?_
 refine pu Pu.assign z1 z3 ?_
 refine HQ.done ?_
 refine HQ.keep [(1, _), (2, _)] z2 ?_
 refine HQ.seq ?_
 refine HQ.rseq ?_
 refine op [1] [1] (OT.loadBA (vs := [.bool p0.Leaf, vS a_0 p0.L c_0]) ag47 sz47 rfl rfl) z1 z1 z4 (fun _ => rfl) fun _ => ?_
 obtain ⟨t2, h3, H⟩ := bnd H
 refine op [] [] (OT.call (us := [_]) (Pre := []) [.tmp 7] Try.call38 rfl rfl fun w F hs hF hp => impl_NodeOk_c (hb_0.pass hp) h3) z2 trivial z4 (fun _ => rfl) fun _ => ?_
 refine pu Pu.not z1 z3 ?_
 refine HQ.done ?_
 refine HQ.keep [(1, _), (2, _), (9, _)] z3 ?_
 rcases brk H with ⟨hc, H⟩ | ⟨hc, H⟩
 ·refine HQ.condT rfl hc ?_
  clear hc
  refine HQ.rseq ?_
  refine pu Pu.assign z1 z3 ?_
  refine HQ.done ?_
  refine HQ.keep [(1, _), (2, _)] z2 ?_
  refine HQ.ret ?_
  refine HQ.thenR ?_
  obtain rfl := Option.some.inj H
  refine HQ.nil kU8 2 rfl ?_
  exact HQ.fin (vs := [_]) Try.results98 (none, 0) z1 rfl [2] z1 rfl
 ·refine HQ.condF rfl hc ?_
  clear hc
  refine HQ.skipThen ?_
  refine HQ.rseq ?_
  refine pu (Pu.fieldB fo47_1 rfl) z1 z3 ?_
  refine op [1] [1] (OT.loadB sc45 rfl) z1 z1 z4 (fun _ => rfl) fun _ => ?_
  refine pu (Pu.len ul45) z1 z3 ?_
  refine pu Pu.assign z1 z3 ?_
  refine HQ.done ?_
  refine HQ.keep [(1, _), (2, _), (3, _)] z3 ?_
  refine HQ.seq ?_
  refine HQ.rseq ?_
  refine pu (Pu.fieldB fo47_0 rfl) z1 z3 ?_
  refine op [1] [1] (OT.loadB sc4 rfl) z1 z1 z4 (fun _ => rfl) fun _ => ?_
  refine HQ.done ?_
  refine HQ.keep [(1, _), (2, _), (3, _), (14, _)] z4 ?_
  rcases brk H with ⟨hc, H⟩ | ⟨hc, H⟩
  ·refine HQ.condT rfl hc ?_
   clear hc
   refine HQ.region ?_
   refine pu Pu.move z1 z3 ?_
   refine pu Pu.add z2 z3 ?_
   refine pu Pu.assign z1 z3 ?_
   refine HQ.done ?_
   refine HQ.keep [(1, _), (2, _), (3, _)] z3 ?_
   refine HQ.rseq ?_
   refine pu Pu.move z1 z3 ?_
   refine pu (Pu.conv ul3 ul5) z1 z3 ?_
   refine op [] [3] (OT.buildF (us := [.int .u8 (IntKind.u8.wrap (wrap64 (((List.length p0.L : Nat) : Int) + 16)))]) (ys := ([(IntKind.u8.wrap (wrap64 (((List.length p0.L : Nat) : Int) + 16)))] : (List Int))) (enc := (encI .u8)) (hl := fun _ => ⟨rfl, rfl⟩) [.tmp 18] sl22.ul sl22.szE sl22.zc rfl rfl rfl rfl rfl) z1 trivial z4 (fun _ => rfl) fun ⟨a4, c5⟩ => ?_
   refine pu Pu.assign z1 z3 ?_
   refine HQ.done ?_
   refine HQ.keep [(1, _), (2, _), (4, _)] z3 ?_
   refine HQ.seq ?_
   refine HQ.rseq ?_
   refine pu (Pu.fieldB fo47_1 rfl) z1 z3 ?_
   refine op [1] [1] (OT.loadB sc45 rfl) z1 z1 z4 (fun _ => rfl) fun _ => ?_
   refine pu (Pu.len ul45) z1 z3 ?_
   refine pu Pu.move z1 z3 ?_
   refine HQ.done ?_
   refine HQ.keep [(2, _), (4, _), (21, _), (22, _), (23, _)] z5 ?_
   refine HQ.block ?_
   obtain ⟨o37, h46, H⟩ := bnd H
   refine HQ.loop h46 0 (fun (s : (List Int) × Int) (g : Option Addr × Nat) => match s, g with | (l15, i18), (a16, c17) => [(2, .slice none 0 0), (4, vS a16 l15 c17), (21, vS a_0 p0.L c_0), (22, vI ((List.length p0.L : Nat) : Int)), (23, vI i18)]) (fun (s : (List Int) × Int) (g : Option Addr × Nat) => match s, g with | (l15, i18), (a16, c17) => [(3, OwnS kU8 a16 c17 l15)]) (fun _ _ _ => False) (a4, c5) z5 z1 rfl ?_ ?_ ?_
   ·clear H h46
    rintro ⟨l15, i18⟩ ⟨a16, c17⟩ o H
    rw [impl_PutNode_b0] at H
    refine HQ.keep [(2, _), (4, _), (21, _), (22, _), (23, _)] z5 ?_
    refine HQ.keepR [(3, _)] z1 rfl ?_
    refine HQ.rseq ?_
    refine pu Pu.lss z2 z3 ?_
    refine HQ.done ?_
    refine HQ.keep [(2, _), (4, _), (21, _), (22, _), (23, _), (24, _)] z6 ?_
    refine HQ.seq ?_
    rcases brk H with ⟨hc, H⟩ | ⟨hc, H⟩
    ·refine HQ.condT rfl hc ?_
     clear hc
     refine HQ.skipThen ?_
     refine HQ.seq ?_
     refine HQ.block ?_
     refine HQ.rseq ?_
     obtain ⟨h28, H⟩ := asr H
     refine op [] [] (OT.indexB ul45 sz134 hb_0 h28) z2 trivial z4 (fun _ => rfl) fun _ => ?_
     refine op [] [] (OT.loadFA (vs := [vI ((gt p0.L i18).N), vI ((gt p0.L i18).R.X0), vI ((gt p0.L i18).R.Y0), vI ((gt p0.L i18).R.X1), vI ((gt p0.L i18).R.Y1)]) ag134 sz134 hb_0 h28 rfl rfl) z1 trivial z4 (fun _ => rfl) fun _ => ?_
     refine op [] [8] (OT.alloc zc134) trivial trivial z4 (fun _ => rfl) fun b29 => ?_
     refine HQ.opN [8] [8] [] (OT.storeC (cs' := [vI ((gt p0.L i18).N), vI ((gt p0.L i18).R.X0), vI ((gt p0.L i18).R.Y0), vI ((gt p0.L i18).R.X1), vI ((gt p0.L i18).R.Y1)]) sz134 rfl rfl rfl rfl rfl) z2 z1 rfl rfl rfl (fun _ => rfl) fun _ => ?_
     refine HQ.done ?_
     refine HQ.keep [(2, _), (4, _), (21, _), (22, _), (23, _), (6, _)] z6 ?_
     refine HQ.regionQ ?_
     refine pu Pu.move z1 z3 ?_
     refine op [8] [8] (OT.loadBA (vs := [vI ((gt p0.L i18).N), vI ((gt p0.L i18).R.X0), vI ((gt p0.L i18).R.Y0), vI ((gt p0.L i18).R.X1), vI ((gt p0.L i18).R.Y1)]) ag134 sz134 rfl rfl) z1 z1 z4 (fun _ => rfl) fun _ => ?_
     obtain ⟨t30, h31, H⟩ := bnd H
     refine op [] [9] (OT.call (us := [_]) (Pre := []) [.tmp 28] Try.call126 rfl rfl fun w F hs hF hp => impl_PutEntry_c h31) z2 trivial z4 (fun _ => rfl) fun ⟨a32, c33⟩ => ?_
     obtain ⟨h36, H⟩ := asr H
     refine op [3, 9] [3, 9] (OT.appendG (enc := (encI .u8)) (hl := fun _ => ⟨rfl, rfl⟩) sl22 ul22 h36) z2 z2 z4 (fun _ => rfl) fun ⟨a34, c35⟩ => ?_
     refine pu Pu.assign z1 z3 ?_
     refine HQ.done ?_
     refine HQ.keep [(2, _), (4, _), (21, _), (22, _), (23, _)] z5 ?_
     refine HQ.blkN ?_
     refine HQ.thenN ?_
     refine HQ.regionQ ?_
     refine pu Pu.add z2 z3 ?_
     refine pu Pu.move z1 z3 ?_
     refine HQ.done ?_
     refine HQ.keep [(2, _), (4, _), (21, _), (22, _), (23, _)] z5 ?_
     obtain rfl := Option.some.inj H
     exact HQ.next (a34, c35) z5 z1 rfl
    ·refine HQ.condF rfl hc ?_
     clear hc
     refine HQ.exit ?_
     refine HQ.thenE ?_
     obtain rfl := Option.some.inj H
     exact HQ.out (a16, c17) z5 z1 rfl
   ·rintro ⟨l38, i41⟩ rfl ⟨a39, c40⟩
    clear h46
    replace H := H
    refine HQ.keep [(2, _), (4, _), (21, _), (22, _), (23, _)] z5 ?_
    refine HQ.keepR [(3, _)] z1 rfl ?_
    refine HQ.blkE ?_
    refine HQ.thenN ?_
    refine HQ.rseq ?_
    refine pu Pu.move z1 z3 ?_
    obtain ⟨t42, h43, H⟩ := bnd H
    refine op [3] [10, 3] (OT.call (us := [_, _]) (Pre := [OwnS kU8 a39 c40 l38]) [.tmp 32, .const (vI 25)] Try.call24 rfl rfl fun w F hs hF hp => impl_Pad_c (hs.lend hF 0 rfl) h43) z3 z1 z4 (fun _ => rfl) fun ⟨a44, c45⟩ => ?_
    refine pu Pu.assign z1 z3 ?_
    refine HQ.done ?_
    refine HQ.keep [(2, _)] z1 ?_
    refine HQ.ret ?_
    obtain rfl := Option.some.inj H
    exact HQ.fin (vs := [_]) Try.results98 (a44, c45) z1 rfl [10] z1 rfl
   ·exact fun r h a w hf => hf.elim
  ·refine HQ.condF rfl hc ?_
   clear hc
   refine HQ.skipThen ?_
   refine HQ.rseq ?_
   refine pu Pu.move z1 z3 ?_
   refine pu (Pu.conv ul3 ul5) z1 z3 ?_
   refine op [] [11] (OT.buildF (us := [.int .u8 (IntKind.u8.wrap ((List.length p0.L : Nat) : Int))]) (ys := ([(IntKind.u8.wrap ((List.length p0.L : Nat) : Int))] : (List Int))) (enc := (encI .u8)) (hl := fun _ => ⟨rfl, rfl⟩) [.tmp 18] sl22.ul sl22.szE sl22.zc rfl rfl rfl rfl rfl) z1 trivial z4 (fun _ => rfl) fun ⟨a47, c48⟩ => ?_
   refine pu Pu.assign z1 z3 ?_
   refine HQ.done ?_
   refine HQ.keep [(1, _), (2, _), (4, _)] z3 ?_
   refine HQ.seq ?_
   refine HQ.rseq ?_
   refine pu (Pu.fieldB fo47_1 rfl) z1 z3 ?_
   refine op [1] [1] (OT.loadB sc45 rfl) z1 z1 z4 (fun _ => rfl) fun _ => ?_
   refine pu (Pu.len ul45) z1 z3 ?_
   refine pu Pu.move z1 z3 ?_
   refine HQ.done ?_
   refine HQ.keep [(2, _), (4, _), (21, _), (22, _), (23, _)] z5 ?_
   refine HQ.block ?_
   obtain ⟨o80, h89, H⟩ := bnd H
   refine HQ.loop h89 0 (fun (s : (List Int) × Int) (g : Option Addr × Nat) => match s, g with | (l58, i61), (a59, c60) => [(2, .slice none 0 0), (4, vS a59 l58 c60), (21, vS a_0 p0.L c_0), (22, vI ((List.length p0.L : Nat) : Int)), (23, vI i61)]) (fun (s : (List Int) × Int) (g : Option Addr × Nat) => match s, g with | (l58, i61), (a59, c60) => [(11, OwnS kU8 a59 c60 l58)]) (fun _ _ _ => False) (a47, c48) z5 z1 rfl ?_ ?_ ?_
   ·clear H h89
    rintro ⟨l58, i61⟩ ⟨a59, c60⟩ o H
    rw [impl_PutNode_b1] at H
    refine HQ.keep [(2, _), (4, _), (21, _), (22, _), (23, _)] z5 ?_
    refine HQ.keepR [(11, _)] z1 rfl ?_
    refine HQ.rseq ?_
    refine pu Pu.lss z2 z3 ?_
    refine HQ.done ?_
    refine HQ.keep [(2, _), (4, _), (21, _), (22, _), (23, _), (24, _)] z6 ?_
    refine HQ.seq ?_
    rcases brk H with ⟨hc, H⟩ | ⟨hc, H⟩
    ·refine HQ.condT rfl hc ?_
     clear hc
     refine HQ.skipThen ?_
     refine HQ.seq ?_
     refine HQ.block ?_
     refine HQ.rseq ?_
     obtain ⟨h71, H⟩ := asr H
     refine op [] [] (OT.indexB ul45 sz134 hb_0 h71) z2 trivial z4 (fun _ => rfl) fun _ => ?_
     refine op [] [] (OT.loadFA (vs := [vI ((gt p0.L i61).N), vI ((gt p0.L i61).R.X0), vI ((gt p0.L i61).R.Y0), vI ((gt p0.L i61).R.X1), vI ((gt p0.L i61).R.Y1)]) ag134 sz134 hb_0 h71 rfl rfl) z1 trivial z4 (fun _ => rfl) fun _ => ?_
     refine op [] [16] (OT.alloc zc134) trivial trivial z4 (fun _ => rfl) fun b72 => ?_
     refine HQ.opN [16] [16] [] (OT.storeC (cs' := [vI ((gt p0.L i61).N), vI ((gt p0.L i61).R.X0), vI ((gt p0.L i61).R.Y0), vI ((gt p0.L i61).R.X1), vI ((gt p0.L i61).R.Y1)]) sz134 rfl rfl rfl rfl rfl) z2 z1 rfl rfl rfl (fun _ => rfl) fun _ => ?_
     refine HQ.done ?_
     refine HQ.keep [(2, _), (4, _), (21, _), (22, _), (23, _), (6, _)] z6 ?_
     refine HQ.regionQ ?_
     refine pu Pu.move z1 z3 ?_
     refine op [16] [16] (OT.loadBA (vs := [vI ((gt p0.L i61).N), vI ((gt p0.L i61).R.X0), vI ((gt p0.L i61).R.Y0), vI ((gt p0.L i61).R.X1), vI ((gt p0.L i61).R.Y1)]) ag134 sz134 rfl rfl) z1 z1 z4 (fun _ => rfl) fun _ => ?_
     obtain ⟨t73, h74, H⟩ := bnd H
     refine op [] [17] (OT.call (us := [_]) (Pre := []) [.tmp 28] Try.call126 rfl rfl fun w F hs hF hp => impl_PutEntry_c h74) z2 trivial z4 (fun _ => rfl) fun ⟨a75, c76⟩ => ?_
     obtain ⟨h79, H⟩ := asr H
     refine op [11, 17] [11, 17] (OT.appendG (enc := (encI .u8)) (hl := fun _ => ⟨rfl, rfl⟩) sl22 ul22 h79) z2 z2 z4 (fun _ => rfl) fun ⟨a77, c78⟩ => ?_
     refine pu Pu.assign z1 z3 ?_
     refine HQ.done ?_
     refine HQ.keep [(2, _), (4, _), (21, _), (22, _), (23, _)] z5 ?_
     refine HQ.blkN ?_
     refine HQ.thenN ?_
     refine HQ.regionQ ?_
     refine pu Pu.add z2 z3 ?_
     refine pu Pu.move z1 z3 ?_
     refine HQ.done ?_
     refine HQ.keep [(2, _), (4, _), (21, _), (22, _), (23, _)] z5 ?_
     obtain rfl := Option.some.inj H
     exact HQ.next (a77, c78) z5 z1 rfl
    ·refine HQ.condF rfl hc ?_
     clear hc
     refine HQ.exit ?_
     refine HQ.thenE ?_
     obtain rfl := Option.some.inj H
     exact HQ.out (a59, c60) z5 z1 rfl
   ·rintro ⟨l81, i84⟩ rfl ⟨a82, c83⟩
    clear h89
    replace H := H
    refine HQ.keep [(2, _), (4, _), (21, _), (22, _), (23, _)] z5 ?_
    refine HQ.keepR [(11, _)] z1 rfl ?_
    refine HQ.blkE ?_
    refine HQ.thenN ?_
    refine HQ.rseq ?_
    refine pu Pu.move z1 z3 ?_
    obtain ⟨t85, h86, H⟩ := bnd H
    refine op [11] [18, 11] (OT.call (us := [_, _]) (Pre := [OwnS kU8 a82 c83 l81]) [.tmp 32, .const (vI 25)] Try.call24 rfl rfl fun w F hs hF hp => impl_Pad_c (hs.lend hF 0 rfl) h86) z3 z1 z4 (fun _ => rfl) fun ⟨a87, c88⟩ => ?_
    refine pu Pu.assign z1 z3 ?_
    refine HQ.done ?_
    refine HQ.keep [(2, _)] z1 ?_
    refine HQ.ret ?_
    obtain rfl := Option.some.inj H
    exact HQ.fin (vs := [_]) Try.results98 (a87, c88) z1 rfl [18] z1 rfl
   ·exact fun r h a w hf => hf.elim

theorem impl_PutCell_c {w : World} {k : Nat} {p0 : Int} {p1 : TChange} {a_0 : Option Addr} {c_0 : Nat} (hb_0 : BorS kTEntry a_0 c_0 p1.N.L w.heap (Lt w Nil)) {r : (List Int)} (H : impl_PutCell k p0 p1 = some r) :
  Calls Try.prog 27 #[vI p0, .agg #[vI p1.Page, .bool p1.N.Leaf, vS a_0 p1.N.L c_0]] w (Rt w Nil (fun g : Option Addr × Nat => vS g.1 r g.2) (fun g => [OwnS kU8 g.1 g.2 r])) := by
 rw [impl_PutCell] at H
 refine Calls.enter0 (N := 32) (us := [_, _]) Try.func27 rfl rfl rfl ?_
 refine HQ.rseq ?_
 refine op [] [1] (OT.box (cs := [vI p1.Page, .bool p1.N.Leaf, vS a_0 p1.N.L c_0]) rfl) z1 trivial z4 (fun _ => rfl) fun b1 => ?_
 refine pu Pu.assign z1 z3 ?_
 refine HQ.done ?_
 refine HQ.keep [(0, _), (3, _), (4, _)] z3 ?_
 refine HQ.seq ?_
 refine HQ.rseq ?_
 refine pu Pu.move z1 z3 ?_
 obtain ⟨t2, h3, H⟩ := bnd H
 refine op [] [] (OT.call (us := [_, _, _]) (Pre := []) [.tmp 5, .const (vI 0), .const (vI 65535)] Try.call83 rfl rfl fun w F hs hF hp => impl_in_c h3) z4 trivial z4 (fun _ => rfl) fun _ => ?_
 refine pu Pu.not z1 z3 ?_
 refine pu Pu.move z1 z3 ?_
 obtain ⟨c7, h8, H⟩ := bnd H
 refine HQ.cutAt 5 [(13, .bool c7), (0, vI p0), (3, BP b1 0), (4, .slice none 0 0)] [(1, Box b1 [vI p1.Page, .bool p1.N.Leaf, vS a_0 p1.N.L c_0])] ?_ ?_
 ·clear H
  have H := h8
  rcases brk H with ⟨hg4, H⟩ | ⟨hg4, H⟩
  ·obtain rfl := Option.some.inj H
   refine HQ.off rfl rfl hg4 rfl ?_
   refine HQ.off rfl rfl hg4 rfl ?_
   refine HQ.off rfl rfl hg4 rfl ?_
   refine HQ.off rfl rfl hg4 rfl ?_
   refine pu (Pu.pickC1 hg4) z2 z3 ?_
   exact HQ.mid z4 z1 rfl
  ·refine HQ.on rfl rfl hg4 ?_
   refine pu (Pu.fieldB fo49_0 rfl) z1 z3 ?_
   refine HQ.on rfl rfl hg4 ?_
   refine op [1] [1] (OT.loadB sc3 rfl) z1 z1 z4 (fun _ => rfl) fun _ => ?_
   refine HQ.on rfl rfl hg4 ?_
   obtain ⟨t5, h6, H⟩ := bnd H
   refine op [] [] (OT.call (us := [_, _, _]) (Pre := []) [.tmp 10, .const (vI 0), .const (vI 47)] Try.call83 rfl rfl fun w F hs hF hp => impl_in_c h6) z4 trivial z4 (fun _ => rfl) fun _ => ?_
   refine HQ.on rfl rfl hg4 ?_
   refine pu Pu.not z1 z3 ?_
   obtain rfl := Option.some.inj H
   refine pu (Pu.pickC0 hg4) z2 z3 ?_
   exact HQ.mid z4 z1 rfl
 refine pu Pu.move z1 z3 ?_
 obtain ⟨c12, h13, H⟩ := bnd H
 refine HQ.cutAt 5 [(19, .bool c12), (0, vI p0), (3, BP b1 0), (4, .slice none 0 0)] [(1, Box b1 [vI p1.Page, .bool p1.N.Leaf, vS a_0 p1.N.L c_0])] ?_ ?_
 ·clear H
  have H := h13
  rcases brk H with ⟨hg9, H⟩ | ⟨hg9, H⟩
  ·obtain rfl := Option.some.inj H
   refine HQ.off rfl rfl hg9 rfl ?_
   refine HQ.off rfl rfl hg9 rfl ?_
   refine HQ.off rfl rfl hg9 rfl ?_
   refine HQ.off rfl rfl hg9 rfl ?_
   refine pu (Pu.pickC1 hg9) z2 z3 ?_
   exact HQ.mid z4 z1 rfl
  ·refine HQ.on rfl rfl hg9 ?_
   refine pu (Pu.fieldB fo49_1 rfl) z1 z3 ?_
   refine HQ.on rfl rfl hg9 ?_
   refine op [1] [1] (OT.loadBA (vs := [.bool p1.N.Leaf, vS a_0 p1.N.L c_0]) ag47 sz47 rfl rfl) z1 z1 z4 (fun _ => rfl) fun _ => ?_
   refine HQ.on rfl rfl hg9 ?_
   obtain ⟨t10, h11, H⟩ := bnd H
   refine op [] [] (OT.call (us := [_]) (Pre := []) [.tmp 16] Try.call38 rfl rfl fun w F hs hF hp => impl_NodeOk_c (hb_0.pass hp) h11) z2 trivial z4 (fun _ => rfl) fun _ => ?_
   refine HQ.on rfl rfl hg9 ?_
   refine pu Pu.not z1 z3 ?_
   obtain rfl := Option.some.inj H
   refine pu (Pu.pickC0 hg9) z2 z3 ?_
   exact HQ.mid z4 z1 rfl
 refine HQ.done ?_
 refine HQ.keep [(19, _), (0, _), (3, _), (4, _)] z4 ?_
 rcases brk H with ⟨hc, H⟩ | ⟨hc, H⟩
 ·refine HQ.condT rfl hc ?_
  clear hc
  refine HQ.rseq ?_
  refine pu Pu.assign z1 z3 ?_
  refine HQ.done ?_
  refine HQ.keep [(0, _), (3, _), (4, _)] z3 ?_
  refine HQ.ret ?_
  refine HQ.thenR ?_
  obtain rfl := Option.some.inj H
  refine HQ.nil kU8 2 rfl ?_
  exact HQ.fin (vs := [_]) Try.results27 (none, 0) z1 rfl [2] z1 rfl
 ·refine HQ.condF rfl hc ?_
  clear hc
  refine HQ.skipThen ?_
  obtain ⟨t17, h18, H⟩ := bnd H
  obtain ⟨h25, H⟩ := asr H
  refine HQ.drawS mixd [(0, vI p0), (3, BP b1 0), (4, .slice none 0 0)] 10 [⟨[], [0], []⟩, ⟨[], [], []⟩, ⟨[0], [1, 0], [0, 1]⟩, ⟨[], [], []⟩, ⟨[2], [2], [3]⟩, ⟨[], [], [4]⟩, ⟨[], [3], [5]⟩, ⟨[1, 3], [4, 3], [2, 6]⟩, ⟨[], [], []⟩, ⟨[2], [2], [8]⟩] [⟨some 0, none⟩, ⟨some 2, some 7⟩, ⟨none, none⟩, ⟨some 6, none⟩, ⟨some 7, none⟩] (fun (g14 : (Option Addr × Nat) × (Option Addr × Nat) × (Option Addr × Nat) × (Option Addr × Nat)) => [vS g14.1.1 ([1] : (List Int)) g14.1.2, vI p0, vS g14.2.1.1 t17 g14.2.1.2, BP b1 0, vI p1.Page, .int .u8 (IntKind.u8.wrap p1.Page), vS g14.2.2.1.1 ([(IntKind.u8.wrap p1.Page)] : (List Int)) g14.2.2.1.2, vS g14.2.2.2.1 (t17 ++ ([(IntKind.u8.wrap p1.Page)] : (List Int))) g14.2.2.2.2, BP b1 1, .agg #[.bool p1.N.Leaf, vS a_0 p1.N.L c_0]]) (fun (g14 : (Option Addr × Nat) × (Option Addr × Nat) × (Option Addr × Nat) × (Option Addr × Nat)) => [OwnS kU8 g14.1.1 g14.1.2 ([1] : (List Int)), OwnS kU8 g14.2.1.1 g14.2.1.2 t17, Box b1 [vI p1.Page, .bool p1.N.Leaf, vS a_0 p1.N.L c_0], OwnS kU8 g14.2.2.1.1 g14.2.2.1.2 ([(IntKind.u8.wrap p1.Page)] : (List Int)), OwnS kU8 g14.2.2.2.1 g14.2.2.2.2 (t17 ++ ([(IntKind.u8.wrap p1.Page)] : (List Int)))]) ((none, 0), (none, 0), (none, 0), (none, 0)) [1] [3, 1, 5, 4] [] z3 z1 rfl (by kernel_rfl) (fun _ => rfl) (by kernel_rfl) (fun _ => rfl) ⟨?_, ?_, ?_, ?_, ?_, ?_, ?_, ?_, ?_, ?_, trivial⟩ fun g14 => ?_
  ·exact OpOK.of (fun g14 => [(.const (.int .u8 1), .int .u8 1)]) _ _ (fun g14 x => (x, g14.2.1, g14.2.2.1, g14.2.2.2)) rfl rfl (fun _ => z1) (fun g14 => OT.buildF (us := [.int .u8 1]) (ys := ([1] : (List Int))) (enc := (encI .u8)) (hl := fun _ => ⟨rfl, rfl⟩) [.const (.int .u8 1)] sl22.ul sl22.szE sl22.zc rfl rfl rfl rfl rfl) (fun _ _ => z7)
  ·exact OpOK.pu (fun g14 => [(.tmp 0, vI p0)]) z2 (fun _ => z1) (fun _ => Pu.move) (fun _ => z1) (fun _ _ => z7)
  ·exact OpOK.of (fun g14 => [(.func 97, .func (.func 97) #[] #[]), (.tmp 20, vS g14.1.1 ([1] : (List Int)) g14.1.2), (.tmp 21, vI p0)]) _ _ (fun g14 x => (g14.1, x, g14.2.2.1, g14.2.2.2)) rfl rfl (fun _ => z3) (fun g14 => OT.call (us := [_, _]) (Pre := [OwnS kU8 g14.1.1 g14.1.2 ([1] : (List Int))]) [.tmp 20, .tmp 21] Try.call97 rfl rfl fun w F hs hF hp => impl_Put2_c (hs.lend hF 0 rfl) h18) (fun _ _ => z7)
  ·exact OpOK.pu (fun g14 => [(.tmp 3, BP b1 0)]) z2 (fun _ => z1) (fun _ => (Pu.fieldB fo49_0 rfl)) (fun _ => z1) (fun _ _ => z7)
  ·exact OpOK.of (fun g14 => [(.tmp 23, BP b1 0)]) _ _ (fun g14 _ => g14) rfl rfl (fun _ => z1) (fun g14 => OT.loadB sc3 rfl) (fun _ _ => z7)
  ·exact OpOK.pu (fun g14 => [(.tmp 24, vI p1.Page)]) z2 (fun _ => z1) (fun _ => (Pu.conv ul3 ul5)) (fun _ => z1) (fun _ _ => z7)
  ·exact OpOK.of (fun g14 => [(.tmp 25, .int .u8 (IntKind.u8.wrap p1.Page))]) _ _ (fun g14 x => (g14.1, g14.2.1, x, g14.2.2.2)) rfl rfl (fun _ => z1) (fun g14 => OT.buildF (us := [.int .u8 (IntKind.u8.wrap p1.Page)]) (ys := ([(IntKind.u8.wrap p1.Page)] : (List Int))) (enc := (encI .u8)) (hl := fun _ => ⟨rfl, rfl⟩) [.tmp 25] sl22.ul sl22.szE sl22.zc rfl rfl rfl rfl rfl) (fun _ _ => z7)
  ·exact OpOK.of (fun g14 => [(.tmp 22, vS g14.2.1.1 t17 g14.2.1.2), (.tmp 26, vS g14.2.2.1.1 ([(IntKind.u8.wrap p1.Page)] : (List Int)) g14.2.2.1.2)]) _ _ (fun g14 x => (g14.1, g14.2.1, g14.2.2.1, x)) rfl rfl (fun _ => z2) (fun g14 => OT.appendG (enc := (encI .u8)) (hl := fun _ => ⟨rfl, rfl⟩) sl22 ul22 h25) (fun _ _ => z7)
  ·exact OpOK.pu (fun g14 => [(.tmp 3, BP b1 0)]) z2 (fun _ => z1) (fun _ => (Pu.fieldB fo49_1 rfl)) (fun _ => z1) (fun _ _ => z7)
  ·exact OpOK.of (fun g14 => [(.tmp 28, BP b1 1)]) _ _ (fun g14 _ => g14) rfl rfl (fun _ => z1) (fun g14 => OT.loadBA (vs := [.bool p1.N.Leaf, vS a_0 p1.N.L c_0]) ag47 sz47 rfl rfl) (fun _ _ => z7)
  refine HQ.keep [(4, _), (27, _), (29, _)] z3 ?_
  refine HQ.keepR [(1, _), (3, _), (5, _), (4, _)] z4 rfl ?_
  obtain ⟨t26, h27, H⟩ := bnd H
  refine op [] [6] (OT.call (us := [_]) (Pre := []) [.tmp 29] Try.call98 rfl rfl fun w F hs hF hp => impl_PutNode_c (hb_0.pass hp) h27) z2 trivial z4 (fun _ => rfl) fun ⟨a28, c29⟩ => ?_
  obtain ⟨h32, H⟩ := asr H
  refine op [4, 6] [4, 6] (OT.appendG (enc := (encI .u8)) (hl := fun _ => ⟨rfl, rfl⟩) sl22 ul22 h32) z2 z2 z4 (fun _ => rfl) fun ⟨a30, c31⟩ => ?_
  refine pu Pu.assign z1 z3 ?_
  refine HQ.done ?_
  refine HQ.keep [(4, _)] z1 ?_
  refine HQ.ret ?_
  obtain rfl := Option.some.inj H
  exact HQ.fin (vs := [_]) Try.results27 (a30, c31) z1 rfl [4] z1 rfl

end Go.Proofs.Sx
