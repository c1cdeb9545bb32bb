import Derived.Test.YtkhommmhkeohbaaQbF6
import Derived.KernelRfl
namespace Go.Proofs.Sx
open Go.RowKit
set_option linter.unusedVariables false
set_option linter.unusedSimpArgs false
set_option maxRecDepth 20000
set_option maxHeartbeats 1000000
/-! impl.TxOk -/
theorem impl_TxOk_c {w : World} {k : Nat} {p0 : TTx} {a_0 : Option Addr} {c_0 : Nat} (hb_0 : BorS kTChange a_0 c_0 p0.Puts w.heap (Lt w Nil)) {r : Bool} (H : impl_TxOk k p0 = some r) :
    Calls Try.prog 35 #[.agg #[.int .i64 p0.Seq, .int .i64 p0.Root, .int .i64 p0.Size, .slice a_0 (List.length p0.Puts) c_0]] w (Rt w Nil (fun _ : Unit => .bool r) (fun _ => [])) := by
  rw [impl_TxOk] at H
  refine Calls.enter0 (N := 40) (us := [_]) Try.func35 rfl rfl rfl ?_
  refine HQ.rseq ?_
  refine HQ.op [] [1] (OT.box (cs := [.int .i64 p0.Seq, .int .i64 p0.Root, .int .i64 p0.Size, .slice a_0 (List.length p0.Puts) c_0]) rfl) ⟨rfl, trivial⟩ trivial rfl rfl rfl rfl (fun _ => rfl) fun b1 => ?_
  refine HQ.pu Pu.assign ⟨rfl, trivial⟩ rfl rfl rfl ?_
  refine HQ.done ?_
  refine HQ.keep [(1, _), (2, _)] ⟨rfl, rfl, trivial⟩ ?_
  refine HQ.rseq ?_
  refine HQ.op [] [2] (OT.makeMap) trivial trivial rfl rfl rfl rfl (fun _ => rfl) fun b2 => ?_
  refine HQ.pu Pu.assign ⟨rfl, trivial⟩ rfl rfl rfl ?_
  refine HQ.done ?_
  refine HQ.keep [(1, _), (2, _), (3, _)] ⟨rfl, rfl, rfl, trivial⟩ ?_
  refine HQ.seq ?_
  refine HQ.rseq ?_
  refine HQ.pu (Pu.fieldB fo57_3 rfl) ⟨rfl, trivial⟩ rfl rfl rfl ?_
  refine HQ.op [1] [1] (OT.loadB sc55 rfl) ⟨rfl, trivial⟩ ⟨rfl, trivial⟩ rfl rfl rfl rfl (fun _ => rfl) fun _ => ?_
  refine HQ.pu (Pu.len ul55) ⟨rfl, trivial⟩ rfl rfl rfl ?_
  refine HQ.pu Pu.move ⟨rfl, trivial⟩ rfl rfl rfl ?_
  refine HQ.done ?_
  refine HQ.keep [(1, _), (2, _), (3, _), (8, _), (9, _), (10, _)] ⟨rfl, rfl, rfl, rfl, rfl, rfl, trivial⟩ ?_
  refine HQ.block ?_
  obtain ⟨o47, h52, H⟩ := bnd H
  refine HQ.loop h52 0 (fun (s : (List (Int × Int)) × Int) (g : Unit) => match s, g with | (l17, i18), () => [(1, BP b1 0), (2, .bool false), (3, .map (some b2)), (8, .slice a_0 (List.length p0.Puts) c_0), (9, .int .i64 ((List.length p0.Puts : Nat) : Int)), (10, .int .i64 i18)]) (fun (s : (List (Int × Int)) × Int) (g : Unit) => match s, g with | (l17, i18), () => [(1, Box b1 [.int .i64 p0.Seq, .int .i64 p0.Root, .int .i64 p0.Size, .slice a_0 (List.length p0.Puts) c_0]), (2, MapS b2 l17)]) (fun r => bodyPost Try.prog Try.f35 (Rt w Nil (fun _ : Unit => .bool r) (fun _ => [])) .ret) () ⟨rfl, rfl, rfl, rfl, rfl, rfl, trivial⟩ ⟨rfl, rfl, trivial⟩ rfl ?_ ?_ ?_
  · clear H h52
    rintro ⟨l17, i18⟩ _ o H
    rw [impl_TxOk_b0] at H
    refine HQ.keep [(1, _), (2, _), (3, _), (8, _), (9, _), (10, _)] ⟨rfl, rfl, rfl, rfl, rfl, rfl, trivial⟩ ?_
    refine HQ.keepR [(1, _), (2, _)] ⟨rfl, rfl, trivial⟩ rfl ?_
    refine HQ.rseq ?_
    refine HQ.pu Pu.lss ⟨rfl, rfl, trivial⟩ rfl rfl rfl ?_
    refine HQ.done ?_
    refine HQ.keep [(1, _), (2, _), (3, _), (8, _), (9, _), (10, _), (11, _)] ⟨rfl, rfl, rfl, rfl, rfl, rfl, rfl, trivial⟩ ?_
    refine HQ.seq ?_
    rcases brk H with ⟨hc, H⟩ | ⟨hc, H⟩
    · refine HQ.condT rfl hc ?_
      clear hc
      refine HQ.skipThen ?_
      refine HQ.seq ?_
      refine HQ.block ?_
      refine HQ.rseq ?_
      obtain ⟨h33, H⟩ := asr H
      refine HQ.op [] [] (OT.indexB ul55 sz49 hb_0 h33) ⟨rfl, rfl, trivial⟩ trivial rfl rfl rfl rfl (fun _ => rfl) fun _ => ?_
      obtain ⟨⟨a34, c35⟩, hb36, hn37⟩ := BorS.nest hb_0 h33
      refine HQ.op [] [] (OT.loadNA (vs := [.int .i64 ((gt p0.Puts i18).Page), .bool ((gt p0.Puts i18).N.Leaf), .slice a34 (List.length ((gt p0.Puts i18).N.L)) c35]) ag49 sz49 hn37 hlTChange rfl rfl) ⟨rfl, trivial⟩ trivial rfl rfl rfl rfl (fun _ => rfl) fun _ => ?_
      refine HQ.op [] [5] (OT.alloc zc49) trivial trivial rfl rfl rfl rfl (fun _ => rfl) fun b38 => ?_
      refine HQ.opN [5] [5] [] (OT.storeC (cs' := [.int .i64 ((gt p0.Puts i18).Page), .bool ((gt p0.Puts i18).N.Leaf), .slice a34 (List.length ((gt p0.Puts i18).N.L)) c35]) sz49 rfl rfl rfl rfl rfl) ⟨rfl, rfl, trivial⟩ ⟨rfl, trivial⟩ rfl rfl rfl (fun _ => rfl) fun _ => ?_
      refine HQ.done ?_
      refine HQ.keep [(1, _), (2, _), (3, _), (8, _), (9, _), (10, _), (5, _)] ⟨rfl, rfl, rfl, rfl, rfl, rfl, rfl, trivial⟩ ?_
      refine HQ.seq ?_
      refine HQ.rseq ?_
      refine HQ.pu (Pu.fieldB fo49_0 rfl) ⟨rfl, trivial⟩ rfl rfl rfl ?_
      refine HQ.op [5] [5] (OT.loadB sc3 rfl) ⟨rfl, trivial⟩ ⟨rfl, trivial⟩ rfl rfl rfl rfl (fun _ => rfl) fun _ => ?_
      refine HQ.pu (Pu.fieldB fo57_2 rfl) ⟨rfl, trivial⟩ rfl rfl rfl ?_
      refine HQ.op [1] [1] (OT.loadB sc3 rfl) ⟨rfl, trivial⟩ ⟨rfl, trivial⟩ rfl rfl rfl rfl (fun _ => rfl) fun _ => ?_
      refine HQ.pu Pu.sub ⟨rfl, rfl, trivial⟩ rfl rfl rfl ?_
      obtain ⟨t39, h40, H⟩ := bnd H
      refine HQ.op [] [] (OT.call (us := [_, _, _]) (Pre := []) [.tmp 15, .const (.int .i64 0), .tmp 18] Try.call83 rfl rfl fun w F hs hF hp => impl_in_c h40) ⟨rfl, rfl, rfl, rfl, trivial⟩ trivial rfl rfl rfl rfl (fun _ => rfl) fun _ => ?_
      refine HQ.pu Pu.not ⟨rfl, trivial⟩ rfl rfl rfl ?_
      refine HQ.pu Pu.move ⟨rfl, trivial⟩ rfl rfl rfl ?_
      refine HQ.cutAt 6 [(27, .bool ((!t39) || (decide ((mget l17 ((gt p0.Puts i18).Page)) = 1)))), (1, BP b1 0), (2, .bool false), (3, .map (some b2)), (8, .slice a_0 (List.length p0.Puts) c_0), (9, .int .i64 ((List.length p0.Puts : Nat) : Int)), (10, .int .i64 i18), (5, BP b38 0)] [(1, Box b1 [.int .i64 p0.Seq, .int .i64 p0.Root, .int .i64 p0.Size, .slice a_0 (List.length p0.Puts) c_0]), (2, MapS b2 l17), (5, Box b38 [.int .i64 ((gt p0.Puts i18).Page), .bool ((gt p0.Puts i18).N.Leaf), .slice a34 (List.length ((gt p0.Puts i18).N.L)) c35])] ?_ ?_
      · rcases Bool.eq_false_or_eq_true (!t39) with hg41 | hg41
        · refine HQ.off rfl rfl hg41 rfl ?_
          refine HQ.off rfl rfl hg41 rfl ?_
          refine HQ.off rfl rfl hg41 rfl ?_
          refine HQ.off rfl rfl hg41 rfl ?_
          refine HQ.off rfl rfl hg41 rfl ?_
          refine HQ.pu (Pu.pickOT (u := (decide ((mget l17 ((gt p0.Puts i18).Page)) = 1))) hg41) ⟨rfl, rfl, trivial⟩ rfl rfl rfl ?_
          exact HQ.mid ⟨rfl, rfl, rfl, rfl, rfl, rfl, rfl, rfl, trivial⟩ ⟨rfl, rfl, rfl, trivial⟩ rfl
        · refine HQ.on rfl rfl hg41 ?_
          refine HQ.pu Pu.move ⟨rfl, trivial⟩ rfl rfl rfl ?_
          refine HQ.on rfl rfl hg41 ?_
          refine HQ.pu (Pu.fieldB fo49_0 rfl) ⟨rfl, trivial⟩ rfl rfl rfl ?_
          refine HQ.on rfl rfl hg41 ?_
          refine HQ.op [5] [5] (OT.loadB sc3 rfl) ⟨rfl, trivial⟩ ⟨rfl, trivial⟩ rfl rfl rfl rfl (fun _ => rfl) fun _ => ?_
          refine HQ.on rfl rfl hg41 ?_
          refine HQ.op [2] [2] (OT.lookup ul129 ul3 tz3) ⟨rfl, rfl, trivial⟩ ⟨rfl, trivial⟩ rfl rfl rfl rfl (fun _ => rfl) fun _ => ?_
          refine HQ.on rfl rfl hg41 ?_
          refine HQ.pu Pu.eql ⟨rfl, rfl, trivial⟩ rfl rfl rfl ?_
          refine HQ.pu (Pu.pickOF hg41) ⟨rfl, rfl, trivial⟩ rfl rfl rfl ?_
          exact HQ.mid ⟨rfl, rfl, rfl, rfl, rfl, rfl, rfl, rfl, trivial⟩ ⟨rfl, rfl, rfl, trivial⟩ rfl
      refine HQ.pu Pu.move ⟨rfl, trivial⟩ rfl rfl rfl ?_
      obtain ⟨c45, h46, H⟩ := bnd H
      refine HQ.cutAt 5 [(33, .bool c45), (1, BP b1 0), (2, .bool false), (3, .map (some b2)), (8, .slice a_0 (List.length p0.Puts) c_0), (9, .int .i64 ((List.length p0.Puts : Nat) : Int)), (10, .int .i64 i18), (5, BP b38 0)] [(1, Box b1 [.int .i64 p0.Seq, .int .i64 p0.Root, .int .i64 p0.Size, .slice a_0 (List.length p0.Puts) c_0]), (2, MapS b2 l17), (5, Box b38 [.int .i64 ((gt p0.Puts i18).Page), .bool ((gt p0.Puts i18).N.Leaf), .slice a34 (List.length ((gt p0.Puts i18).N.L)) c35])] ?_ ?_
      · clear H
        have H := h46
        rcases brk H with ⟨hg42, H⟩ | ⟨hg42, H⟩
        · obtain rfl := Option.some.inj H
          refine HQ.off rfl rfl hg42 rfl ?_
          refine HQ.off rfl rfl hg42 rfl ?_
          refine HQ.off rfl rfl hg42 rfl ?_
          refine HQ.off rfl rfl hg42 rfl ?_
          refine HQ.pu (Pu.pickC1 hg42) ⟨rfl, rfl, trivial⟩ rfl rfl rfl ?_
          exact HQ.mid ⟨rfl, rfl, rfl, rfl, rfl, rfl, rfl, rfl, trivial⟩ ⟨rfl, rfl, rfl, trivial⟩ rfl
        · refine HQ.on rfl rfl hg42 ?_
          refine HQ.pu (Pu.fieldB fo49_1 rfl) ⟨rfl, trivial⟩ rfl rfl rfl ?_
          refine HQ.on rfl rfl hg42 ?_
          refine HQ.op [5] [5] (OT.loadBA (vs := [.bool ((gt p0.Puts i18).N.Leaf), .slice a34 (List.length ((gt p0.Puts i18).N.L)) c35]) ag47 sz47 rfl rfl) ⟨rfl, trivial⟩ ⟨rfl, trivial⟩ rfl rfl rfl rfl (fun _ => rfl) fun _ => ?_
          refine HQ.on rfl rfl hg42 ?_
          obtain ⟨t43, h44, H⟩ := bnd H
          refine HQ.op [] [] (OT.call (us := [_]) (Pre := []) [.tmp 30] Try.call38 rfl rfl fun w F hs hF hp => impl_NodeOk_c (hb36.pass hp) h44) ⟨rfl, rfl, trivial⟩ trivial rfl rfl rfl rfl (fun _ => rfl) fun _ => ?_
          refine HQ.on rfl rfl hg42 ?_
          refine HQ.pu Pu.not ⟨rfl, trivial⟩ rfl rfl rfl ?_
          obtain rfl := Option.some.inj H
          refine HQ.pu (Pu.pickC0 hg42) ⟨rfl, rfl, trivial⟩ rfl rfl rfl ?_
          exact HQ.mid ⟨rfl, rfl, rfl, rfl, rfl, rfl, rfl, rfl, trivial⟩ ⟨rfl, rfl, rfl, trivial⟩ rfl
      refine HQ.done ?_
      refine HQ.keep [(33, _), (1, _), (2, _), (3, _), (8, _), (9, _), (10, _), (5, _)] ⟨rfl, rfl, rfl, rfl, rfl, rfl, rfl, rfl, trivial⟩ ?_
      rcases brk H with ⟨hc, H⟩ | ⟨hc, H⟩
      · refine HQ.condT rfl hc ?_
        clear hc
        refine HQ.rseq ?_
        refine HQ.pu Pu.assign ⟨rfl, trivial⟩ rfl rfl rfl ?_
        refine HQ.done ?_
        refine HQ.keep [(1, _), (2, _), (3, _), (8, _), (9, _), (10, _), (5, _)] ⟨rfl, rfl, rfl, rfl, rfl, rfl, rfl, trivial⟩ ?_
        refine HQ.ret ?_
        refine HQ.thenR ?_
        refine HQ.blkR ?_
        refine HQ.thenR ?_
        obtain rfl := Option.some.inj H
        refine HQ.retL ?_
        exact HQ.fin (vs := [_]) Try.results35 () ⟨rfl, trivial⟩ rfl [] trivial rfl
      · refine HQ.condF rfl hc ?_
        clear hc
        refine HQ.skipThen ?_
        refine HQ.regionQ ?_
        refine HQ.pu Pu.move ⟨rfl, trivial⟩ rfl rfl rfl ?_
        refine HQ.pu (Pu.fieldB fo49_0 rfl) ⟨rfl, trivial⟩ rfl rfl rfl ?_
        refine HQ.op [5] [5] (OT.loadB sc3 rfl) ⟨rfl, trivial⟩ ⟨rfl, trivial⟩ rfl rfl rfl rfl (fun _ => rfl) fun _ => ?_
        refine HQ.opN [2] [2] [] (OT.mapUpdate ul129 ul3) ⟨rfl, rfl, rfl, trivial⟩ ⟨rfl, trivial⟩ rfl rfl rfl (fun _ => rfl) fun _ => ?_
        refine HQ.done ?_
        refine HQ.keep [(1, _), (2, _), (3, _), (8, _), (9, _), (10, _)] ⟨rfl, rfl, rfl, rfl, rfl, rfl, trivial⟩ ?_
        refine HQ.blkN ?_
        refine HQ.thenN ?_
        refine HQ.regionQ ?_
        refine HQ.pu Pu.add ⟨rfl, rfl, trivial⟩ rfl rfl rfl ?_
        refine HQ.pu Pu.move ⟨rfl, trivial⟩ rfl rfl rfl ?_
        refine HQ.done ?_
        refine HQ.keep [(1, _), (2, _), (3, _), (8, _), (9, _), (10, _)] ⟨rfl, rfl, rfl, rfl, rfl, rfl, trivial⟩ ?_
        obtain rfl := Option.some.inj H
        exact HQ.next () ⟨rfl, rfl, rfl, rfl, rfl, rfl, trivial⟩ ⟨rfl, rfl, trivial⟩ rfl
    · refine HQ.condF rfl hc ?_
      clear hc
      refine HQ.exit ?_
      refine HQ.thenE ?_
      obtain rfl := Option.some.inj H
      exact HQ.out () ⟨rfl, rfl, rfl, rfl, rfl, rfl, trivial⟩ ⟨rfl, rfl, trivial⟩ rfl
  · rintro ⟨l48, i49⟩ rfl _
    clear h52
    replace H := H
    refine HQ.keep [(1, _), (2, _), (3, _), (8, _), (9, _), (10, _)] ⟨rfl, rfl, rfl, rfl, rfl, rfl, trivial⟩ ?_
    refine HQ.keepR [(1, _), (2, _)] ⟨rfl, rfl, trivial⟩ rfl ?_
    refine HQ.blkE ?_
    refine HQ.thenN ?_
    refine HQ.rseq ?_
    refine HQ.op [1] [1] (OT.loadBA (vs := [.int .i64 p0.Seq, .int .i64 p0.Root, .int .i64 p0.Size, .slice a_0 (List.length p0.Puts) c_0]) ag57 sz57 rfl rfl) ⟨rfl, trivial⟩ ⟨rfl, trivial⟩ rfl rfl rfl rfl (fun _ => rfl) fun _ => ?_
    obtain ⟨t50, h51, H⟩ := bnd H
    refine HQ.op [] [] (OT.call (us := [_]) (Pre := []) [.tmp 38] Try.call104 rfl rfl fun w F hs hF hp => impl_Tx_numbersOk_c h51) ⟨rfl, rfl, trivial⟩ trivial rfl rfl rfl rfl (fun _ => rfl) fun _ => ?_
    refine HQ.pu Pu.assign ⟨rfl, trivial⟩ rfl rfl rfl ?_
    refine HQ.done ?_
    refine HQ.keep [(2, _)] ⟨rfl, trivial⟩ ?_
    refine HQ.ret ?_
    obtain rfl := Option.some.inj H
    exact HQ.fin (vs := [_]) Try.results35 () ⟨rfl, trivial⟩ rfl [] trivial rfl
  · rintro r rfl a w hr
    obtain rfl := Option.some.inj H
    exact hr

/-! impl.endCell -/
theorem impl_endCell_c {w : World} {p0 : Int} {p1 : TTx} {p2 : Int} {a_0 : Option Addr} {c_0 : Nat}  {r : (List Int)} (H : impl_endCell p0 p1 p2 = some r) :
    Calls Try.prog 102 #[.int .i64 p0, .agg #[.int .i64 p1.Seq, .int .i64 p1.Root, .int .i64 p1.Size, .slice a_0 (List.length p1.Puts) c_0], .int .i64 p2] w (Rt w Nil (fun g : Option Addr × Nat => .slice g.1 (List.length r) g.2) (fun g => [OwnS kU8 g.1 g.2 r])) := by
  rw [impl_endCell] at H
  refine Calls.enter0 (N := 23) (us := [_, _, _]) Try.func102 rfl rfl rfl ?_
  refine HQ.rseq ?_
  refine HQ.op [] [1] (OT.box (cs := [.int .i64 p1.Seq, .int .i64 p1.Root, .int .i64 p1.Size, .slice a_0 (List.length p1.Puts) c_0]) rfl) ⟨rfl, trivial⟩ trivial rfl rfl rfl rfl (fun _ => rfl) fun b1 => ?_
  refine HQ.pu Pu.assign ⟨rfl, trivial⟩ rfl rfl rfl ?_
  refine HQ.done ?_
  refine HQ.keep [(0, _), (2, _), (4, _), (6, _)] ⟨rfl, rfl, rfl, rfl, trivial⟩ ?_
  obtain ⟨t5, h6, H⟩ := bnd H
  obtain ⟨t9, h10, H⟩ := bnd H
  refine HQ.drawS mixd [(0, .int .i64 p0), (2, .int .i64 p2), (4, BP b1 0), (6, .slice none 0 0)] 15 [⟨[], [0], []⟩, ⟨[], [], []⟩, ⟨[0], [1, 0], [0, 1]⟩, ⟨[], [], []⟩, ⟨[2], [2], [3]⟩, ⟨[1], [3, 1], [2, 4]⟩, ⟨[], [], []⟩, ⟨[2], [2], [6]⟩, ⟨[], [], [7]⟩, ⟨[], [], []⟩, ⟨[2], [2], [9]⟩, ⟨[], [], [10]⟩, ⟨[], [], []⟩, ⟨[], [], [12]⟩, ⟨[], [4], [8, 11, 13]⟩] [⟨some 0, none⟩, ⟨some 2, none⟩, ⟨none, none⟩, ⟨some 5, none⟩, ⟨some 14, none⟩] (fun (g2 : (Option Addr × Nat) × (Option Addr × Nat) × (Option Addr × Nat) × (Option Addr × Nat)) => [.slice g2.1.1 (List.length ([2] : (List Int))) g2.1.2, .int .i64 p0, .slice g2.2.1.1 (List.length t5) g2.2.1.2, BP b1 0, .int .i64 p1.Seq, .slice g2.2.2.1.1 (List.length t9) g2.2.2.1.2, BP b1 1, .int .i64 p1.Root, .int .u8 (IntKind.u8.wrap p1.Root), BP b1 2, .int .i64 p1.Size, .int .u8 (IntKind.u8.wrap p1.Size), .int .i64 p2, .int .u8 (IntKind.u8.wrap p2), .slice g2.2.2.2.1 (List.length ([(IntKind.u8.wrap p1.Root), (IntKind.u8.wrap p1.Size), (IntKind.u8.wrap p2)] : (List Int))) g2.2.2.2.2]) (fun (g2 : (Option Addr × Nat) × (Option Addr × Nat) × (Option Addr × Nat) × (Option Addr × Nat)) => [OwnS kU8 g2.1.1 g2.1.2 ([2] : (List Int)), OwnS kU8 g2.2.1.1 g2.2.1.2 t5, Box b1 [.int .i64 p1.Seq, .int .i64 p1.Root, .int .i64 p1.Size, .slice a_0 (List.length p1.Puts) c_0], OwnS kU8 g2.2.2.1.1 g2.2.2.1.2 t9, OwnS kU8 g2.2.2.2.1 g2.2.2.2.2 ([(IntKind.u8.wrap p1.Root), (IntKind.u8.wrap p1.Size), (IntKind.u8.wrap p2)] : (List Int))]) ((none, 0), (none, 0), (none, 0), (none, 0)) [1] [2, 3, 1, 4, 5] [] ⟨rfl, rfl, rfl, rfl, trivial⟩ ⟨rfl, trivial⟩ rfl (by kernel_rfl) (fun _ => rfl) (by kernel_rfl) (fun _ => rfl) ⟨?_, ?_, ?_, ?_, ?_, ?_, ?_, ?_, ?_, ?_, ?_, ?_, ?_, ?_, ?_, trivial⟩ fun g2 => ?_
  · exact OpOK.of (fun g2 => [(.const (.int .u8 2), .int .u8 2)]) _ _ (fun g2 x => (x, g2.2.1, g2.2.2.1, g2.2.2.2)) rfl rfl (fun _ => ⟨rfl, trivial⟩) (fun g2 => OT.buildF (us := [.int .u8 2]) (ys := ([2] : (List Int))) (enc := (encI .u8)) (hl := fun _ => ⟨rfl, rfl⟩) [.const (.int .u8 2)] sl22.ul sl22.szE sl22.zc rfl rfl rfl rfl rfl) (fun _ _ => ⟨rfl, rfl, ⟨rfl, rfl, rfl, rfl, rfl, trivial⟩⟩)
  · exact OpOK.of (fun g2 => [(.tmp 0, .int .i64 p0)]) _ _ (fun g2 _ => g2) rfl rfl (fun _ => ⟨rfl, trivial⟩) (fun g2 => Pu.toOT Pu.move) (fun _ _ => ⟨rfl, rfl, ⟨rfl, rfl, rfl, rfl, rfl, trivial⟩⟩)
  · exact OpOK.of (fun g2 => [(.func 97, .func (.func 97) #[] #[]), (.tmp 7, .slice g2.1.1 (List.length ([2] : (List Int))) g2.1.2), (.tmp 8, .int .i64 p0)]) _ _ (fun g2 x => (g2.1, x, g2.2.2.1, g2.2.2.2)) rfl rfl (fun _ => ⟨rfl, rfl, rfl, trivial⟩) (fun g2 => OT.call (us := [_, _]) (Pre := [OwnS kU8 g2.1.1 g2.1.2 ([2] : (List Int))]) [.tmp 7, .tmp 8] Try.call97 rfl rfl fun w F hs hF hp => impl_Put2_c (hs.lend hF 0 rfl) h6) (fun _ _ => ⟨rfl, rfl, ⟨rfl, rfl, rfl, rfl, rfl, trivial⟩⟩)
  · exact OpOK.of (fun g2 => [(.tmp 4, BP b1 0)]) _ _ (fun g2 _ => g2) rfl rfl (fun _ => ⟨rfl, trivial⟩) (fun g2 => Pu.toOT (Pu.fieldB fo57_0 rfl)) (fun _ _ => ⟨rfl, rfl, ⟨rfl, rfl, rfl, rfl, rfl, trivial⟩⟩)
  · exact OpOK.of (fun g2 => [(.tmp 10, BP b1 0)]) _ _ (fun g2 _ => g2) rfl rfl (fun _ => ⟨rfl, trivial⟩) (fun g2 => OT.loadB sc3 rfl) (fun _ _ => ⟨rfl, rfl, ⟨rfl, rfl, rfl, rfl, rfl, trivial⟩⟩)
  · exact OpOK.of (fun g2 => [(.func 97, .func (.func 97) #[] #[]), (.tmp 9, .slice g2.2.1.1 (List.length t5) g2.2.1.2), (.tmp 11, .int .i64 p1.Seq)]) _ _ (fun g2 x => (g2.1, g2.2.1, x, g2.2.2.2)) rfl rfl (fun _ => ⟨rfl, rfl, rfl, trivial⟩) (fun g2 => OT.call (us := [_, _]) (Pre := [OwnS kU8 g2.2.1.1 g2.2.1.2 t5]) [.tmp 9, .tmp 11] Try.call97 rfl rfl fun w F hs hF hp => impl_Put2_c (hs.lend hF 0 rfl) h10) (fun _ _ => ⟨rfl, rfl, ⟨rfl, rfl, rfl, rfl, rfl, trivial⟩⟩)
  · exact OpOK.of (fun g2 => [(.tmp 4, BP b1 0)]) _ _ (fun g2 _ => g2) rfl rfl (fun _ => ⟨rfl, trivial⟩) (fun g2 => Pu.toOT (Pu.fieldB fo57_1 rfl)) (fun _ _ => ⟨rfl, rfl, ⟨rfl, rfl, rfl, rfl, rfl, trivial⟩⟩)
  · exact OpOK.of (fun g2 => [(.tmp 13, BP b1 1)]) _ _ (fun g2 _ => g2) rfl rfl (fun _ => ⟨rfl, trivial⟩) (fun g2 => OT.loadB sc3 rfl) (fun _ _ => ⟨rfl, rfl, ⟨rfl, rfl, rfl, rfl, rfl, trivial⟩⟩)
  · exact OpOK.of (fun g2 => [(.tmp 14, .int .i64 p1.Root)]) _ _ (fun g2 _ => g2) rfl rfl (fun _ => ⟨rfl, trivial⟩) (fun g2 => Pu.toOT (Pu.conv ul3 ul5)) (fun _ _ => ⟨rfl, rfl, ⟨rfl, rfl, rfl, rfl, rfl, trivial⟩⟩)
  · exact OpOK.of (fun g2 => [(.tmp 4, BP b1 0)]) _ _ (fun g2 _ => g2) rfl rfl (fun _ => ⟨rfl, trivial⟩) (fun g2 => Pu.toOT (Pu.fieldB fo57_2 rfl)) (fun _ _ => ⟨rfl, rfl, ⟨rfl, rfl, rfl, rfl, rfl, trivial⟩⟩)
  · exact OpOK.of (fun g2 => [(.tmp 16, BP b1 2)]) _ _ (fun g2 _ => g2) rfl rfl (fun _ => ⟨rfl, trivial⟩) (fun g2 => OT.loadB sc3 rfl) (fun _ _ => ⟨rfl, rfl, ⟨rfl, rfl, rfl, rfl, rfl, trivial⟩⟩)
  · exact OpOK.of (fun g2 => [(.tmp 17, .int .i64 p1.Size)]) _ _ (fun g2 _ => g2) rfl rfl (fun _ => ⟨rfl, trivial⟩) (fun g2 => Pu.toOT (Pu.conv ul3 ul5)) (fun _ _ => ⟨rfl, rfl, ⟨rfl, rfl, rfl, rfl, rfl, trivial⟩⟩)
  · exact OpOK.of (fun g2 => [(.tmp 2, .int .i64 p2)]) _ _ (fun g2 _ => g2) rfl rfl (fun _ => ⟨rfl, trivial⟩) (fun g2 => Pu.toOT Pu.move) (fun _ _ => ⟨rfl, rfl, ⟨rfl, rfl, rfl, rfl, rfl, trivial⟩⟩)
  · exact OpOK.of (fun g2 => [(.tmp 19, .int .i64 p2)]) _ _ (fun g2 _ => g2) rfl rfl (fun _ => ⟨rfl, trivial⟩) (fun g2 => Pu.toOT (Pu.conv ul3 ul5)) (fun _ _ => ⟨rfl, rfl, ⟨rfl, rfl, rfl, rfl, rfl, trivial⟩⟩)
  · exact OpOK.of (fun g2 => [(.tmp 15, .int .u8 (IntKind.u8.wrap p1.Root)), (.tmp 18, .int .u8 (IntKind.u8.wrap p1.Size)), (.tmp 20, .int .u8 (IntKind.u8.wrap p2))]) _ _ (fun g2 x => (g2.1, g2.2.1, g2.2.2.1, x)) rfl rfl (fun _ => ⟨rfl, rfl, rfl, trivial⟩) (fun g2 => OT.buildF (us := [.int .u8 (IntKind.u8.wrap p1.Root), .int .u8 (IntKind.u8.wrap p1.Size), .int .u8 (IntKind.u8.wrap p2)]) (ys := ([(IntKind.u8.wrap p1.Root), (IntKind.u8.wrap p1.Size), (IntKind.u8.wrap p2)] : (List Int))) (enc := (encI .u8)) (hl := fun _ => ⟨rfl, rfl⟩) [.tmp 15, .tmp 18, .tmp 20] sl22.ul sl22.szE sl22.zc rfl rfl rfl rfl rfl) (fun _ _ => ⟨rfl, rfl, ⟨rfl, rfl, rfl, rfl, rfl, trivial⟩⟩)
  refine HQ.keep [(6, _), (12, _), (21, _)] ⟨rfl, rfl, rfl, trivial⟩ ?_
  refine HQ.keepR [(1, _), (2, _), (3, _), (4, _), (5, _)] ⟨rfl, rfl, rfl, rfl, rfl, trivial⟩ rfl ?_
  obtain ⟨h17, H⟩ := asr H
  refine HQ.op [4, 5] [4, 5] (OT.appendG (enc := (encI .u8)) (hl := fun _ => ⟨rfl, rfl⟩) sl22 ul22 h17) ⟨rfl, rfl, trivial⟩ ⟨rfl, rfl, trivial⟩ rfl rfl rfl rfl (fun _ => rfl) fun ⟨a15, c16⟩ => ?_
  refine HQ.pu Pu.assign ⟨rfl, trivial⟩ rfl rfl rfl ?_
  refine HQ.done ?_
  refine HQ.keep [(6, _)] ⟨rfl, trivial⟩ ?_
  refine HQ.ret ?_
  obtain rfl := Option.some.inj H
  exact HQ.fin (vs := [_]) Try.results102 (a15, c16) ⟨rfl, trivial⟩ rfl [4] ⟨rfl, trivial⟩ rfl

/-! impl.EndCell -/
theorem impl_EndCell_c {w : World} {k : Nat} {p0 : Int} {p1 : TTx} {a_0 : Option Addr} {c_0 : Nat} (hb_0 : BorS kTChange a_0 c_0 p1.Puts w.heap (Lt w Nil)) {r : (List Int)} (H : impl_EndCell k p0 p1 = some r) :
    Calls Try.prog 30 #[.int .i64 p0, .agg #[.int .i64 p1.Seq, .int .i64 p1.Root, .int .i64 p1.Size, .slice a_0 (List.length p1.Puts) c_0]] w (Rt w Nil (fun g : Option Addr × Nat => .slice g.1 (List.length r) g.2) (fun g => [OwnS kU8 g.1 g.2 r])) := by
  rw [impl_EndCell] at H
  refine Calls.enter0 (N := 19) (us := [_, _]) Try.func30 rfl rfl rfl ?_
  refine HQ.rseq ?_
  refine HQ.op [] [1] (OT.box (cs := [.int .i64 p1.Seq, .int .i64 p1.Root, .int .i64 p1.Size, .slice a_0 (List.length p1.Puts) c_0]) rfl) ⟨rfl, trivial⟩ trivial rfl rfl rfl rfl (fun _ => rfl) fun b1 => ?_
  refine HQ.pu Pu.assign ⟨rfl, trivial⟩ rfl rfl rfl ?_
  refine HQ.done ?_
  refine HQ.keep [(0, _), (3, _), (4, _)] ⟨rfl, rfl, rfl, trivial⟩ ?_
  refine HQ.seq ?_
  refine HQ.rseq ?_
  refine HQ.pu Pu.move ⟨rfl, trivial⟩ rfl rfl rfl ?_
  obtain ⟨t2, h3, H⟩ := bnd H
  refine HQ.op [] [] (OT.call (us := [_, _, _]) (Pre := []) [.tmp 5, .const (.int .i64 0), .const (.int .i64 65535)] Try.call83 rfl rfl fun w F hs hF hp => impl_in_c h3) ⟨rfl, rfl, rfl, rfl, trivial⟩ trivial rfl rfl rfl rfl (fun _ => rfl) fun _ => ?_
  refine HQ.pu Pu.not ⟨rfl, trivial⟩ rfl rfl rfl ?_
  refine HQ.pu Pu.move ⟨rfl, trivial⟩ rfl rfl rfl ?_
  obtain ⟨c7, h8, H⟩ := bnd H
  refine HQ.cutAt 4 [(12, .bool c7), (0, .int .i64 p0), (3, BP b1 0), (4, .slice none 0 0)] [(1, Box b1 [.int .i64 p1.Seq, .int .i64 p1.Root, .int .i64 p1.Size, .slice a_0 (List.length p1.Puts) c_0])] ?_ ?_
  · clear H
    have H := h8
    rcases brk H with ⟨hg4, H⟩ | ⟨hg4, H⟩
    · obtain rfl := Option.some.inj H
      refine HQ.off rfl rfl hg4 rfl ?_
      refine HQ.off rfl rfl hg4 rfl ?_
      refine HQ.off rfl rfl hg4 rfl ?_
      refine HQ.pu (Pu.pickC1 hg4) ⟨rfl, rfl, trivial⟩ rfl rfl rfl ?_
      exact HQ.mid ⟨rfl, rfl, rfl, rfl, trivial⟩ ⟨rfl, trivial⟩ rfl
    · refine HQ.on rfl rfl hg4 ?_
      refine HQ.op [1] [1] (OT.loadBA (vs := [.int .i64 p1.Seq, .int .i64 p1.Root, .int .i64 p1.Size, .slice a_0 (List.length p1.Puts) c_0]) ag57 sz57 rfl rfl) ⟨rfl, trivial⟩ ⟨rfl, trivial⟩ rfl rfl rfl rfl (fun _ => rfl) fun _ => ?_
      refine HQ.on rfl rfl hg4 ?_
      obtain ⟨t5, h6, H⟩ := bnd H
      refine HQ.op [] [] (OT.call (us := [_]) (Pre := []) [.tmp 9] Try.call35 rfl rfl fun w F hs hF hp => impl_TxOk_c (hb_0.pass hp) h6) ⟨rfl, rfl, trivial⟩ trivial rfl rfl rfl rfl (fun _ => rfl) fun _ => ?_
      refine HQ.on rfl rfl hg4 ?_
      refine HQ.pu Pu.not ⟨rfl, trivial⟩ rfl rfl rfl ?_
      obtain rfl := Option.some.inj H
      refine HQ.pu (Pu.pickC0 hg4) ⟨rfl, rfl, trivial⟩ rfl rfl rfl ?_
      exact HQ.mid ⟨rfl, rfl, rfl, rfl, trivial⟩ ⟨rfl, trivial⟩ rfl
  refine HQ.done ?_
  refine HQ.keep [(12, _), (0, _), (3, _), (4, _)] ⟨rfl, rfl, rfl, rfl, trivial⟩ ?_
  rcases brk H with ⟨hc, H⟩ | ⟨hc, H⟩
  · refine HQ.condT rfl hc ?_
    clear hc
    refine HQ.rseq ?_
    refine HQ.pu Pu.assign ⟨rfl, trivial⟩ rfl rfl rfl ?_
    refine HQ.done ?_
    refine HQ.keep [(0, _), (3, _), (4, _)] ⟨rfl, rfl, rfl, trivial⟩ ?_
    refine HQ.ret ?_
    refine HQ.thenR ?_
    obtain rfl := Option.some.inj H
    refine HQ.nil kU8 2 rfl ?_
    exact HQ.fin (vs := [_]) Try.results30 (none, 0) ⟨rfl, trivial⟩ rfl [2] ⟨rfl, trivial⟩ rfl
  · refine HQ.condF rfl hc ?_
    clear hc
    refine HQ.skipThen ?_
    refine HQ.rseq ?_
    refine HQ.pu Pu.move ⟨rfl, trivial⟩ rfl rfl rfl ?_
    refine HQ.op [1] [1] (OT.loadBA (vs := [.int .i64 p1.Seq, .int .i64 p1.Root, .int .i64 p1.Size, .slice a_0 (List.length p1.Puts) c_0]) ag57 sz57 rfl rfl) ⟨rfl, trivial⟩ ⟨rfl, trivial⟩ rfl rfl rfl rfl (fun _ => rfl) fun _ => ?_
    refine HQ.pu (Pu.fieldB fo57_3 rfl) ⟨rfl, trivial⟩ rfl rfl rfl ?_
    refine HQ.op [1] [1] (OT.loadB sc55 rfl) ⟨rfl, trivial⟩ ⟨rfl, trivial⟩ rfl rfl rfl rfl (fun _ => rfl) fun _ => ?_
    refine HQ.pu (Pu.len ul55) ⟨rfl, trivial⟩ rfl rfl rfl ?_
    obtain ⟨t9, h10, H⟩ := bnd H
    refine HQ.op [] [3] (OT.call (us := [_, _, _]) (Pre := []) [.tmp 13, .tmp 14, .tmp 17] Try.call102 rfl rfl fun w F hs hF hp => impl_endCell_c h10) ⟨rfl, rfl, rfl, rfl, trivial⟩ trivial rfl rfl rfl rfl (fun _ => rfl) fun ⟨a11, c12⟩ => ?_
    refine HQ.pu Pu.assign ⟨rfl, trivial⟩ rfl rfl rfl ?_
    refine HQ.done ?_
    refine HQ.keep [(4, _)] ⟨rfl, trivial⟩ ?_
    refine HQ.ret ?_
    obtain rfl := Option.some.inj H
    exact HQ.fin (vs := [_]) Try.results30 (a11, c12) ⟨rfl, trivial⟩ rfl [3] ⟨rfl, trivial⟩ rfl

/-! impl.GetEnd -/
theorem impl_GetEnd_c {w : World} {k : Nat} {p0 : Int} {p1 : (List Int)} {a_0 : Option Addr} {c_0 : Nat} (hb_0 : BorS kU8 a_0 c_0 p1 w.heap (Lt w Nil)) {r : TTx × Int × Bool} (H : impl_GetEnd k p0 p1 = some r) :
    Calls Try.prog 31 #[.int .i64 p0, .slice a_0 (List.length p1) c_0] w (Rt w Nil (fun g : Option Addr × Nat => .tuple #[.agg #[.int .i64 r.1.Seq, .int .i64 r.1.Root, .int .i64 r.1.Size, .slice g.1 (List.length r.1.Puts) g.2], .int .i64 r.2.1, .bool r.2.2]) (fun g => [OwnS kTChange g.1 g.2 r.1.Puts])) := by
  rw [impl_GetEnd] at H
  refine Calls.enter0 (N := 61) (us := [_, _]) Try.func31 rfl rfl rfl ?_
  refine HQ.rseq ?_
  refine HQ.op [] [1] (OT.alloc zc57) trivial trivial rfl rfl rfl rfl (fun _ => rfl) fun b1 => ?_
  refine HQ.pu Pu.assign ⟨rfl, trivial⟩ rfl rfl rfl ?_
  refine HQ.pu Pu.assign ⟨rfl, trivial⟩ rfl rfl rfl ?_
  refine HQ.done ?_
  refine HQ.keep [(0, _), (1, _), (4, _), (5, _), (6, _)] ⟨rfl, rfl, rfl, rfl, rfl, trivial⟩ ?_
  refine HQ.seq ?_
  refine HQ.rseq ?_
  refine HQ.pu Pu.move ⟨rfl, trivial⟩ rfl rfl rfl ?_
  refine HQ.pu (Pu.len ul22) ⟨rfl, trivial⟩ rfl rfl rfl ?_
  refine HQ.pu Pu.neq ⟨rfl, rfl, trivial⟩ rfl rfl rfl ?_
  refine HQ.pu Pu.move ⟨rfl, trivial⟩ rfl rfl rfl ?_
  obtain ⟨c5, h6, H⟩ := bnd H
  refine HQ.cutAt 4 [(18, .bool c5), (0, .int .i64 p0), (1, .slice a_0 (List.length p1) c_0), (4, BP b1 0), (5, .int .i64 0), (6, .bool false)] [(1, Box b1 [.int .i64 0, .int .i64 0, .int .i64 0, .slice none 0 0])] ?_ ?_
  · clear H
    have H := h6
    rcases brk H with ⟨hg2, H⟩ | ⟨hg2, H⟩
    · obtain rfl := Option.some.inj H
      refine HQ.off rfl rfl hg2 rfl ?_
      refine HQ.off rfl rfl hg2 rfl ?_
      refine HQ.off rfl rfl hg2 rfl ?_
      refine HQ.pu (Pu.pickC1 hg2) ⟨rfl, rfl, trivial⟩ rfl rfl rfl ?_
      exact HQ.mid ⟨rfl, rfl, rfl, rfl, rfl, rfl, trivial⟩ ⟨rfl, trivial⟩ rfl
    · refine HQ.on rfl rfl hg2 ?_
      refine HQ.pu Pu.move ⟨rfl, trivial⟩ rfl rfl rfl ?_
      refine HQ.on rfl rfl hg2 ?_
      obtain ⟨t3, h4, H⟩ := bnd H
      refine HQ.op [] [] (OT.call (us := [_, _, _]) (Pre := []) [.tmp 15, .const (.int .i64 0), .const (.int .i64 65535)] Try.call83 rfl rfl fun w F hs hF hp => impl_in_c h4) ⟨rfl, rfl, rfl, rfl, trivial⟩ trivial rfl rfl rfl rfl (fun _ => rfl) fun _ => ?_
      refine HQ.on rfl rfl hg2 ?_
      refine HQ.pu Pu.not ⟨rfl, trivial⟩ rfl rfl rfl ?_
      obtain rfl := Option.some.inj H
      refine HQ.pu (Pu.pickC0 hg2) ⟨rfl, rfl, trivial⟩ rfl rfl rfl ?_
      exact HQ.mid ⟨rfl, rfl, rfl, rfl, rfl, rfl, trivial⟩ ⟨rfl, trivial⟩ rfl
  refine HQ.done ?_
  refine HQ.keep [(18, _), (0, _), (1, _), (4, _), (5, _), (6, _)] ⟨rfl, rfl, rfl, rfl, rfl, rfl, trivial⟩ ?_
  rcases brk H with ⟨hc, H⟩ | ⟨hc, H⟩
  · refine HQ.condT rfl hc ?_
    clear hc
    refine HQ.rseq ?_
    refine HQ.pu (Pu.build (us := []) (cs := [.int .i64 0, .int .i64 0, .int .i64 0, .slice none 0 0]) [] st57 rfl rfl rfl) trivial rfl rfl rfl ?_
    refine HQ.opN [1] [1] [] (OT.storeC (cs' := [.int .i64 0, .int .i64 0, .int .i64 0, .slice none 0 0]) sz57 rfl rfl rfl rfl rfl) ⟨rfl, rfl, trivial⟩ ⟨rfl, trivial⟩ rfl rfl rfl (fun _ => rfl) fun _ => ?_
    refine HQ.pu Pu.assign ⟨rfl, trivial⟩ rfl rfl rfl ?_
    refine HQ.pu Pu.assign ⟨rfl, trivial⟩ rfl rfl rfl ?_
    refine HQ.done ?_
    refine HQ.keep [(0, _), (1, _), (4, _), (5, _), (6, _)] ⟨rfl, rfl, rfl, rfl, rfl, trivial⟩ ?_
    refine HQ.ret ?_
    refine HQ.thenR ?_
    obtain rfl := Option.some.inj H
    refine HQ.nil kTChange 2 rfl ?_
    exact HQ.fin (vs := [_, _, _]) Try.results31 (none, 0) ⟨⟨_, _, 1, rfl, rfl, ag57, sz57, rfl⟩, rfl, rfl, trivial⟩ rfl [2] ⟨rfl, trivial⟩ rfl
  · refine HQ.condF rfl hc ?_
    clear hc
    refine HQ.skipThen ?_
    refine HQ.rseq ?_
    refine HQ.pu Pu.move ⟨rfl, trivial⟩ rfl rfl rfl ?_
    obtain ⟨t7, h8, H⟩ := bnd H
    refine HQ.op [] [] (OT.call (us := [_, _]) (Pre := []) [.tmp 21, .const (.int .i64 3)] Try.call103 rfl rfl fun w F hs hF hp => impl_Get2_c (hb_0.pass hp) h8) ⟨rfl, rfl, rfl, trivial⟩ trivial rfl rfl rfl rfl (fun _ => rfl) fun _ => ?_
    refine HQ.pu Pu.move ⟨rfl, trivial⟩ rfl rfl rfl ?_
    refine HQ.pu (Pu.extract rfl) ⟨rfl, trivial⟩ rfl rfl rfl ?_
    refine HQ.pu (Pu.extract rfl) ⟨rfl, trivial⟩ rfl rfl rfl ?_
    refine HQ.pu Pu.assign ⟨rfl, trivial⟩ rfl rfl rfl ?_
    refine HQ.pu Pu.assign ⟨rfl, trivial⟩ rfl rfl rfl ?_
    refine HQ.done ?_
    refine HQ.keep [(0, _), (1, _), (4, _), (5, _), (6, _), (7, _)] ⟨rfl, rfl, rfl, rfl, rfl, rfl, trivial⟩ ?_
    obtain ⟨h10, H⟩ := asr H
    obtain ⟨h11, H⟩ := asr H
    refine HQ.drawS mixd [(0, .int .i64 p0), (1, .slice a_0 (List.length p1) c_0), (4, BP b1 0), (5, .int .i64 0), (6, .bool false), (7, .int .i64 t7.1)] 11 [⟨[], [], []⟩, ⟨[], [], []⟩, ⟨[], [], [1]⟩, ⟨[], [], [2]⟩, ⟨[], [], [3]⟩, ⟨[], [], []⟩, ⟨[], [], [5]⟩, ⟨[], [], [6]⟩, ⟨[], [], [7]⟩, ⟨[], [], [0, 4, 8]⟩, ⟨[], [0], []⟩] [⟨some 10, none⟩] (fun (g9 : Nat) => [.int .i64 t7.1, .slice a_0 (List.length p1) c_0, EP a_0 5 1 0, .int .u8 (gt p1 5), .int .i64 (IntKind.i64.wrap (gt p1 5)), .slice a_0 (List.length p1) c_0, EP a_0 6 1 0, .int .u8 (gt p1 6), .int .i64 (IntKind.i64.wrap (gt p1 6)), .agg #[.int .i64 t7.1, .int .i64 (IntKind.i64.wrap (gt p1 5)), .int .i64 (IntKind.i64.wrap (gt p1 6)), .slice none 0 0], BP g9 0]) (fun (g9 : Nat) => [Box g9 [.int .i64 0, .int .i64 0, .int .i64 0, .slice none 0 0]]) 0 [] [3] [] ⟨rfl, rfl, rfl, rfl, rfl, rfl, trivial⟩ trivial rfl (by kernel_rfl) (fun _ => rfl) (by kernel_rfl) (fun _ => rfl) ⟨?_, ?_, ?_, ?_, ?_, ?_, ?_, ?_, ?_, ?_, ?_, trivial⟩ fun g9 => ?_
    · exact OpOK.of (fun g9 => [(.tmp 7, .int .i64 t7.1)]) _ _ (fun g9 _ => g9) rfl rfl (fun _ => ⟨rfl, trivial⟩) (fun g9 => Pu.toOT Pu.move) (fun _ _ => ⟨rfl, rfl, ⟨rfl, trivial⟩⟩)
    · exact OpOK.of (fun g9 => [(.tmp 1, .slice a_0 (List.length p1) c_0)]) _ _ (fun g9 _ => g9) rfl rfl (fun _ => ⟨rfl, trivial⟩) (fun g9 => Pu.toOT Pu.move) (fun _ _ => ⟨rfl, rfl, ⟨rfl, trivial⟩⟩)
    · exact OpOK.of (fun g9 => [(.tmp 26, .slice a_0 (List.length p1) c_0), (.const (.int .i64 5), .int .i64 5)]) _ _ (fun g9 _ => g9) rfl rfl (fun _ => ⟨rfl, rfl, trivial⟩) (fun g9 => OT.indexB ul22 sz5 hb_0 h10) (fun _ _ => ⟨rfl, rfl, ⟨rfl, trivial⟩⟩)
    · exact OpOK.of (fun g9 => [(.tmp 27, EP a_0 5 1 0)]) _ _ (fun g9 _ => g9) rfl rfl (fun _ => ⟨rfl, trivial⟩) (fun g9 => OT.loadF sc5 hb_0 h10 rfl) (fun _ _ => ⟨rfl, rfl, ⟨rfl, trivial⟩⟩)
    · exact OpOK.of (fun g9 => [(.tmp 28, .int .u8 (gt p1 5))]) _ _ (fun g9 _ => g9) rfl rfl (fun _ => ⟨rfl, trivial⟩) (fun g9 => Pu.toOT (Pu.conv ul5 ul3)) (fun _ _ => ⟨rfl, rfl, ⟨rfl, trivial⟩⟩)
    · exact OpOK.of (fun g9 => [(.tmp 1, .slice a_0 (List.length p1) c_0)]) _ _ (fun g9 _ => g9) rfl rfl (fun _ => ⟨rfl, trivial⟩) (fun g9 => Pu.toOT Pu.move) (fun _ _ => ⟨rfl, rfl, ⟨rfl, trivial⟩⟩)
    · exact OpOK.of (fun g9 => [(.tmp 30, .slice a_0 (List.length p1) c_0), (.const (.int .i64 6), .int .i64 6)]) _ _ (fun g9 _ => g9) rfl rfl (fun _ => ⟨rfl, rfl, trivial⟩) (fun g9 => OT.indexB ul22 sz5 hb_0 h11) (fun _ _ => ⟨rfl, rfl, ⟨rfl, trivial⟩⟩)
    · exact OpOK.of (fun g9 => [(.tmp 31, EP a_0 6 1 0)]) _ _ (fun g9 _ => g9) rfl rfl (fun _ => ⟨rfl, trivial⟩) (fun g9 => OT.loadF sc5 hb_0 h11 rfl) (fun _ _ => ⟨rfl, rfl, ⟨rfl, trivial⟩⟩)
    · exact OpOK.of (fun g9 => [(.tmp 32, .int .u8 (gt p1 6))]) _ _ (fun g9 _ => g9) rfl rfl (fun _ => ⟨rfl, trivial⟩) (fun g9 => Pu.toOT (Pu.conv ul5 ul3)) (fun _ _ => ⟨rfl, rfl, ⟨rfl, trivial⟩⟩)
    · exact OpOK.of (fun g9 => [(.tmp 25, .int .i64 t7.1), (.tmp 29, .int .i64 (IntKind.i64.wrap (gt p1 5))), (.tmp 33, .int .i64 (IntKind.i64.wrap (gt p1 6)))]) _ _ (fun g9 _ => g9) rfl rfl (fun _ => ⟨rfl, rfl, rfl, trivial⟩) (fun g9 => Pu.toOT (Pu.build (us := [.int .i64 t7.1, .int .i64 (IntKind.i64.wrap (gt p1 5)), .int .i64 (IntKind.i64.wrap (gt p1 6))]) (cs := [.int .i64 t7.1, .int .i64 (IntKind.i64.wrap (gt p1 5)), .int .i64 (IntKind.i64.wrap (gt p1 6)), .slice none 0 0]) [(0, .tmp 25), (1, .tmp 29), (2, .tmp 33)] st57 rfl rfl rfl)) (fun _ _ => ⟨rfl, rfl, ⟨rfl, trivial⟩⟩)
    · exact OpOK.of (fun g9 => []) _ _ (fun g9 x => x) rfl rfl (fun _ => trivial) (fun g9 => OT.alloc zc57) (fun _ _ => ⟨rfl, rfl, ⟨rfl, trivial⟩⟩)
    refine HQ.keep [(0, _), (1, _), (4, _), (5, _), (6, _), (34, _), (9, _)] ⟨rfl, rfl, rfl, rfl, rfl, rfl, rfl, trivial⟩ ?_
    refine HQ.keepR [(1, _), (3, _)] ⟨rfl, rfl, trivial⟩ rfl ?_
    refine HQ.opN [3] [3] [] (OT.storeC (cs' := [.int .i64 t7.1, .int .i64 (IntKind.i64.wrap (gt p1 5)), .int .i64 (IntKind.i64.wrap (gt p1 6)), .slice none 0 0]) sz57 rfl rfl rfl rfl rfl) ⟨rfl, rfl, trivial⟩ ⟨rfl, trivial⟩ rfl rfl rfl (fun _ => rfl) fun _ => ?_
    refine HQ.done ?_
    refine HQ.keep [(0, _), (1, _), (4, _), (5, _), (6, _), (9, _)] ⟨rfl, rfl, rfl, rfl, rfl, rfl, trivial⟩ ?_
    refine HQ.rseq ?_
    refine HQ.pu Pu.move ⟨rfl, trivial⟩ rfl rfl rfl ?_
    obtain ⟨h13, H⟩ := asr H
    refine HQ.op [] [] (OT.indexB ul22 sz5 hb_0 h13) ⟨rfl, rfl, trivial⟩ trivial rfl rfl rfl rfl (fun _ => rfl) fun _ => ?_
    refine HQ.op [] [] (OT.loadF sc5 hb_0 h13 rfl) ⟨rfl, trivial⟩ trivial rfl rfl rfl rfl (fun _ => rfl) fun _ => ?_
    refine HQ.pu (Pu.conv ul5 ul3) ⟨rfl, trivial⟩ rfl rfl rfl ?_
    refine HQ.pu Pu.assign ⟨rfl, trivial⟩ rfl rfl rfl ?_
    refine HQ.done ?_
    refine HQ.keep [(0, _), (1, _), (4, _), (5, _), (6, _), (9, _), (10, _)] ⟨rfl, rfl, rfl, rfl, rfl, rfl, rfl, trivial⟩ ?_
    refine HQ.seq ?_
    refine HQ.rseq ?_
    refine HQ.op [3] [3] (OT.loadBA (vs := [.int .i64 t7.1, .int .i64 (IntKind.i64.wrap (gt p1 5)), .int .i64 (IntKind.i64.wrap (gt p1 6)), .slice none 0 0]) ag57 sz57 rfl rfl) ⟨rfl, trivial⟩ ⟨rfl, trivial⟩ rfl rfl rfl rfl (fun _ => rfl) fun _ => ?_
    obtain ⟨t14, h15, H⟩ := bnd H
    refine HQ.op [] [] (OT.call (us := [_]) (Pre := []) [.tmp 39] Try.call104 rfl rfl fun w F hs hF hp => impl_Tx_numbersOk_c h15) ⟨rfl, rfl, trivial⟩ trivial rfl rfl rfl rfl (fun _ => rfl) fun _ => ?_
    refine HQ.pu Pu.not ⟨rfl, trivial⟩ rfl rfl rfl ?_
    refine HQ.pu Pu.move ⟨rfl, trivial⟩ rfl rfl rfl ?_
    refine HQ.cutAt 5 [(47, .bool ((!t14) || (decide ((IntKind.i64.wrap (gt p1 7)) > (IntKind.i64.wrap (gt p1 6)))))), (0, .int .i64 p0), (1, .slice a_0 (List.length p1) c_0), (4, BP b1 0), (5, .int .i64 0), (6, .bool false), (9, BP g9 0), (10, .int .i64 (IntKind.i64.wrap (gt p1 7)))] [(1, Box b1 [.int .i64 0, .int .i64 0, .int .i64 0, .slice none 0 0]), (3, Box g9 [.int .i64 t7.1, .int .i64 (IntKind.i64.wrap (gt p1 5)), .int .i64 (IntKind.i64.wrap (gt p1 6)), .slice none 0 0])] ?_ ?_
    · rcases Bool.eq_false_or_eq_true (!t14) with hg16 | hg16
      · refine HQ.off rfl rfl hg16 rfl ?_
        refine HQ.off rfl rfl hg16 rfl ?_
        refine HQ.off rfl rfl hg16 rfl ?_
        refine HQ.off rfl rfl hg16 rfl ?_
        refine HQ.pu (Pu.pickOT (u := (decide ((IntKind.i64.wrap (gt p1 7)) > (IntKind.i64.wrap (gt p1 6))))) hg16) ⟨rfl, rfl, trivial⟩ rfl rfl rfl ?_
        exact HQ.mid ⟨rfl, rfl, rfl, rfl, rfl, rfl, rfl, rfl, trivial⟩ ⟨rfl, rfl, trivial⟩ rfl
      · refine HQ.on rfl rfl hg16 ?_
        refine HQ.pu Pu.move ⟨rfl, trivial⟩ rfl rfl rfl ?_
        refine HQ.on rfl rfl hg16 ?_
        refine HQ.pu (Pu.fieldB fo57_2 rfl) ⟨rfl, trivial⟩ rfl rfl rfl ?_
        refine HQ.on rfl rfl hg16 ?_
        refine HQ.op [3] [3] (OT.loadB sc3 rfl) ⟨rfl, trivial⟩ ⟨rfl, trivial⟩ rfl rfl rfl rfl (fun _ => rfl) fun _ => ?_
        refine HQ.on rfl rfl hg16 ?_
        refine HQ.pu Pu.gtr ⟨rfl, rfl, trivial⟩ rfl rfl rfl ?_
        refine HQ.pu (Pu.pickOF hg16) ⟨rfl, rfl, trivial⟩ rfl rfl rfl ?_
        exact HQ.mid ⟨rfl, rfl, rfl, rfl, rfl, rfl, rfl, rfl, trivial⟩ ⟨rfl, rfl, trivial⟩ rfl
    refine HQ.pu Pu.move ⟨rfl, trivial⟩ rfl rfl rfl ?_
    obtain ⟨c28, h29, H⟩ := bnd H
    refine HQ.cutAt 9 [(57, .bool c28), (4, BP b1 0), (5, .int .i64 0), (6, .bool false), (9, BP g9 0), (10, .int .i64 (IntKind.i64.wrap (gt p1 7)))] [(1, Box b1 [.int .i64 0, .int .i64 0, .int .i64 0, .slice none 0 0]), (3, Box g9 [.int .i64 t7.1, .int .i64 (IntKind.i64.wrap (gt p1 5)), .int .i64 (IntKind.i64.wrap (gt p1 6)), .slice none 0 0])] ?_ ?_
    · clear H
      have H := h29
      rcases brk H with ⟨hg17, H⟩ | ⟨hg17, H⟩
      · obtain rfl := Option.some.inj H
        refine HQ.off rfl rfl hg17 rfl ?_
        refine HQ.off rfl rfl hg17 rfl ?_
        refine HQ.off rfl rfl hg17 rfl ?_
        refine HQ.off rfl rfl hg17 rfl ?_
        refine HQ.off rfl rfl hg17 rfl ?_
        refine HQ.off rfl rfl hg17 rfl ?_
        refine HQ.off rfl rfl hg17 rfl ?_
        refine HQ.off rfl rfl hg17 rfl ?_
        refine HQ.pu (Pu.pickC1 hg17) ⟨rfl, rfl, trivial⟩ rfl rfl rfl ?_
        exact HQ.mid ⟨rfl, rfl, rfl, rfl, rfl, rfl, trivial⟩ ⟨rfl, rfl, trivial⟩ rfl
      · refine HQ.on rfl rfl hg17 ?_
        refine HQ.pu Pu.move ⟨rfl, trivial⟩ rfl rfl rfl ?_
        refine HQ.on rfl rfl hg17 ?_
        refine HQ.op [3] [3] (OT.loadBA (vs := [.int .i64 t7.1, .int .i64 (IntKind.i64.wrap (gt p1 5)), .int .i64 (IntKind.i64.wrap (gt p1 6)), .slice none 0 0]) ag57 sz57 rfl rfl) ⟨rfl, trivial⟩ ⟨rfl, trivial⟩ rfl rfl rfl rfl (fun _ => rfl) fun _ => ?_
        refine HQ.on rfl rfl hg17 ?_
        refine HQ.pu Pu.move ⟨rfl, trivial⟩ rfl rfl rfl ?_
        refine HQ.on rfl rfl hg17 ?_
        obtain ⟨t18, h19, H⟩ := bnd H
        refine HQ.op [] [4] (OT.call (us := [_, _, _]) (Pre := []) [.tmp 49, .tmp 50, .tmp 51] Try.call102 rfl rfl fun w F hs hF hp => impl_endCell_c h19) ⟨rfl, rfl, rfl, rfl, trivial⟩ trivial rfl rfl rfl rfl (fun _ => rfl) fun ⟨a20, c21⟩ => ?_
        refine HQ.on rfl rfl hg17 ?_
        obtain ⟨t22, h23, H⟩ := bnd H
        refine HQ.op [4] [5, 4] (OT.call (us := [_, _]) (Pre := [OwnS kU8 a20 c21 t18]) [.tmp 52, .const (.int .i64 32)] Try.call24 rfl rfl fun w F hs hF hp => impl_Pad_c (hs.lend hF 0 rfl) h23) ⟨rfl, rfl, rfl, trivial⟩ ⟨rfl, trivial⟩ rfl rfl rfl rfl (fun _ => rfl) fun ⟨a24, c25⟩ => ?_
        refine HQ.on rfl rfl hg17 ?_
        refine HQ.pu Pu.move ⟨rfl, trivial⟩ rfl rfl rfl ?_
        refine HQ.on rfl rfl hg17 ?_
        obtain ⟨t26, h27, H⟩ := bnd H
        refine HQ.op [5] [5] (OT.call (us := [_, _]) (Pre := [OwnS kU8 a24 c25 t22]) [.tmp 53, .tmp 54] Try.call100 rfl rfl fun w F hs hF hp => bytes_Equal_c (hs.lend hF 0 rfl) (hb_0.pass hp) h27) ⟨rfl, rfl, rfl, trivial⟩ ⟨rfl, trivial⟩ rfl rfl rfl rfl (fun _ => rfl) fun _ => ?_
        refine HQ.on rfl rfl hg17 ?_
        refine HQ.pu Pu.not ⟨rfl, trivial⟩ rfl rfl rfl ?_
        obtain rfl := Option.some.inj H
        refine HQ.pu (Pu.pickC0 hg17) ⟨rfl, rfl, trivial⟩ rfl rfl rfl ?_
        exact HQ.mid ⟨rfl, rfl, rfl, rfl, rfl, rfl, trivial⟩ ⟨rfl, rfl, trivial⟩ rfl
    refine HQ.done ?_
    refine HQ.keep [(57, _), (4, _), (5, _), (6, _), (9, _), (10, _)] ⟨rfl, rfl, rfl, rfl, rfl, rfl, trivial⟩ ?_
    rcases brk H with ⟨hc, H⟩ | ⟨hc, H⟩
    · refine HQ.condT rfl hc ?_
      clear hc
      refine HQ.rseq ?_
      refine HQ.pu (Pu.build (us := []) (cs := [.int .i64 0, .int .i64 0, .int .i64 0, .slice none 0 0]) [] st57 rfl rfl rfl) trivial rfl rfl rfl ?_
      refine HQ.opN [1] [1] [] (OT.storeC (cs' := [.int .i64 0, .int .i64 0, .int .i64 0, .slice none 0 0]) sz57 rfl rfl rfl rfl rfl) ⟨rfl, rfl, trivial⟩ ⟨rfl, trivial⟩ rfl rfl rfl (fun _ => rfl) fun _ => ?_
      refine HQ.pu Pu.assign ⟨rfl, trivial⟩ rfl rfl rfl ?_
      refine HQ.pu Pu.assign ⟨rfl, trivial⟩ rfl rfl rfl ?_
      refine HQ.done ?_
      refine HQ.keep [(4, _), (5, _), (6, _), (9, _), (10, _)] ⟨rfl, rfl, rfl, rfl, rfl, trivial⟩ ?_
      refine HQ.ret ?_
      refine HQ.thenR ?_
      obtain rfl := Option.some.inj H
      refine HQ.nil kTChange 6 rfl ?_
      exact HQ.fin (vs := [_, _, _]) Try.results31 (none, 0) ⟨⟨_, _, 1, rfl, rfl, ag57, sz57, rfl⟩, rfl, rfl, trivial⟩ rfl [6] ⟨rfl, trivial⟩ rfl
    · refine HQ.condF rfl hc ?_
      clear hc
      refine HQ.skipThen ?_
      refine HQ.rseq ?_
      refine HQ.op [3] [3] (OT.loadBA (vs := [.int .i64 t7.1, .int .i64 (IntKind.i64.wrap (gt p1 5)), .int .i64 (IntKind.i64.wrap (gt p1 6)), .slice none 0 0]) ag57 sz57 rfl rfl) ⟨rfl, trivial⟩ ⟨rfl, trivial⟩ rfl rfl rfl rfl (fun _ => rfl) fun _ => ?_
      refine HQ.pu Pu.move ⟨rfl, trivial⟩ rfl rfl rfl ?_
      refine HQ.opN [1] [1] [] (OT.storeC (cs' := [.int .i64 t7.1, .int .i64 (IntKind.i64.wrap (gt p1 5)), .int .i64 (IntKind.i64.wrap (gt p1 6)), .slice none 0 0]) sz57 rfl rfl rfl rfl rfl) ⟨rfl, rfl, trivial⟩ ⟨rfl, trivial⟩ rfl rfl rfl (fun _ => rfl) fun _ => ?_
      refine HQ.pu Pu.assign ⟨rfl, trivial⟩ rfl rfl rfl ?_
      refine HQ.pu Pu.assign ⟨rfl, trivial⟩ rfl rfl rfl ?_
      refine HQ.done ?_
      refine HQ.keep [(4, _), (5, _), (6, _)] ⟨rfl, rfl, rfl, trivial⟩ ?_
      refine HQ.ret ?_
      obtain rfl := Option.some.inj H
      refine HQ.nil kTChange 7 rfl ?_
      exact HQ.fin (vs := [_, _, _]) Try.results31 (none, 0) ⟨⟨_, _, 1, rfl, rfl, ag57, sz57, rfl⟩, rfl, rfl, trivial⟩ rfl [7] ⟨rfl, trivial⟩ rfl

/-! spec.DrawTxOk -/
theorem spec_DrawTxOk_c {w : World} {k : Nat} {p0 : (List Int)} {a_0 : Option Addr} {c_0 : Nat} (hb_0 : BorS kU8 a_0 c_0 p0 w.heap (Lt w Nil)) {r : TTx} (H : spec_DrawTxOk k p0 = some r) :
    Calls Try.prog 32 #[.slice a_0 (List.length p0) c_0] w (Rt w Nil (fun g : Option Addr × Nat => .agg #[.int .i64 r.Seq, .int .i64 r.Root, .int .i64 r.Size, .slice g.1 (List.length r.Puts) g.2]) (fun g => [OwnS kTChange g.1 g.2 r.Puts])) := by
  rw [spec_DrawTxOk] at H
  refine Calls.enter0 (N := 8) (us := [_]) Try.func32 rfl rfl rfl ?_
  refine HQ.rseq ?_
  refine HQ.op [] [1] (OT.alloc zc57) trivial trivial rfl rfl rfl rfl (fun _ => rfl) fun b1 => ?_
  refine HQ.done ?_
  refine HQ.keep [(0, _), (2, _)] ⟨rfl, rfl, trivial⟩ ?_
  refine HQ.rseq ?_
  refine HQ.pu Pu.move ⟨rfl, trivial⟩ rfl rfl rfl ?_
  obtain ⟨t2, h3, H⟩ := bnd H
  refine HQ.op [] [2] (OT.call (us := [_]) (Pre := []) [.tmp 4] Try.call77 rfl rfl fun w F hs hF hp => spec_l1New_c (hb_0.pass hp) h3) ⟨rfl, rfl, trivial⟩ trivial rfl rfl rfl rfl (fun _ => rfl) fun b4 => ?_
  refine HQ.pu Pu.assign ⟨rfl, trivial⟩ rfl rfl rfl ?_
  refine HQ.done ?_
  refine HQ.keep [(2, _), (3, _)] ⟨rfl, rfl, trivial⟩ ?_
  refine HQ.rseq ?_
  refine HQ.pu Pu.move ⟨rfl, trivial⟩ rfl rfl rfl ?_
  obtain ⟨t5, h6, H⟩ := bnd H
  refine HQ.op [2] [3, 2] (OT.callM (us := [_]) (PreX := [Box b4 [.slice a_0 (List.length p0) c_0, .int .i64 t2.i, .int .i64 t2.h]]) (PreL := []) [.tmp 6] Try.call101 rfl rfl fun w FX FL hs1 hF1 hs2 hF2 hp => spec_l19Any_c (p0 := (⟨p0, t2.i, t2.h⟩ : TCur)) hs1 hF1 (hb_0.passY hp) h6) ⟨rfl, rfl, trivial⟩ ⟨rfl, trivial⟩ rfl rfl rfl rfl (fun _ => rfl) fun ⟨a7, c8⟩ => ?_
  refine HQ.opN [1] [1] [] (OT.storeC (cs' := [.int .i64 t5.1.Seq, .int .i64 t5.1.Root, .int .i64 t5.1.Size, .slice a7 (List.length t5.1.Puts) c8]) sz57 rfl rfl rfl rfl rfl) ⟨rfl, rfl, trivial⟩ ⟨rfl, trivial⟩ rfl rfl rfl (fun _ => rfl) fun _ => ?_
  refine HQ.done ?_
  refine HQ.keep [(2, _)] ⟨rfl, trivial⟩ ?_
  refine HQ.ret ?_
  obtain rfl := Option.some.inj H
  exact HQ.fin (vs := [_]) Try.results32 (a7, c8) ⟨⟨_, _, 1, rfl, rfl, ag57, sz57, rfl⟩, trivial⟩ rfl [3] ⟨rfl, trivial⟩ rfl

/-! spec.l1In -/
theorem spec_l1In_c {w : World} {p0 : Int} {p1 : Int} {p2 : Int}   {r : Bool} (H : spec_l1In p0 p1 p2 = some r) :
    Calls Try.prog 89 #[.int .i64 p0, .int .i64 p1, .int .i64 p2] w (Rt w Nil (fun _ : Unit => .bool r) (fun _ => [])) := by
  rw [spec_l1In] at H
  refine Calls.enter0 (N := 15) (us := [_, _, _]) Try.func89 rfl rfl rfl ?_
  refine HQ.rseq ?_
  refine HQ.pu Pu.assign ⟨rfl, trivial⟩ rfl rfl rfl ?_
  refine HQ.done ?_
  refine HQ.keep [(0, _), (1, _), (2, _), (6, _)] ⟨rfl, rfl, rfl, rfl, trivial⟩ ?_
  refine HQ.rseq ?_
  refine HQ.pu Pu.move ⟨rfl, trivial⟩ rfl rfl rfl ?_
  refine HQ.pu Pu.move ⟨rfl, trivial⟩ rfl rfl rfl ?_
  refine HQ.pu Pu.geq ⟨rfl, rfl, trivial⟩ rfl rfl rfl ?_
  refine HQ.pu Pu.move ⟨rfl, trivial⟩ rfl rfl rfl ?_
  refine HQ.cutAt 4 [(14, .bool ((decide (p0 ≥ p1)) && (decide (p0 ≤ p2)))), (6, .bool false)] [] ?_ ?_
  · rcases Bool.eq_false_or_eq_true (decide (p0 ≥ p1)) with hg1 | hg1
    · refine HQ.on rfl rfl hg1 ?_
      refine HQ.pu Pu.move ⟨rfl, trivial⟩ rfl rfl rfl ?_
      refine HQ.on rfl rfl hg1 ?_
      refine HQ.pu Pu.move ⟨rfl, trivial⟩ rfl rfl rfl ?_
      refine HQ.on rfl rfl hg1 ?_
      refine HQ.pu Pu.leq ⟨rfl, rfl, trivial⟩ rfl rfl rfl ?_
      refine HQ.pu (Pu.pickAT hg1) ⟨rfl, rfl, trivial⟩ rfl rfl rfl ?_
      exact HQ.mid ⟨rfl, rfl, trivial⟩ trivial rfl
    · refine HQ.off rfl rfl hg1 rfl ?_
      refine HQ.off rfl rfl hg1 rfl ?_
      refine HQ.off rfl rfl hg1 rfl ?_
      refine HQ.pu (Pu.pickAF (u := (decide (p0 ≤ p2))) hg1) ⟨rfl, rfl, trivial⟩ rfl rfl rfl ?_
      exact HQ.mid ⟨rfl, rfl, trivial⟩ trivial rfl
  refine HQ.pu Pu.assign ⟨rfl, trivial⟩ rfl rfl rfl ?_
  refine HQ.done ?_
  refine HQ.keep [(6, _)] ⟨rfl, trivial⟩ ?_
  refine HQ.ret ?_
  obtain rfl := Option.some.inj H
  exact HQ.fin (vs := [_]) Try.results89 () ⟨rfl, trivial⟩ rfl [] trivial rfl

/-! spec.BoxOk -/
theorem spec_BoxOk_c {w : World} {p0 : TBox}   {r : Bool} (H : spec_BoxOk p0 = some r) :
    Calls Try.prog 128 #[.agg #[.int .i64 p0.X0, .int .i64 p0.Y0, .int .i64 p0.X1, .int .i64 p0.Y1]] w (Rt w Nil (fun _ : Unit => .bool r) (fun _ => [])) := by
  rw [spec_BoxOk] at H
  refine Calls.enter0 (N := 25) (us := [_]) Try.func128 rfl rfl rfl ?_
  refine HQ.rseq ?_
  refine HQ.op [] [1] (OT.box (cs := [.int .i64 p0.X0, .int .i64 p0.Y0, .int .i64 p0.X1, .int .i64 p0.Y1]) rfl) ⟨rfl, trivial⟩ trivial rfl rfl rfl rfl (fun _ => rfl) fun b1 => ?_
  refine HQ.pu Pu.assign ⟨rfl, trivial⟩ rfl rfl rfl ?_
  refine HQ.done ?_
  refine HQ.keep [(1, _), (2, _)] ⟨rfl, rfl, trivial⟩ ?_
  refine HQ.rseq ?_
  refine HQ.pu (Pu.fieldB fo132_0 rfl) ⟨rfl, trivial⟩ rfl rfl rfl ?_
  refine HQ.op [1] [1] (OT.loadB sc3 rfl) ⟨rfl, trivial⟩ ⟨rfl, trivial⟩ rfl rfl rfl rfl (fun _ => rfl) fun _ => ?_
  obtain ⟨t2, h3, H⟩ := bnd H
  refine HQ.op [] [] (OT.call (us := [_, _, _]) (Pre := []) [.tmp 4, .const (.int .i64 0), .const (.int .i64 255)] Try.call89 rfl rfl fun w F hs hF hp => spec_l1In_c h3) ⟨rfl, rfl, rfl, rfl, trivial⟩ trivial rfl rfl rfl rfl (fun _ => rfl) fun _ => ?_
  refine HQ.pu Pu.move ⟨rfl, trivial⟩ rfl rfl rfl ?_
  obtain ⟨c7, h8, H⟩ := bnd H
  refine HQ.cutAt 4 [(10, .bool c7), (1, BP b1 0), (2, .bool false)] [(1, Box b1 [.int .i64 p0.X0, .int .i64 p0.Y0, .int .i64 p0.X1, .int .i64 p0.Y1])] ?_ ?_
  · clear H
    have H := h8
    rcases brk H with ⟨hg4, H⟩ | ⟨hg4, H⟩
    · refine HQ.on rfl rfl hg4 ?_
      refine HQ.pu (Pu.fieldB fo132_1 rfl) ⟨rfl, trivial⟩ rfl rfl rfl ?_
      refine HQ.on rfl rfl hg4 ?_
      refine HQ.op [1] [1] (OT.loadB sc3 rfl) ⟨rfl, trivial⟩ ⟨rfl, trivial⟩ rfl rfl rfl rfl (fun _ => rfl) fun _ => ?_
      refine HQ.on rfl rfl hg4 ?_
      obtain ⟨t5, h6, H⟩ := bnd H
      refine HQ.op [] [] (OT.call (us := [_, _, _]) (Pre := []) [.tmp 8, .const (.int .i64 0), .const (.int .i64 255)] Try.call89 rfl rfl fun w F hs hF hp => spec_l1In_c h6) ⟨rfl, rfl, rfl, rfl, trivial⟩ trivial rfl rfl rfl rfl (fun _ => rfl) fun _ => ?_
      obtain rfl := Option.some.inj H
      refine HQ.pu (Pu.pickC1 hg4) ⟨rfl, rfl, trivial⟩ rfl rfl rfl ?_
      exact HQ.mid ⟨rfl, rfl, rfl, trivial⟩ ⟨rfl, trivial⟩ rfl
    · obtain rfl := Option.some.inj H
      refine HQ.off rfl rfl hg4 rfl ?_
      refine HQ.off rfl rfl hg4 rfl ?_
      refine HQ.off rfl rfl hg4 rfl ?_
      refine HQ.pu (Pu.pickC0 hg4) ⟨rfl, rfl, trivial⟩ rfl rfl rfl ?_
      exact HQ.mid ⟨rfl, rfl, rfl, trivial⟩ ⟨rfl, trivial⟩ rfl
  refine HQ.pu Pu.move ⟨rfl, trivial⟩ rfl rfl rfl ?_
  obtain ⟨c12, h13, H⟩ := bnd H
  refine HQ.cutAt 6 [(17, .bool c12), (1, BP b1 0), (2, .bool false)] [(1, Box b1 [.int .i64 p0.X0, .int .i64 p0.Y0, .int .i64 p0.X1, .int .i64 p0.Y1])] ?_ ?_
  · clear H
    have H := h13
    rcases brk H with ⟨hg9, H⟩ | ⟨hg9, H⟩
    · refine HQ.on rfl rfl hg9 ?_
      refine HQ.pu (Pu.fieldB fo132_2 rfl) ⟨rfl, trivial⟩ rfl rfl rfl ?_
      refine HQ.on rfl rfl hg9 ?_
      refine HQ.op [1] [1] (OT.loadB sc3 rfl) ⟨rfl, trivial⟩ ⟨rfl, trivial⟩ rfl rfl rfl rfl (fun _ => rfl) fun _ => ?_
      refine HQ.on rfl rfl hg9 ?_
      refine HQ.pu (Pu.fieldB fo132_0 rfl) ⟨rfl, trivial⟩ rfl rfl rfl ?_
      refine HQ.on rfl rfl hg9 ?_
      refine HQ.op [1] [1] (OT.loadB sc3 rfl) ⟨rfl, trivial⟩ ⟨rfl, trivial⟩ rfl rfl rfl rfl (fun _ => rfl) fun _ => ?_
      refine HQ.on rfl rfl hg9 ?_
      obtain ⟨t10, h11, H⟩ := bnd H
      refine HQ.op [] [] (OT.call (us := [_, _, _]) (Pre := []) [.tmp 13, .tmp 15, .const (.int .i64 255)] Try.call89 rfl rfl fun w F hs hF hp => spec_l1In_c h11) ⟨rfl, rfl, rfl, rfl, trivial⟩ trivial rfl rfl rfl rfl (fun _ => rfl) fun _ => ?_
      obtain rfl := Option.some.inj H
      refine HQ.pu (Pu.pickC1 hg9) ⟨rfl, rfl, trivial⟩ rfl rfl rfl ?_
      exact HQ.mid ⟨rfl, rfl, rfl, trivial⟩ ⟨rfl, trivial⟩ rfl
    · obtain rfl := Option.some.inj H
      refine HQ.off rfl rfl hg9 rfl ?_
      refine HQ.off rfl rfl hg9 rfl ?_
      refine HQ.off rfl rfl hg9 rfl ?_
      refine HQ.off rfl rfl hg9 rfl ?_
      refine HQ.off rfl rfl hg9 rfl ?_
      refine HQ.pu (Pu.pickC0 hg9) ⟨rfl, rfl, trivial⟩ rfl rfl rfl ?_
      exact HQ.mid ⟨rfl, rfl, rfl, trivial⟩ ⟨rfl, trivial⟩ rfl
  refine HQ.pu Pu.move ⟨rfl, trivial⟩ rfl rfl rfl ?_
  obtain ⟨c17, h18, H⟩ := bnd H
  refine HQ.cutAt 6 [(24, .bool c17), (2, .bool false)] [(1, Box b1 [.int .i64 p0.X0, .int .i64 p0.Y0, .int .i64 p0.X1, .int .i64 p0.Y1])] ?_ ?_
  · clear H
    have H := h18
    rcases brk H with ⟨hg14, H⟩ | ⟨hg14, H⟩
    · refine HQ.on rfl rfl hg14 ?_
      refine HQ.pu (Pu.fieldB fo132_3 rfl) ⟨rfl, trivial⟩ rfl rfl rfl ?_
      refine HQ.on rfl rfl hg14 ?_
      refine HQ.op [1] [1] (OT.loadB sc3 rfl) ⟨rfl, trivial⟩ ⟨rfl, trivial⟩ rfl rfl rfl rfl (fun _ => rfl) fun _ => ?_
      refine HQ.on rfl rfl hg14 ?_
      refine HQ.pu (Pu.fieldB fo132_1 rfl) ⟨rfl, trivial⟩ rfl rfl rfl ?_
      refine HQ.on rfl rfl hg14 ?_
      refine HQ.op [1] [1] (OT.loadB sc3 rfl) ⟨rfl, trivial⟩ ⟨rfl, trivial⟩ rfl rfl rfl rfl (fun _ => rfl) fun _ => ?_
      refine HQ.on rfl rfl hg14 ?_
      obtain ⟨t15, h16, H⟩ := bnd H
      refine HQ.op [] [] (OT.call (us := [_, _, _]) (Pre := []) [.tmp 20, .tmp 22, .const (.int .i64 255)] Try.call89 rfl rfl fun w F hs hF hp => spec_l1In_c h16) ⟨rfl, rfl, rfl, rfl, trivial⟩ trivial rfl rfl rfl rfl (fun _ => rfl) fun _ => ?_
      obtain rfl := Option.some.inj H
      refine HQ.pu (Pu.pickC1 hg14) ⟨rfl, rfl, trivial⟩ rfl rfl rfl ?_
      exact HQ.mid ⟨rfl, rfl, trivial⟩ ⟨rfl, trivial⟩ rfl
    · obtain rfl := Option.some.inj H
      refine HQ.off rfl rfl hg14 rfl ?_
      refine HQ.off rfl rfl hg14 rfl ?_
      refine HQ.off rfl rfl hg14 rfl ?_
      refine HQ.off rfl rfl hg14 rfl ?_
      refine HQ.off rfl rfl hg14 rfl ?_
      refine HQ.pu (Pu.pickC0 hg14) ⟨rfl, rfl, trivial⟩ rfl rfl rfl ?_
      exact HQ.mid ⟨rfl, rfl, trivial⟩ ⟨rfl, trivial⟩ rfl
  refine HQ.pu Pu.assign ⟨rfl, trivial⟩ rfl rfl rfl ?_
  refine HQ.done ?_
  refine HQ.keep [(2, _)] ⟨rfl, trivial⟩ ?_
  refine HQ.ret ?_
  obtain rfl := Option.some.inj H
  exact HQ.fin (vs := [_]) Try.results128 () ⟨rfl, trivial⟩ rfl [] trivial rfl

/-! spec.EntryAt -/
theorem spec_EntryAt_c {w : World} {k : Nat} {p0 : (List TEntry)} {p1 : Int} {a_0 : Option Addr} {c_0 : Nat} (hb_0 : BorS kTEntry a_0 c_0 p0 w.heap (Lt w Nil)) {r : Int} (H : spec_EntryAt k p0 p1 = some r) :
    Calls Try.prog 129 #[.slice a_0 (List.length p0) c_0, .int .i64 p1] w (Rt w Nil (fun _ : Unit => .int .i64 r) (fun _ => [])) := by
  rw [spec_EntryAt] at H
  refine Calls.enter0 (N := 20) (us := [_, _]) Try.func129 rfl rfl rfl ?_
  refine HQ.rseq ?_
  refine HQ.pu Pu.assign ⟨rfl, trivial⟩ rfl rfl rfl ?_
  refine HQ.done ?_
  refine HQ.keep [(0, _), (1, _), (4, _)] ⟨rfl, rfl, rfl, trivial⟩ ?_
  refine HQ.seq ?_
  refine HQ.rseq ?_
  refine HQ.pu Pu.assign ⟨rfl, trivial⟩ rfl rfl rfl ?_
  refine HQ.done ?_
  refine HQ.keep [(0, _), (1, _), (4, _), (5, _)] ⟨rfl, rfl, rfl, rfl, trivial⟩ ?_
  refine HQ.block ?_
  obtain ⟨o5, h7, H⟩ := bnd H
  refine HQ.loop h7 0 (fun (s : Int) (g : Unit) => match s, g with | i2, () => [(0, .slice a_0 (List.length p0) c_0), (1, .int .i64 p1), (4, .int .i64 0), (5, .int .i64 i2)]) (fun (s : Int) (g : Unit) => match s, g with | i2, () => []) (fun r => bodyPost Try.prog Try.f129 (Rt w Nil (fun _ : Unit => .int .i64 r) (fun _ => [])) .ret) () ⟨rfl, rfl, rfl, rfl, trivial⟩ trivial rfl ?_ ?_ ?_
  · clear H h7
    rintro i2 _ o H
    rw [spec_EntryAt_b0] at H
    refine HQ.keep [(0, _), (1, _), (4, _), (5, _)] ⟨rfl, rfl, rfl, rfl, trivial⟩ ?_
    refine HQ.keepR [] trivial rfl ?_
    refine HQ.seq ?_
    refine HQ.rseq ?_
    refine HQ.pu Pu.move ⟨rfl, trivial⟩ rfl rfl rfl ?_
    refine HQ.pu Pu.move ⟨rfl, trivial⟩ rfl rfl rfl ?_
    refine HQ.pu (Pu.len ul45) ⟨rfl, trivial⟩ rfl rfl rfl ?_
    refine HQ.pu Pu.lss ⟨rfl, rfl, trivial⟩ rfl rfl rfl ?_
    refine HQ.done ?_
    refine HQ.keep [(0, _), (1, _), (4, _), (5, _), (9, _)] ⟨rfl, rfl, rfl, rfl, rfl, trivial⟩ ?_
    rcases brk H with ⟨hc, H⟩ | ⟨hc, H⟩
    · refine HQ.condT rfl hc ?_
      clear hc
      refine HQ.skipThen ?_
      refine HQ.seq ?_
      refine HQ.block ?_
      refine HQ.rseq ?_
      refine HQ.pu Pu.move ⟨rfl, trivial⟩ rfl rfl rfl ?_
      refine HQ.pu Pu.move ⟨rfl, trivial⟩ rfl rfl rfl ?_
      obtain ⟨h4, H⟩ := asr H
      refine HQ.op [] [] (OT.indexB ul45 sz134 hb_0 h4) ⟨rfl, rfl, trivial⟩ trivial rfl rfl rfl rfl (fun _ => rfl) fun _ => ?_
      refine HQ.pu (Pu.fieldE fo134_0 rfl) ⟨rfl, trivial⟩ rfl rfl rfl ?_
      refine HQ.op [] [] (OT.loadF sc3 hb_0 h4 rfl) ⟨rfl, trivial⟩ trivial rfl rfl rfl rfl (fun _ => rfl) fun _ => ?_
      refine HQ.pu Pu.move ⟨rfl, trivial⟩ rfl rfl rfl ?_
      refine HQ.pu Pu.eql ⟨rfl, rfl, trivial⟩ rfl rfl rfl ?_
      refine HQ.done ?_
      refine HQ.keep [(0, _), (1, _), (4, _), (5, _), (18, _)] ⟨rfl, rfl, rfl, rfl, rfl, trivial⟩ ?_
      rcases brk H with ⟨hc, H⟩ | ⟨hc, H⟩
      · refine HQ.condT rfl hc ?_
        clear hc
        refine HQ.rseq ?_
        refine HQ.pu Pu.move ⟨rfl, trivial⟩ rfl rfl rfl ?_
        refine HQ.pu Pu.assign ⟨rfl, trivial⟩ rfl rfl rfl ?_
        refine HQ.done ?_
        refine HQ.keep [(0, _), (1, _), (4, _), (5, _)] ⟨rfl, rfl, rfl, rfl, trivial⟩ ?_
        refine HQ.ret ?_
        refine HQ.blkR ?_
        refine HQ.thenR ?_
        obtain rfl := Option.some.inj H
        refine HQ.retL ?_
        exact HQ.fin (vs := [_]) Try.results129 () ⟨rfl, trivial⟩ rfl [] trivial rfl
      · refine HQ.condF rfl hc ?_
        clear hc
        refine HQ.skip ?_
        refine HQ.blkN ?_
        refine HQ.thenN ?_
        refine HQ.regionQ ?_
        refine HQ.pu Pu.move ⟨rfl, trivial⟩ rfl rfl rfl ?_
        refine HQ.pu Pu.add ⟨rfl, rfl, trivial⟩ rfl rfl rfl ?_
        refine HQ.pu Pu.assign ⟨rfl, trivial⟩ rfl rfl rfl ?_
        refine HQ.done ?_
        refine HQ.keep [(0, _), (1, _), (4, _), (5, _)] ⟨rfl, rfl, rfl, rfl, trivial⟩ ?_
        obtain rfl := Option.some.inj H
        exact HQ.next () ⟨rfl, rfl, rfl, rfl, trivial⟩ trivial rfl
    · refine HQ.condF rfl hc ?_
      clear hc
      refine HQ.exit ?_
      refine HQ.thenE ?_
      obtain rfl := Option.some.inj H
      exact HQ.out () ⟨rfl, rfl, rfl, rfl, trivial⟩ trivial rfl
  · rintro i6 rfl _
    clear h7
    replace H := H
    refine HQ.keep [(0, _), (1, _), (4, _), (5, _)] ⟨rfl, rfl, rfl, rfl, trivial⟩ ?_
    refine HQ.keepR [] trivial rfl ?_
    refine HQ.blkE ?_
    refine HQ.thenN ?_
    refine HQ.rseq ?_
    refine HQ.pu Pu.assign ⟨rfl, trivial⟩ rfl rfl rfl ?_
    refine HQ.done ?_
    refine HQ.keep [(4, _)] ⟨rfl, trivial⟩ ?_
    refine HQ.ret ?_
    obtain rfl := Option.some.inj H
    exact HQ.fin (vs := [_]) Try.results129 () ⟨rfl, trivial⟩ rfl [] trivial rfl
  · rintro r rfl a w hr
    obtain rfl := Option.some.inj H
    exact hr

end Go.Proofs.Sx
