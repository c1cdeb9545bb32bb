import Derived.Test.YtkhommmhkeohbaaQdF11
import Derived.KernelRfl
namespace Go.Proofs.Sx
open Go.RowKit
set_option linter.unusedVariables false
set_option linter.unusedSimpArgs false
set_option maxRecDepth 20000
set_option maxHeartbeats 1000000
/-! impl.TxOk -/
theorem impl_TxOk_c {w : World} {k : Nat} {p0 : TTx} {a_0 : Option Addr} {c_0 : Nat} (hb_0 : BorS kTChange a_0 c_0 p0.Puts w.heap (Lt w Nil)) {r : Bool} (H : impl_TxOk k p0 = some r) :
    Calls Try.prog 35 #[.agg #[.int .i64 p0.Seq, .int .i64 p0.Root, .int .i64 p0.Size, .slice a_0 (List.length p0.Puts) c_0]] w (Rt w Nil (fun _ : Unit => .bool r) (fun _ => [])) := by
  rw [impl_TxOk] at H
  refine Calls.enter0 (N := 40) (us := [_]) Try.func35 rfl rfl rfl ?_
  refine HQ.rseq ?_
  refine HQ.op [] [1] (OT.box (cs := [.int .i64 p0.Seq, .int .i64 p0.Root, .int .i64 p0.Size, .slice a_0 (List.length p0.Puts) c_0]) rfl) ⟨rfl, trivial⟩ trivial rfl rfl rfl rfl (fun _ => rfl) fun b1 => ?_
  refine HQ.pu Pu.assign ⟨rfl, trivial⟩ rfl rfl rfl ?_
  refine HQ.done ?_
  refine HQ.keep [(1, _), (2, _)] ⟨rfl, rfl, trivial⟩ ?_
  refine HQ.rseq ?_
  refine HQ.op [] [2] (OT.makeMap) trivial trivial rfl rfl rfl rfl (fun _ => rfl) fun b2 => ?_
  refine HQ.pu Pu.assign ⟨rfl, trivial⟩ rfl rfl rfl ?_
  refine HQ.done ?_
  refine HQ.keep [(1, _), (2, _), (3, _)] ⟨rfl, rfl, rfl, trivial⟩ ?_
  refine HQ.seq ?_
  refine HQ.rseq ?_
  refine HQ.pu (Pu.fieldB fo57_3 rfl) ⟨rfl, trivial⟩ rfl rfl rfl ?_
  refine HQ.op [1] [1] (OT.loadB sc55 rfl) ⟨rfl, trivial⟩ ⟨rfl, trivial⟩ rfl rfl rfl rfl (fun _ => rfl) fun _ => ?_
  refine HQ.pu (Pu.len ul55) ⟨rfl, trivial⟩ rfl rfl rfl ?_
  refine HQ.pu Pu.move ⟨rfl, trivial⟩ rfl rfl rfl ?_
  refine HQ.done ?_
  refine HQ.keep [(1, _), (2, _), (3, _), (8, _), (9, _), (10, _)] ⟨rfl, rfl, rfl, rfl, rfl, rfl, trivial⟩ ?_
  refine HQ.block ?_
  obtain ⟨o47, h52, H⟩ := bnd H
  refine HQ.loop h52 0 (fun (s : (List (Int × Int)) × Int) (g : Unit) => match s, g with | (l17, i18), () => [(1, BP b1 0), (2, .bool false), (3, .map (some b2)), (8, .slice a_0 (List.length p0.Puts) c_0), (9, .int .i64 ((List.length p0.Puts : Nat) : Int)), (10, .int .i64 i18)]) (fun (s : (List (Int × Int)) × Int) (g : Unit) => match s, g with | (l17, i18), () => [(1, Box b1 [.int .i64 p0.Seq, .int .i64 p0.Root, .int .i64 p0.Size, .slice a_0 (List.length p0.Puts) c_0]), (2, MapS b2 l17)]) (fun r => bodyPost Try.prog Try.f35 (Rt w Nil (fun _ : Unit => .bool r) (fun _ => [])) .ret) () ⟨rfl, rfl, rfl, rfl, rfl, rfl, trivial⟩ ⟨rfl, rfl, trivial⟩ rfl ?_ ?_ ?_
  · clear H h52
    rintro ⟨l17, i18⟩ _ o H
    rw [impl_TxOk_b0] at H
    refine HQ.keep [(1, _), (2, _), (3, _), (8, _), (9, _), (10, _)] ⟨rfl, rfl, rfl, rfl, rfl, rfl, trivial⟩ ?_
    refine HQ.keepR [(1, _), (2, _)] ⟨rfl, rfl, trivial⟩ rfl ?_
    refine HQ.rseq ?_
    refine HQ.pu Pu.lss ⟨rfl, rfl, trivial⟩ rfl rfl rfl ?_
    refine HQ.done ?_
    refine HQ.keep [(1, _), (2, _), (3, _), (8, _), (9, _), (10, _), (11, _)] ⟨rfl, rfl, rfl, rfl, rfl, rfl, rfl, trivial⟩ ?_
    refine HQ.seq ?_
    rcases brk H with ⟨hc, H⟩ | ⟨hc, H⟩
    · refine HQ.condT rfl hc ?_
      clear hc
      refine HQ.skipThen ?_
      refine HQ.seq ?_
      refine HQ.block ?_
      refine HQ.rseq ?_
      obtain ⟨h33, H⟩ := asr H
      refine HQ.op [] [] (OT.indexB ul55 sz49 hb_0 h33) ⟨rfl, rfl, trivial⟩ trivial rfl rfl rfl rfl (fun _ => rfl) fun _ => ?_
      obtain ⟨⟨a34, c35⟩, hb36, hn37⟩ := BorS.nest hb_0 h33
      refine HQ.op [] [] (OT.loadNA (vs := [.int .i64 ((gt p0.Puts i18).Page), .bool ((gt p0.Puts i18).N.Leaf), .slice a34 (List.length ((gt p0.Puts i18).N.L)) c35]) ag49 sz49 hn37 hlTChange rfl rfl) ⟨rfl, trivial⟩ trivial rfl rfl rfl rfl (fun _ => rfl) fun _ => ?_
      refine HQ.op [] [5] (OT.alloc zc49) trivial trivial rfl rfl rfl rfl (fun _ => rfl) fun b38 => ?_
      refine HQ.opN [5] [5] [] (OT.storeC (cs' := [.int .i64 ((gt p0.Puts i18).Page), .bool ((gt p0.Puts i18).N.Leaf), .slice a34 (List.length ((gt p0.Puts i18).N.L)) c35]) sz49 rfl rfl rfl rfl rfl) ⟨rfl, rfl, trivial⟩ ⟨rfl, trivial⟩ rfl rfl rfl (fun _ => rfl) fun _ => ?_
      refine HQ.done ?_
      refine HQ.keep [(1, _), (2, _), (3, _), (8, _), (9, _), (10, _), (5, _)] ⟨rfl, rfl, rfl, rfl, rfl, rfl, rfl, trivial⟩ ?_
      refine HQ.seq ?_
      refine HQ.rseq ?_
      refine HQ.pu (Pu.fieldB fo49_0 rfl) ⟨rfl, trivial⟩ rfl rfl rfl ?_
      refine HQ.op [5] [5] (OT.loadB sc3 rfl) ⟨rfl, trivial⟩ ⟨rfl, trivial⟩ rfl rfl rfl rfl (fun _ => rfl) fun _ => ?_
      refine HQ.pu (Pu.fieldB fo57_2 rfl) ⟨rfl, trivial⟩ rfl rfl rfl ?_
      refine HQ.op [1] [1] (OT.loadB sc3 rfl) ⟨rfl, trivial⟩ ⟨rfl, trivial⟩ rfl rfl rfl rfl (fun _ => rfl) fun _ => ?_
      refine HQ.pu Pu.sub ⟨rfl, rfl, trivial⟩ rfl rfl rfl ?_
      obtain ⟨t39, h40, H⟩ := bnd H
      refine HQ.op [] [] (OT.call (us := [_, _, _]) (Pre := []) [.tmp 15, .const (.int .i64 0), .tmp 18] Try.call83 rfl rfl fun w F hs hF hp => impl_in_c h40) ⟨rfl, rfl, rfl, rfl, trivial⟩ trivial rfl rfl rfl rfl (fun _ => rfl) fun _ => ?_
      refine HQ.pu Pu.not ⟨rfl, trivial⟩ rfl rfl rfl ?_
      refine HQ.pu Pu.move ⟨rfl, trivial⟩ rfl rfl rfl ?_
      refine HQ.cutAt 6 [(27, .bool ((!t39) || (decide ((mget l17 ((gt p0.Puts i18).Page)) = 1)))), (1, BP b1 0), (2, .bool false), (3, .map (some b2)), (8, .slice a_0 (List.length p0.Puts) c_0), (9, .int .i64 ((List.length p0.Puts : Nat) : Int)), (10, .int .i64 i18), (5, BP b38 0)] [(1, Box b1 [.int .i64 p0.Seq, .int .i64 p0.Root, .int .i64 p0.Size, .slice a_0 (List.length p0.Puts) c_0]), (2, MapS b2 l17), (5, Box b38 [.int .i64 ((gt p0.Puts i18).Page), .bool ((gt p0.Puts i18).N.Leaf), .slice a34 (List.length ((gt p0.Puts i18).N.L)) c35])] ?_ ?_
      · rcases Bool.eq_false_or_eq_true (!t39) with hg41 | hg41
        · refine HQ.off rfl rfl hg41 rfl ?_
          refine HQ.off rfl rfl hg41 rfl ?_
          refine HQ.off rfl rfl hg41 rfl ?_
          refine HQ.off rfl rfl hg41 rfl ?_
          refine HQ.off rfl rfl hg41 rfl ?_
          refine HQ.pu (Pu.pickOT (u := (decide ((mget l17 ((gt p0.Puts i18).Page)) = 1))) hg41) ⟨rfl, rfl, trivial⟩ rfl rfl rfl ?_
          exact HQ.mid ⟨rfl, rfl, rfl, rfl, rfl, rfl, rfl, rfl, trivial⟩ ⟨rfl, rfl, rfl, trivial⟩ rfl
        · refine HQ.on rfl rfl hg41 ?_
          refine HQ.pu Pu.move ⟨rfl, trivial⟩ rfl rfl rfl ?_
          refine HQ.on rfl rfl hg41 ?_
          refine HQ.pu (Pu.fieldB fo49_0 rfl) ⟨rfl, trivial⟩ rfl rfl rfl ?_
          refine HQ.on rfl rfl hg41 ?_
          refine HQ.op [5] [5] (OT.loadB sc3 rfl) ⟨rfl, trivial⟩ ⟨rfl, trivial⟩ rfl rfl rfl rfl (fun _ => rfl) fun _ => ?_
          refine HQ.on rfl rfl hg41 ?_
          refine HQ.op [2] [2] (OT.lookup ul129 ul3 tz3) ⟨rfl, rfl, trivial⟩ ⟨rfl, trivial⟩ rfl rfl rfl rfl (fun _ => rfl) fun _ => ?_
          refine HQ.on rfl rfl hg41 ?_
          refine HQ.pu Pu.eql ⟨rfl, rfl, trivial⟩ rfl rfl rfl ?_
          refine HQ.pu (Pu.pickOF hg41) ⟨rfl, rfl, trivial⟩ rfl rfl rfl ?_
          exact HQ.mid ⟨rfl, rfl, rfl, rfl, rfl, rfl, rfl, rfl, trivial⟩ ⟨rfl, rfl, rfl, trivial⟩ rfl
      refine HQ.pu Pu.move ⟨rfl, trivial⟩ rfl rfl rfl ?_
      obtain ⟨c45, h46, H⟩ := bnd H
      refine HQ.cutAt 5 [(33, .bool c45), (1, BP b1 0), (2, .bool false), (3, .map (some b2)), (8, .slice a_0 (List.length p0.Puts) c_0), (9, .int .i64 ((List.length p0.Puts : Nat) : Int)), (10, .int .i64 i18), (5, BP b38 0)] [(1, Box b1 [.int .i64 p0.Seq, .int .i64 p0.Root, .int .i64 p0.Size, .slice a_0 (List.length p0.Puts) c_0]), (2, MapS b2 l17), (5, Box b38 [.int .i64 ((gt p0.Puts i18).Page), .bool ((gt p0.Puts i18).N.Leaf), .slice a34 (List.length ((gt p0.Puts i18).N.L)) c35])] ?_ ?_
      · clear H
        have H := h46
        rcases brk H with ⟨hg42, H⟩ | ⟨hg42, H⟩
        · obtain rfl := Option.some.inj H
          refine HQ.off rfl rfl hg42 rfl ?_
          refine HQ.off rfl rfl hg42 rfl ?_
          refine HQ.off rfl rfl hg42 rfl ?_
          refine HQ.off rfl rfl hg42 rfl ?_
          refine HQ.pu (Pu.pickC1 hg42) ⟨rfl, rfl, trivial⟩ rfl rfl rfl ?_
          exact HQ.mid ⟨rfl, rfl, rfl, rfl, rfl, rfl, rfl, rfl, trivial⟩ ⟨rfl, rfl, rfl, trivial⟩ rfl
        · refine HQ.on rfl rfl hg42 ?_
          refine HQ.pu (Pu.fieldB fo49_1 rfl) ⟨rfl, trivial⟩ rfl rfl rfl ?_
          refine HQ.on rfl rfl hg42 ?_
          refine HQ.op [5] [5] (OT.loadBA (vs := [.bool ((gt p0.Puts i18).N.Leaf), .slice a34 (List.length ((gt p0.Puts i18).N.L)) c35]) ag47 sz47 rfl rfl) ⟨rfl, trivial⟩ ⟨rfl, trivial⟩ rfl rfl rfl rfl (fun _ => rfl) fun _ => ?_
          refine HQ.on rfl rfl hg42 ?_
          obtain ⟨t43, h44, H⟩ := bnd H
          refine HQ.op [] [] (OT.call (us := [_]) (Pre := []) [.tmp 30] Try.call38 rfl rfl fun w F hs hF hp => impl_NodeOk_c (hb36.pass hp) h44) ⟨rfl, rfl, trivial⟩ trivial rfl rfl rfl rfl (fun _ => rfl) fun _ => ?_
          refine HQ.on rfl rfl hg42 ?_
          refine HQ.pu Pu.not ⟨rfl, trivial⟩ rfl rfl rfl ?_
          obtain rfl := Option.some.inj H
          refine HQ.pu (Pu.pickC0 hg42) ⟨rfl, rfl, trivial⟩ rfl rfl rfl ?_
          exact HQ.mid ⟨rfl, rfl, rfl, rfl, rfl, rfl, rfl, rfl, trivial⟩ ⟨rfl, rfl, rfl, trivial⟩ rfl
      refine HQ.done ?_
      refine HQ.keep [(33, _), (1, _), (2, _), (3, _), (8, _), (9, _), (10, _), (5, _)] ⟨rfl, rfl, rfl, rfl, rfl, rfl, rfl, rfl, trivial⟩ ?_
      rcases brk H with ⟨hc, H⟩ | ⟨hc, H⟩
      · refine HQ.condT rfl hc ?_
        clear hc
        refine HQ.rseq ?_
        refine HQ.pu Pu.assign ⟨rfl, trivial⟩ rfl rfl rfl ?_
        refine HQ.done ?_
        refine HQ.keep [(1, _), (2, _), (3, _), (8, _), (9, _), (10, _), (5, _)] ⟨rfl, rfl, rfl, rfl, rfl, rfl, rfl, trivial⟩ ?_
        refine HQ.ret ?_
        refine HQ.thenR ?_
        refine HQ.blkR ?_
        refine HQ.thenR ?_
        obtain rfl := Option.some.inj H
        refine HQ.retL ?_
        exact HQ.fin (vs := [_]) Try.results35 () ⟨rfl, trivial⟩ rfl [] trivial rfl
      · refine HQ.condF rfl hc ?_
        clear hc
        refine HQ.skipThen ?_
        refine HQ.regionQ ?_
        refine HQ.pu Pu.move ⟨rfl, trivial⟩ rfl rfl rfl ?_
        refine HQ.pu (Pu.fieldB fo49_0 rfl) ⟨rfl, trivial⟩ rfl rfl rfl ?_
        refine HQ.op [5] [5] (OT.loadB sc3 rfl) ⟨rfl, trivial⟩ ⟨rfl, trivial⟩ rfl rfl rfl rfl (fun _ => rfl) fun _ => ?_
        refine HQ.opN [2] [2] [] (OT.mapUpdate ul129 ul3) ⟨rfl, rfl, rfl, trivial⟩ ⟨rfl, trivial⟩ rfl rfl rfl (fun _ => rfl) fun _ => ?_
        refine HQ.done ?_
        refine HQ.keep [(1, _), (2, _), (3, _), (8, _), (9, _), (10, _)] ⟨rfl, rfl, rfl, rfl, rfl, rfl, trivial⟩ ?_
        refine HQ.blkN ?_
        refine HQ.thenN ?_
        refine HQ.regionQ ?_
        refine HQ.pu Pu.add ⟨rfl, rfl, trivial⟩ rfl rfl rfl ?_
        refine HQ.pu Pu.move ⟨rfl, trivial⟩ rfl rfl rfl ?_
        refine HQ.done ?_
        refine HQ.keep [(1, _), (2, _), (3, _), (8, _), (9, _), (10, _)] ⟨rfl, rfl, rfl, rfl, rfl, rfl, trivial⟩ ?_
        obtain rfl := Option.some.inj H
        exact HQ.next () ⟨rfl, rfl, rfl, rfl, rfl, rfl, trivial⟩ ⟨rfl, rfl, trivial⟩ rfl
    · refine HQ.condF rfl hc ?_
      clear hc
      refine HQ.exit ?_
      refine HQ.thenE ?_
      obtain rfl := Option.some.inj H
      exact HQ.out () ⟨rfl, rfl, rfl, rfl, rfl, rfl, trivial⟩ ⟨rfl, rfl, trivial⟩ rfl
  · rintro ⟨l48, i49⟩ rfl _
    clear h52
    replace H := H
    refine HQ.keep [(1, _), (2, _), (3, _), (8, _), (9, _), (10, _)] ⟨rfl, rfl, rfl, rfl, rfl, rfl, trivial⟩ ?_
    refine HQ.keepR [(1, _), (2, _)] ⟨rfl, rfl, trivial⟩ rfl ?_
    refine HQ.blkE ?_
    refine HQ.thenN ?_
    refine HQ.rseq ?_
    refine HQ.op [1] [1] (OT.loadBA (vs := [.int .i64 p0.Seq, .int .i64 p0.Root, .int .i64 p0.Size, .slice a_0 (List.length p0.Puts) c_0]) ag57 sz57 rfl rfl) ⟨rfl, trivial⟩ ⟨rfl, trivial⟩ rfl rfl rfl rfl (fun _ => rfl) fun _ => ?_
    obtain ⟨t50, h51, H⟩ := bnd H
    refine HQ.op [] [] (OT.call (us := [_]) (Pre := []) [.tmp 38] Try.call104 rfl rfl fun w F hs hF hp => impl_Tx_numbersOk_c h51) ⟨rfl, rfl, trivial⟩ trivial rfl rfl rfl rfl (fun _ => rfl) fun _ => ?_
    refine HQ.pu Pu.assign ⟨rfl, trivial⟩ rfl rfl rfl ?_
    refine HQ.done ?_
    refine HQ.keep [(2, _)] ⟨rfl, trivial⟩ ?_
    refine HQ.ret ?_
    obtain rfl := Option.some.inj H
    exact HQ.fin (vs := [_]) Try.results35 () ⟨rfl, trivial⟩ rfl [] trivial rfl
  · rintro r rfl a w hr
    obtain rfl := Option.some.inj H
    exact hr

/-! impl.EndCell -/
theorem impl_EndCell_c {w : World} {k : Nat} {p0 : Int} {p1 : TTx} {a_0 : Option Addr} {c_0 : Nat} (hb_0 : BorS kTChange a_0 c_0 p1.Puts w.heap (Lt w Nil)) {r : (List Int)} (H : impl_EndCell k p0 p1 = some r) :
    Calls Try.prog 30 #[.int .i64 p0, .agg #[.int .i64 p1.Seq, .int .i64 p1.Root, .int .i64 p1.Size, .slice a_0 (List.length p1.Puts) c_0]] w (Rt w Nil (fun g : Option Addr × Nat => .slice g.1 (List.length r) g.2) (fun g => [OwnS kU8 g.1 g.2 r])) := by
  rw [impl_EndCell] at H
  refine Calls.enter0 (N := 19) (us := [_, _]) Try.func30 rfl rfl rfl ?_
  refine HQ.rseq ?_
  refine HQ.op [] [1] (OT.box (cs := [.int .i64 p1.Seq, .int .i64 p1.Root, .int .i64 p1.Size, .slice a_0 (List.length p1.Puts) c_0]) rfl) ⟨rfl, trivial⟩ trivial rfl rfl rfl rfl (fun _ => rfl) fun b1 => ?_
  refine HQ.pu Pu.assign ⟨rfl, trivial⟩ rfl rfl rfl ?_
  refine HQ.done ?_
  refine HQ.keep [(0, _), (3, _), (4, _)] ⟨rfl, rfl, rfl, trivial⟩ ?_
  refine HQ.seq ?_
  refine HQ.rseq ?_
  refine HQ.pu Pu.move ⟨rfl, trivial⟩ rfl rfl rfl ?_
  obtain ⟨t2, h3, H⟩ := bnd H
  refine HQ.op [] [] (OT.call (us := [_, _, _]) (Pre := []) [.tmp 5, .const (.int .i64 0), .const (.int .i64 65535)] Try.call83 rfl rfl fun w F hs hF hp => impl_in_c h3) ⟨rfl, rfl, rfl, rfl, trivial⟩ trivial rfl rfl rfl rfl (fun _ => rfl) fun _ => ?_
  refine HQ.pu Pu.not ⟨rfl, trivial⟩ rfl rfl rfl ?_
  refine HQ.pu Pu.move ⟨rfl, trivial⟩ rfl rfl rfl ?_
  obtain ⟨c7, h8, H⟩ := bnd H
  refine HQ.cutAt 4 [(12, .bool c7), (0, .int .i64 p0), (3, BP b1 0), (4, .slice none 0 0)] [(1, Box b1 [.int .i64 p1.Seq, .int .i64 p1.Root, .int .i64 p1.Size, .slice a_0 (List.length p1.Puts) c_0])] ?_ ?_
  · clear H
    have H := h8
    rcases brk H with ⟨hg4, H⟩ | ⟨hg4, H⟩
    · obtain rfl := Option.some.inj H
      refine HQ.off rfl rfl hg4 rfl ?_
      refine HQ.off rfl rfl hg4 rfl ?_
      refine HQ.off rfl rfl hg4 rfl ?_
      refine HQ.pu (Pu.pickC1 hg4) ⟨rfl, rfl, trivial⟩ rfl rfl rfl ?_
      exact HQ.mid ⟨rfl, rfl, rfl, rfl, trivial⟩ ⟨rfl, trivial⟩ rfl
    · refine HQ.on rfl rfl hg4 ?_
      refine HQ.op [1] [1] (OT.loadBA (vs := [.int .i64 p1.Seq, .int .i64 p1.Root, .int .i64 p1.Size, .slice a_0 (List.length p1.Puts) c_0]) ag57 sz57 rfl rfl) ⟨rfl, trivial⟩ ⟨rfl, trivial⟩ rfl rfl rfl rfl (fun _ => rfl) fun _ => ?_
      refine HQ.on rfl rfl hg4 ?_
      obtain ⟨t5, h6, H⟩ := bnd H
      refine HQ.op [] [] (OT.call (us := [_]) (Pre := []) [.tmp 9] Try.call35 rfl rfl fun w F hs hF hp => impl_TxOk_c (hb_0.pass hp) h6) ⟨rfl, rfl, trivial⟩ trivial rfl rfl rfl rfl (fun _ => rfl) fun _ => ?_
      refine HQ.on rfl rfl hg4 ?_
      refine HQ.pu Pu.not ⟨rfl, trivial⟩ rfl rfl rfl ?_
      obtain rfl := Option.some.inj H
      refine HQ.pu (Pu.pickC0 hg4) ⟨rfl, rfl, trivial⟩ rfl rfl rfl ?_
      exact HQ.mid ⟨rfl, rfl, rfl, rfl, trivial⟩ ⟨rfl, trivial⟩ rfl
  refine HQ.done ?_
  refine HQ.keep [(12, _), (0, _), (3, _), (4, _)] ⟨rfl, rfl, rfl, rfl, trivial⟩ ?_
  rcases brk H with ⟨hc, H⟩ | ⟨hc, H⟩
  · refine HQ.condT rfl hc ?_
    clear hc
    refine HQ.rseq ?_
    refine HQ.pu Pu.assign ⟨rfl, trivial⟩ rfl rfl rfl ?_
    refine HQ.done ?_
    refine HQ.keep [(0, _), (3, _), (4, _)] ⟨rfl, rfl, rfl, trivial⟩ ?_
    refine HQ.ret ?_
    refine HQ.thenR ?_
    obtain rfl := Option.some.inj H
    refine HQ.nil kU8 2 rfl ?_
    exact HQ.fin (vs := [_]) Try.results30 (none, 0) ⟨rfl, trivial⟩ rfl [2] ⟨rfl, trivial⟩ rfl
  · refine HQ.condF rfl hc ?_
    clear hc
    refine HQ.skipThen ?_
    refine HQ.rseq ?_
    refine HQ.pu Pu.move ⟨rfl, trivial⟩ rfl rfl rfl ?_
    refine HQ.op [1] [1] (OT.loadBA (vs := [.int .i64 p1.Seq, .int .i64 p1.Root, .int .i64 p1.Size, .slice a_0 (List.length p1.Puts) c_0]) ag57 sz57 rfl rfl) ⟨rfl, trivial⟩ ⟨rfl, trivial⟩ rfl rfl rfl rfl (fun _ => rfl) fun _ => ?_
    refine HQ.pu (Pu.fieldB fo57_3 rfl) ⟨rfl, trivial⟩ rfl rfl rfl ?_
    refine HQ.op [1] [1] (OT.loadB sc55 rfl) ⟨rfl, trivial⟩ ⟨rfl, trivial⟩ rfl rfl rfl rfl (fun _ => rfl) fun _ => ?_
    refine HQ.pu (Pu.len ul55) ⟨rfl, trivial⟩ rfl rfl rfl ?_
    obtain ⟨t9, h10, H⟩ := bnd H
    refine HQ.op [] [3] (OT.call (us := [_, _, _]) (Pre := []) [.tmp 13, .tmp 14, .tmp 17] Try.call102 rfl rfl fun w F hs hF hp => impl_endCell_c h10) ⟨rfl, rfl, rfl, rfl, trivial⟩ trivial rfl rfl rfl rfl (fun _ => rfl) fun ⟨a11, c12⟩ => ?_
    refine HQ.pu Pu.assign ⟨rfl, trivial⟩ rfl rfl rfl ?_
    refine HQ.done ?_
    refine HQ.keep [(4, _)] ⟨rfl, trivial⟩ ?_
    refine HQ.ret ?_
    obtain rfl := Option.some.inj H
    exact HQ.fin (vs := [_]) Try.results30 (a11, c12) ⟨rfl, trivial⟩ rfl [3] ⟨rfl, trivial⟩ rfl

/-! impl.TxCells -/
theorem impl_TxCells_c {w : World} {k : Nat} {p0 : Int} {p1 : TTx} {a_0 : Option Addr} {c_0 : Nat} (hb_0 : BorS kTChange a_0 c_0 p1.Puts w.heap (Lt w Nil)) {r : (List (List Int))} (H : impl_TxCells k p0 p1 = some r) :
    Calls Try.prog 64 #[.int .i64 p0, .agg #[.int .i64 p1.Seq, .int .i64 p1.Root, .int .i64 p1.Size, .slice a_0 (List.length p1.Puts) c_0]] w (Rt w Nil (fun g : Option Addr × Nat => .slice g.1 (List.length r) g.2) (fun g => [OwnS (kS kU8) g.1 g.2 r])) := by
  rw [impl_TxCells] at H
  refine Calls.enter0 (N := 33) (us := [_, _]) Try.func64 rfl rfl rfl ?_
  refine HQ.rseq ?_
  refine HQ.op [] [1] (OT.box (cs := [.int .i64 p1.Seq, .int .i64 p1.Root, .int .i64 p1.Size, .slice a_0 (List.length p1.Puts) c_0]) rfl) ⟨rfl, trivial⟩ trivial rfl rfl rfl rfl (fun _ => rfl) fun b1 => ?_
  refine HQ.pu Pu.assign ⟨rfl, trivial⟩ rfl rfl rfl ?_
  refine HQ.done ?_
  refine HQ.keep [(0, _), (3, _), (4, _)] ⟨rfl, rfl, rfl, trivial⟩ ?_
  refine HQ.rseq ?_
  refine HQ.pu Pu.move ⟨rfl, trivial⟩ rfl rfl rfl ?_
  refine HQ.op [1] [1] (OT.loadBA (vs := [.int .i64 p1.Seq, .int .i64 p1.Root, .int .i64 p1.Size, .slice a_0 (List.length p1.Puts) c_0]) ag57 sz57 rfl rfl) ⟨rfl, trivial⟩ ⟨rfl, trivial⟩ rfl rfl rfl rfl (fun _ => rfl) fun _ => ?_
  obtain ⟨t2, h3, H⟩ := bnd H
  refine HQ.op [] [2] (OT.call (us := [_, _]) (Pre := []) [.tmp 9, .tmp 10] Try.call30 rfl rfl fun w F hs hF hp => impl_EndCell_c (hb_0.pass hp) h3) ⟨rfl, rfl, rfl, trivial⟩ trivial rfl rfl rfl rfl (fun _ => rfl) fun ⟨a4, c5⟩ => ?_
  refine HQ.pu Pu.assign ⟨rfl, trivial⟩ rfl rfl rfl ?_
  refine HQ.done ?_
  refine HQ.keep [(0, _), (3, _), (4, _), (5, _)] ⟨rfl, rfl, rfl, rfl, trivial⟩ ?_
  refine HQ.seq ?_
  refine HQ.rseq ?_
  refine HQ.pu Pu.move ⟨rfl, trivial⟩ rfl rfl rfl ?_
  refine HQ.pu (Pu.len ul22) ⟨rfl, trivial⟩ rfl rfl rfl ?_
  refine HQ.pu Pu.eql ⟨rfl, rfl, trivial⟩ rfl rfl rfl ?_
  refine HQ.done ?_
  refine HQ.keep [(0, _), (3, _), (4, _), (5, _), (14, _)] ⟨rfl, rfl, rfl, rfl, rfl, trivial⟩ ?_
  rcases brk H with ⟨hc, H⟩ | ⟨hc, H⟩
  · refine HQ.condT rfl hc ?_
    clear hc
    refine HQ.rseq ?_
    refine HQ.pu Pu.assign ⟨rfl, trivial⟩ rfl rfl rfl ?_
    refine HQ.done ?_
    refine HQ.keep [(0, _), (3, _), (4, _), (5, _)] ⟨rfl, rfl, rfl, rfl, trivial⟩ ?_
    refine HQ.ret ?_
    refine HQ.thenR ?_
    obtain rfl := Option.some.inj H
    refine HQ.nil (kS kU8) 3 rfl ?_
    exact HQ.fin (vs := [_]) Try.results64 (none, 0) ⟨rfl, trivial⟩ rfl [3] ⟨rfl, trivial⟩ rfl
  · refine HQ.condF rfl hc ?_
    clear hc
    refine HQ.skipThen ?_
    refine HQ.rseq ?_
    refine HQ.pu Pu.assign ⟨rfl, trivial⟩ rfl rfl rfl ?_
    refine HQ.done ?_
    refine HQ.keep [(0, _), (3, _), (4, _), (5, _), (6, _)] ⟨rfl, rfl, rfl, rfl, rfl, trivial⟩ ?_
    refine HQ.seq ?_
    refine HQ.rseq ?_
    refine HQ.pu (Pu.fieldB fo57_3 rfl) ⟨rfl, trivial⟩ rfl rfl rfl ?_
    refine HQ.op [1] [1] (OT.loadB sc55 rfl) ⟨rfl, trivial⟩ ⟨rfl, trivial⟩ rfl rfl rfl rfl (fun _ => rfl) fun _ => ?_
    refine HQ.pu (Pu.len ul55) ⟨rfl, trivial⟩ rfl rfl rfl ?_
    refine HQ.pu Pu.move ⟨rfl, trivial⟩ rfl rfl rfl ?_
    refine HQ.done ?_
    refine HQ.keep [(0, _), (4, _), (5, _), (6, _), (16, _), (17, _), (18, _)] ⟨rfl, rfl, rfl, rfl, rfl, rfl, rfl, trivial⟩ ?_
    refine HQ.block ?_
    refine HQ.nil (kS kU8) 8 rfl ?_
    obtain ⟨o55, h65, H⟩ := bnd H
    refine HQ.loop h65 0 (fun (s : (List (List Int)) × Int) (g : Option Addr × Nat) => match s, g with | (l21, i24), (a22, c23) => [(0, .int .i64 p0), (4, .slice none 0 0), (5, .slice a4 (List.length t2) c5), (6, .slice a22 (List.length l21) c23), (16, .slice a_0 (List.length p1.Puts) c_0), (17, .int .i64 ((List.length p1.Puts : Nat) : Int)), (18, .int .i64 i24)]) (fun (s : (List (List Int)) × Int) (g : Option Addr × Nat) => match s, g with | (l21, i24), (a22, c23) => [(2, OwnS kU8 a4 c5 t2), (8, OwnS (kS kU8) a22 c23 l21)]) (fun _ _ _ => False) (none, 0) ⟨rfl, rfl, rfl, rfl, rfl, rfl, rfl, trivial⟩ ⟨rfl, rfl, trivial⟩ rfl ?_ ?_ ?_
    · clear H h65
      rintro ⟨l21, i24⟩ ⟨a22, c23⟩ o H
      rw [impl_TxCells_b0] at H
      refine HQ.keep [(0, _), (4, _), (5, _), (6, _), (16, _), (17, _), (18, _)] ⟨rfl, rfl, rfl, rfl, rfl, rfl, rfl, trivial⟩ ?_
      refine HQ.keepR [(2, _), (8, _)] ⟨rfl, rfl, trivial⟩ rfl ?_
      refine HQ.rseq ?_
      refine HQ.pu Pu.lss ⟨rfl, rfl, trivial⟩ rfl rfl rfl ?_
      refine HQ.done ?_
      refine HQ.keep [(0, _), (4, _), (5, _), (6, _), (16, _), (17, _), (18, _), (19, _)] ⟨rfl, rfl, rfl, rfl, rfl, rfl, rfl, rfl, trivial⟩ ?_
      refine HQ.seq ?_
      rcases brk H with ⟨hc, H⟩ | ⟨hc, H⟩
      · refine HQ.condT rfl hc ?_
        clear hc
        refine HQ.skipThen ?_
        refine HQ.seq ?_
        refine HQ.block ?_
        refine HQ.rseq ?_
        obtain ⟨h40, H⟩ := asr H
        refine HQ.op [] [] (OT.indexB ul55 sz49 hb_0 h40) ⟨rfl, rfl, trivial⟩ trivial rfl rfl rfl rfl (fun _ => rfl) fun _ => ?_
        obtain ⟨⟨a41, c42⟩, hb43, hn44⟩ := BorS.nest hb_0 h40
        refine HQ.op [] [] (OT.loadNA (vs := [.int .i64 ((gt p1.Puts i24).Page), .bool ((gt p1.Puts i24).N.Leaf), .slice a41 (List.length ((gt p1.Puts i24).N.L)) c42]) ag49 sz49 hn44 hlTChange rfl rfl) ⟨rfl, trivial⟩ trivial rfl rfl rfl rfl (fun _ => rfl) fun _ => ?_
        refine HQ.op [] [12] (OT.alloc zc49) trivial trivial rfl rfl rfl rfl (fun _ => rfl) fun b45 => ?_
        refine HQ.opN [12] [12] [] (OT.storeC (cs' := [.int .i64 ((gt p1.Puts i24).Page), .bool ((gt p1.Puts i24).N.Leaf), .slice a41 (List.length ((gt p1.Puts i24).N.L)) c42]) sz49 rfl rfl rfl rfl rfl) ⟨rfl, rfl, trivial⟩ ⟨rfl, trivial⟩ rfl rfl rfl (fun _ => rfl) fun _ => ?_
        refine HQ.done ?_
        refine HQ.keep [(0, _), (4, _), (5, _), (6, _), (16, _), (17, _), (18, _), (8, _)] ⟨rfl, rfl, rfl, rfl, rfl, rfl, rfl, rfl, trivial⟩ ?_
        refine HQ.regionQ ?_
        refine HQ.pu Pu.move ⟨rfl, trivial⟩ rfl rfl rfl ?_
        refine HQ.pu Pu.move ⟨rfl, trivial⟩ rfl rfl rfl ?_
        refine HQ.op [12] [12] (OT.loadBA (vs := [.int .i64 ((gt p1.Puts i24).Page), .bool ((gt p1.Puts i24).N.Leaf), .slice a41 (List.length ((gt p1.Puts i24).N.L)) c42]) ag49 sz49 rfl rfl) ⟨rfl, trivial⟩ ⟨rfl, trivial⟩ rfl rfl rfl rfl (fun _ => rfl) fun _ => ?_
        obtain ⟨t46, h47, H⟩ := bnd H
        refine HQ.op [] [13] (OT.call (us := [_, _]) (Pre := []) [.tmp 23, .tmp 24] Try.call27 rfl rfl fun w F hs hF hp => impl_PutCell_c (hb43.pass hp) h47) ⟨rfl, rfl, rfl, trivial⟩ trivial rfl rfl rfl rfl (fun _ => rfl) fun ⟨a48, c49⟩ => ?_
        refine HQ.opD [13] [14] [13] (OT.buildO (u := .slice a48 (List.length t46) c49) (enc := (fun _ v => [v])) (hl := fun _ v hv => ⟨rfl, by simp [hv]⟩) (sub := id) (.tmp 25) t46 sl91.ul sl91.szE sl91.zc rfl rfl rfl rfl) ⟨rfl, trivial⟩ ⟨rfl, trivial⟩ rfl rfl rfl rfl (fun _ => rfl) fun ⟨a50, c51⟩ => ?_
        obtain ⟨h54, H⟩ := asr H
        refine HQ.opD [8, 14] [8] [14] (OT.appendO (K := (kS kU8)) sl91 ul91 h54) ⟨rfl, rfl, trivial⟩ ⟨rfl, rfl, trivial⟩ rfl rfl rfl rfl (fun _ => rfl) fun ⟨a52, c53⟩ => ?_
        refine HQ.pu Pu.assign ⟨rfl, trivial⟩ rfl rfl rfl ?_
        refine HQ.done ?_
        refine HQ.keep [(0, _), (4, _), (5, _), (6, _), (16, _), (17, _), (18, _)] ⟨rfl, rfl, rfl, rfl, rfl, rfl, rfl, trivial⟩ ?_
        refine HQ.blkN ?_
        refine HQ.thenN ?_
        refine HQ.regionQ ?_
        refine HQ.pu Pu.add ⟨rfl, rfl, trivial⟩ rfl rfl rfl ?_
        refine HQ.pu Pu.move ⟨rfl, trivial⟩ rfl rfl rfl ?_
        refine HQ.done ?_
        refine HQ.keep [(0, _), (4, _), (5, _), (6, _), (16, _), (17, _), (18, _)] ⟨rfl, rfl, rfl, rfl, rfl, rfl, rfl, trivial⟩ ?_
        obtain rfl := Option.some.inj H
        exact HQ.next (a52, c53) ⟨rfl, rfl, rfl, rfl, rfl, rfl, rfl, trivial⟩ ⟨rfl, rfl, trivial⟩ rfl
      · refine HQ.condF rfl hc ?_
        clear hc
        refine HQ.exit ?_
        refine HQ.thenE ?_
        obtain rfl := Option.some.inj H
        exact HQ.out (a22, c23) ⟨rfl, rfl, rfl, rfl, rfl, rfl, rfl, trivial⟩ ⟨rfl, rfl, trivial⟩ rfl
    · rintro ⟨l56, i59⟩ rfl ⟨a57, c58⟩
      clear h65
      replace H := H
      refine HQ.keep [(0, _), (4, _), (5, _), (6, _), (16, _), (17, _), (18, _)] ⟨rfl, rfl, rfl, rfl, rfl, rfl, rfl, trivial⟩ ?_
      refine HQ.keepR [(2, _), (8, _)] ⟨rfl, rfl, trivial⟩ rfl ?_
      refine HQ.blkE ?_
      refine HQ.thenN ?_
      refine HQ.rseq ?_
      refine HQ.pu Pu.move ⟨rfl, trivial⟩ rfl rfl rfl ?_
      refine HQ.pu Pu.move ⟨rfl, trivial⟩ rfl rfl rfl ?_
      refine HQ.opD [2] [15] [2] (OT.buildO (u := .slice a4 (List.length t2) c5) (enc := (fun _ v => [v])) (hl := fun _ v hv => ⟨rfl, by simp [hv]⟩) (sub := id) (.tmp 30) t2 sl91.ul sl91.szE sl91.zc rfl rfl rfl rfl) ⟨rfl, trivial⟩ ⟨rfl, trivial⟩ rfl rfl rfl rfl (fun _ => rfl) fun ⟨a60, c61⟩ => ?_
      obtain ⟨h64, H⟩ := asr H
      refine HQ.opD [8, 15] [8] [15] (OT.appendO (K := (kS kU8)) sl91 ul91 h64) ⟨rfl, rfl, trivial⟩ ⟨rfl, rfl, trivial⟩ rfl rfl rfl rfl (fun _ => rfl) fun ⟨a62, c63⟩ => ?_
      refine HQ.pu Pu.assign ⟨rfl, trivial⟩ rfl rfl rfl ?_
      refine HQ.done ?_
      refine HQ.keep [(4, _)] ⟨rfl, trivial⟩ ?_
      refine HQ.ret ?_
      obtain rfl := Option.some.inj H
      exact HQ.fin (vs := [_]) Try.results64 (a62, c63) ⟨rfl, trivial⟩ rfl [8] ⟨rfl, trivial⟩ rfl
    · exact fun r h a w hf => hf.elim

/-! spec.TxCells -/
theorem spec_TxCells_c {w : World} {k : Nat} {p0 : Int} {p1 : TTx} {a_0 : Option Addr} {c_0 : Nat} (hb_0 : BorS kTChange a_0 c_0 p1.Puts w.heap (Lt w Nil)) {r : (List (List Int))} (H : spec_TxCells k p0 p1 = some r) :
    Calls Try.prog 65 #[.int .i64 p0, .agg #[.int .i64 p1.Seq, .int .i64 p1.Root, .int .i64 p1.Size, .slice a_0 (List.length p1.Puts) c_0]] w (Rt w Nil (fun g : Option Addr × Nat => .slice g.1 (List.length r) g.2) (fun g => [OwnS (kS kU8) g.1 g.2 r])) := by
  rw [spec_TxCells] at H
  refine Calls.enter0 (N := 40) (us := [_, _]) Try.func65 rfl rfl rfl ?_
  refine HQ.rseq ?_
  refine HQ.op [] [1] (OT.box (cs := [.int .i64 p1.Seq, .int .i64 p1.Root, .int .i64 p1.Size, .slice a_0 (List.length p1.Puts) c_0]) rfl) ⟨rfl, trivial⟩ trivial rfl rfl rfl rfl (fun _ => rfl) fun b1 => ?_
  refine HQ.pu Pu.assign ⟨rfl, trivial⟩ rfl rfl rfl ?_
  refine HQ.done ?_
  refine HQ.keep [(0, _), (3, _), (4, _)] ⟨rfl, rfl, rfl, trivial⟩ ?_
  refine HQ.rseq ?_
  refine HQ.op [] [2] (OT.buildE (K := (kS kU8)) sl91.ul sl91.szE sl91.zc rfl rfl) trivial trivial rfl rfl rfl rfl (fun _ => rfl) fun ⟨a2, c3⟩ => ?_
  refine HQ.pu Pu.assign ⟨rfl, trivial⟩ rfl rfl rfl ?_
  refine HQ.done ?_
  refine HQ.keep [(0, _), (3, _), (4, _), (5, _)] ⟨rfl, rfl, rfl, rfl, trivial⟩ ?_
  refine HQ.seq ?_
  refine HQ.rseq ?_
  refine HQ.pu Pu.move ⟨rfl, trivial⟩ rfl rfl rfl ?_
  obtain ⟨t4, h5, H⟩ := bnd H
  refine HQ.op [] [] (OT.call (us := [_, _, _]) (Pre := []) [.tmp 8, .const (.int .i64 0), .const (.int .i64 65535)] Try.call89 rfl rfl fun w F hs hF hp => spec_l1In_c h5) ⟨rfl, rfl, rfl, rfl, trivial⟩ trivial rfl rfl rfl rfl (fun _ => rfl) fun _ => ?_
  refine HQ.pu Pu.not ⟨rfl, trivial⟩ rfl rfl rfl ?_
  refine HQ.pu Pu.move ⟨rfl, trivial⟩ rfl rfl rfl ?_
  obtain ⟨c9, h10, H⟩ := bnd H
  refine HQ.cutAt 4 [(15, .bool c9), (0, .int .i64 p0), (3, BP b1 0), (4, .slice none 0 0), (5, .slice a2 (List.length ([] : (List (List Int)))) c3)] [(1, Box b1 [.int .i64 p1.Seq, .int .i64 p1.Root, .int .i64 p1.Size, .slice a_0 (List.length p1.Puts) c_0]), (2, OwnS (kS kU8) a2 c3 ([] : (List (List Int))))] ?_ ?_
  · clear H
    have H := h10
    rcases brk H with ⟨hg6, H⟩ | ⟨hg6, H⟩
    · obtain rfl := Option.some.inj H
      refine HQ.off rfl rfl hg6 rfl ?_
      refine HQ.off rfl rfl hg6 rfl ?_
      refine HQ.off rfl rfl hg6 rfl ?_
      refine HQ.pu (Pu.pickC1 hg6) ⟨rfl, rfl, trivial⟩ rfl rfl rfl ?_
      exact HQ.mid ⟨rfl, rfl, rfl, rfl, rfl, trivial⟩ ⟨rfl, rfl, trivial⟩ rfl
    · refine HQ.on rfl rfl hg6 ?_
      refine HQ.op [1] [1] (OT.loadBA (vs := [.int .i64 p1.Seq, .int .i64 p1.Root, .int .i64 p1.Size, .slice a_0 (List.length p1.Puts) c_0]) ag57 sz57 rfl rfl) ⟨rfl, trivial⟩ ⟨rfl, trivial⟩ rfl rfl rfl rfl (fun _ => rfl) fun _ => ?_
      refine HQ.on rfl rfl hg6 ?_
      obtain ⟨t7, h8, H⟩ := bnd H
      refine HQ.op [] [] (OT.call (us := [_]) (Pre := []) [.tmp 12] Try.call36 rfl rfl fun w F hs hF hp => spec_TxOk_c (hb_0.pass hp) h8) ⟨rfl, rfl, trivial⟩ trivial rfl rfl rfl rfl (fun _ => rfl) fun _ => ?_
      refine HQ.on rfl rfl hg6 ?_
      refine HQ.pu Pu.not ⟨rfl, trivial⟩ rfl rfl rfl ?_
      obtain rfl := Option.some.inj H
      refine HQ.pu (Pu.pickC0 hg6) ⟨rfl, rfl, trivial⟩ rfl rfl rfl ?_
      exact HQ.mid ⟨rfl, rfl, rfl, rfl, rfl, trivial⟩ ⟨rfl, rfl, trivial⟩ rfl
  refine HQ.done ?_
  refine HQ.keep [(15, _), (0, _), (3, _), (4, _), (5, _)] ⟨rfl, rfl, rfl, rfl, rfl, trivial⟩ ?_
  rcases brk H with ⟨hc, H⟩ | ⟨hc, H⟩
  · refine HQ.condT rfl hc ?_
    clear hc
    refine HQ.rseq ?_
    refine HQ.pu Pu.move ⟨rfl, trivial⟩ rfl rfl rfl ?_
    refine HQ.pu Pu.assign ⟨rfl, trivial⟩ rfl rfl rfl ?_
    refine HQ.done ?_
    refine HQ.keep [(0, _), (3, _), (4, _), (5, _)] ⟨rfl, rfl, rfl, rfl, trivial⟩ ?_
    refine HQ.ret ?_
    refine HQ.thenR ?_
    obtain rfl := Option.some.inj H
    exact HQ.fin (vs := [_]) Try.results65 (a2, c3) ⟨rfl, trivial⟩ rfl [2] ⟨rfl, trivial⟩ rfl
  · refine HQ.condF rfl hc ?_
    clear hc
    refine HQ.skipThen ?_
    refine HQ.seq ?_
    refine HQ.rseq ?_
    refine HQ.pu Pu.assign ⟨rfl, trivial⟩ rfl rfl rfl ?_
    refine HQ.done ?_
    refine HQ.keep [(0, _), (3, _), (4, _), (5, _), (6, _)] ⟨rfl, rfl, rfl, rfl, rfl, trivial⟩ ?_
    refine HQ.block ?_
    obtain ⟨o57, h71, H⟩ := bnd H
    refine HQ.loop h71 0 (fun (s : (List (List Int)) × Int) (g : Option Addr × Nat) => match s, g with | (l25, i28), (a26, c27) => [(0, .int .i64 p0), (3, BP b1 0), (4, .slice none 0 0), (5, .slice a26 (List.length l25) c27), (6, .int .i64 i28)]) (fun (s : (List (List Int)) × Int) (g : Option Addr × Nat) => match s, g with | (l25, i28), (a26, c27) => [(1, Box b1 [.int .i64 p1.Seq, .int .i64 p1.Root, .int .i64 p1.Size, .slice a_0 (List.length p1.Puts) c_0]), (2, OwnS (kS kU8) a26 c27 l25)]) (fun _ _ _ => False) (a2, c3) ⟨rfl, rfl, rfl, rfl, rfl, trivial⟩ ⟨rfl, rfl, trivial⟩ rfl ?_ ?_ ?_
    · clear H h71
      rintro ⟨l25, i28⟩ ⟨a26, c27⟩ o H
      rw [spec_TxCells_b0] at H
      refine HQ.keep [(0, _), (3, _), (4, _), (5, _), (6, _)] ⟨rfl, rfl, rfl, rfl, rfl, trivial⟩ ?_
      refine HQ.keepR [(1, _), (2, _)] ⟨rfl, rfl, trivial⟩ rfl ?_
      refine HQ.seq ?_
      refine HQ.rseq ?_
      refine HQ.pu Pu.move ⟨rfl, trivial⟩ rfl rfl rfl ?_
      refine HQ.pu (Pu.fieldB fo57_3 rfl) ⟨rfl, trivial⟩ rfl rfl rfl ?_
      refine HQ.op [1] [1] (OT.loadB sc55 rfl) ⟨rfl, trivial⟩ ⟨rfl, trivial⟩ rfl rfl rfl rfl (fun _ => rfl) fun _ => ?_
      refine HQ.pu (Pu.len ul55) ⟨rfl, trivial⟩ rfl rfl rfl ?_
      refine HQ.pu Pu.lss ⟨rfl, rfl, trivial⟩ rfl rfl rfl ?_
      refine HQ.done ?_
      refine HQ.keep [(0, _), (3, _), (4, _), (5, _), (6, _), (21, _)] ⟨rfl, rfl, rfl, rfl, rfl, rfl, trivial⟩ ?_
      rcases brk H with ⟨hc, H⟩ | ⟨hc, H⟩
      · refine HQ.condT rfl hc ?_
        clear hc
        refine HQ.skipThen ?_
        refine HQ.seq ?_
        refine HQ.block ?_
        refine HQ.regionQ ?_
        refine HQ.pu Pu.move ⟨rfl, trivial⟩ rfl rfl rfl ?_
        refine HQ.pu Pu.move ⟨rfl, trivial⟩ rfl rfl rfl ?_
        refine HQ.pu (Pu.fieldB fo57_3 rfl) ⟨rfl, trivial⟩ rfl rfl rfl ?_
        refine HQ.op [1] [1] (OT.loadB sc55 rfl) ⟨rfl, trivial⟩ ⟨rfl, trivial⟩ rfl rfl rfl rfl (fun _ => rfl) fun _ => ?_
        refine HQ.pu Pu.move ⟨rfl, trivial⟩ rfl rfl rfl ?_
        obtain ⟨h43, H⟩ := asr H
        refine HQ.op [] [] (OT.indexB ul55 sz49 hb_0 h43) ⟨rfl, rfl, trivial⟩ trivial rfl rfl rfl rfl (fun _ => rfl) fun _ => ?_
        obtain ⟨⟨a44, c45⟩, hb46, hn47⟩ := BorS.nest hb_0 h43
        refine HQ.op [] [] (OT.loadNA (vs := [.int .i64 ((gt p1.Puts i28).Page), .bool ((gt p1.Puts i28).N.Leaf), .slice a44 (List.length ((gt p1.Puts i28).N.L)) c45]) ag49 sz49 hn47 hlTChange rfl rfl) ⟨rfl, trivial⟩ trivial rfl rfl rfl rfl (fun _ => rfl) fun _ => ?_
        obtain ⟨t48, h49, H⟩ := bnd H
        refine HQ.op [] [7] (OT.call (us := [_, _]) (Pre := []) [.tmp 25, .tmp 30] Try.call33 rfl rfl fun w F hs hF hp => spec_PutCell_c (hb46.pass hp) h49) ⟨rfl, rfl, rfl, trivial⟩ trivial rfl rfl rfl rfl (fun _ => rfl) fun ⟨a50, c51⟩ => ?_
        refine HQ.opD [7] [8] [7] (OT.buildO (u := .slice a50 (List.length t48) c51) (enc := (fun _ v => [v])) (hl := fun _ v hv => ⟨rfl, by simp [hv]⟩) (sub := id) (.tmp 31) t48 sl91.ul sl91.szE sl91.zc rfl rfl rfl rfl) ⟨rfl, trivial⟩ ⟨rfl, trivial⟩ rfl rfl rfl rfl (fun _ => rfl) fun ⟨a52, c53⟩ => ?_
        obtain ⟨h56, H⟩ := asr H
        refine HQ.opD [2, 8] [2] [8] (OT.appendO (K := (kS kU8)) sl91 ul91 h56) ⟨rfl, rfl, trivial⟩ ⟨rfl, rfl, trivial⟩ rfl rfl rfl rfl (fun _ => rfl) fun ⟨a54, c55⟩ => ?_
        refine HQ.pu Pu.assign ⟨rfl, trivial⟩ rfl rfl rfl ?_
        refine HQ.done ?_
        refine HQ.keep [(0, _), (3, _), (4, _), (5, _), (6, _)] ⟨rfl, rfl, rfl, rfl, rfl, trivial⟩ ?_
        refine HQ.blkN ?_
        refine HQ.thenN ?_
        refine HQ.regionQ ?_
        refine HQ.pu Pu.move ⟨rfl, trivial⟩ rfl rfl rfl ?_
        refine HQ.pu Pu.add ⟨rfl, rfl, trivial⟩ rfl rfl rfl ?_
        refine HQ.pu Pu.assign ⟨rfl, trivial⟩ rfl rfl rfl ?_
        refine HQ.done ?_
        refine HQ.keep [(0, _), (3, _), (4, _), (5, _), (6, _)] ⟨rfl, rfl, rfl, rfl, rfl, trivial⟩ ?_
        obtain rfl := Option.some.inj H
        exact HQ.next (a54, c55) ⟨rfl, rfl, rfl, rfl, rfl, trivial⟩ ⟨rfl, rfl, trivial⟩ rfl
      · refine HQ.condF rfl hc ?_
        clear hc
        refine HQ.exit ?_
        refine HQ.thenE ?_
        obtain rfl := Option.some.inj H
        exact HQ.out (a26, c27) ⟨rfl, rfl, rfl, rfl, rfl, trivial⟩ ⟨rfl, rfl, trivial⟩ rfl
    · rintro ⟨l58, i61⟩ rfl ⟨a59, c60⟩
      clear h71
      replace H := H
      refine HQ.keep [(0, _), (3, _), (4, _), (5, _), (6, _)] ⟨rfl, rfl, rfl, rfl, rfl, trivial⟩ ?_
      refine HQ.keepR [(1, _), (2, _)] ⟨rfl, rfl, trivial⟩ rfl ?_
      refine HQ.blkE ?_
      refine HQ.thenN ?_
      refine HQ.rseq ?_
      refine HQ.pu Pu.move ⟨rfl, trivial⟩ rfl rfl rfl ?_
      refine HQ.pu Pu.move ⟨rfl, trivial⟩ rfl rfl rfl ?_
      refine HQ.op [1] [1] (OT.loadBA (vs := [.int .i64 p1.Seq, .int .i64 p1.Root, .int .i64 p1.Size, .slice a_0 (List.length p1.Puts) c_0]) ag57 sz57 rfl rfl) ⟨rfl, trivial⟩ ⟨rfl, trivial⟩ rfl rfl rfl rfl (fun _ => rfl) fun _ => ?_
      obtain ⟨t62, h63, H⟩ := bnd H
      refine HQ.op [] [9] (OT.call (us := [_, _]) (Pre := []) [.tmp 35, .tmp 36] Try.call34 rfl rfl fun w F hs hF hp => spec_EndCell_c (hb_0.pass hp) h63) ⟨rfl, rfl, rfl, trivial⟩ trivial rfl rfl rfl rfl (fun _ => rfl) fun ⟨a64, c65⟩ => ?_
      refine HQ.opD [9] [10] [9] (OT.buildO (u := .slice a64 (List.length t62) c65) (enc := (fun _ v => [v])) (hl := fun _ v hv => ⟨rfl, by simp [hv]⟩) (sub := id) (.tmp 37) t62 sl91.ul sl91.szE sl91.zc rfl rfl rfl rfl) ⟨rfl, trivial⟩ ⟨rfl, trivial⟩ rfl rfl rfl rfl (fun _ => rfl) fun ⟨a66, c67⟩ => ?_
      obtain ⟨h70, H⟩ := asr H
      refine HQ.opD [2, 10] [2] [10] (OT.appendO (K := (kS kU8)) sl91 ul91 h70) ⟨rfl, rfl, trivial⟩ ⟨rfl, rfl, trivial⟩ rfl rfl rfl rfl (fun _ => rfl) fun ⟨a68, c69⟩ => ?_
      refine HQ.pu Pu.assign ⟨rfl, trivial⟩ rfl rfl rfl ?_
      refine HQ.done ?_
      refine HQ.keep [(4, _)] ⟨rfl, trivial⟩ ?_
      refine HQ.ret ?_
      obtain rfl := Option.some.inj H
      exact HQ.fin (vs := [_]) Try.results65 (a68, c69) ⟨rfl, trivial⟩ rfl [2] ⟨rfl, trivial⟩ rfl
    · exact fun r h a w hf => hf.elim

/-! slices.Equal(()impl.Entry,impl.Entry) -/
theorem slices_Equal_impl_Entry_impl_Entry_c {w : World} {k : Nat} {p0 : (List TEntry)} {p1 : (List TEntry)} {a_0 : Option Addr} {c_0 : Nat} {a_1 : Option Addr} {c_1 : Nat} (hb_0 : BorS kTEntry a_0 c_0 p0 w.heap (Lt w Nil)) (hb_1 : BorS kTEntry a_1 c_1 p1 w.heap (Lt w Nil)) {r : Bool} (H : slices_Equal_impl_Entry_impl_Entry k p0 p1 = some r) :
    Calls Try.prog 108 #[.slice a_0 (List.length p0) c_0, .slice a_1 (List.length p1) c_1] w (Rt w Nil (fun _ : Unit => .bool r) (fun _ => [])) := by
  rw [slices_Equal_impl_Entry_impl_Entry] at H
  refine Calls.enter0 (N := 26) (us := [_, _]) Try.func108 rfl rfl rfl ?_
  refine HQ.rseq ?_
  refine HQ.pu Pu.assign ⟨rfl, trivial⟩ rfl rfl rfl ?_
  refine HQ.done ?_
  refine HQ.keep [(0, _), (1, _), (4, _)] ⟨rfl, rfl, rfl, trivial⟩ ?_
  refine HQ.seq ?_
  refine HQ.rseq ?_
  refine HQ.pu Pu.move ⟨rfl, trivial⟩ rfl rfl rfl ?_
  refine HQ.pu (Pu.len ul45) ⟨rfl, trivial⟩ rfl rfl rfl ?_
  refine HQ.pu Pu.move ⟨rfl, trivial⟩ rfl rfl rfl ?_
  refine HQ.pu (Pu.len ul45) ⟨rfl, trivial⟩ rfl rfl rfl ?_
  refine HQ.pu Pu.neq ⟨rfl, rfl, trivial⟩ rfl rfl rfl ?_
  refine HQ.done ?_
  refine HQ.keep [(0, _), (1, _), (4, _), (10, _)] ⟨rfl, rfl, rfl, rfl, trivial⟩ ?_
  rcases brk H with ⟨hc, H⟩ | ⟨hc, H⟩
  · refine HQ.condT rfl hc ?_
    clear hc
    refine HQ.rseq ?_
    refine HQ.pu Pu.assign ⟨rfl, trivial⟩ rfl rfl rfl ?_
    refine HQ.done ?_
    refine HQ.keep [(0, _), (1, _), (4, _)] ⟨rfl, rfl, rfl, trivial⟩ ?_
    refine HQ.ret ?_
    refine HQ.thenR ?_
    obtain rfl := Option.some.inj H
    exact HQ.fin (vs := [_]) Try.results108 () ⟨rfl, trivial⟩ rfl [] trivial rfl
  · refine HQ.condF rfl hc ?_
    clear hc
    refine HQ.skipThen ?_
    refine HQ.seq ?_
    refine HQ.rseq ?_
    refine HQ.pu Pu.move ⟨rfl, trivial⟩ rfl rfl rfl ?_
    refine HQ.pu (Pu.len ul45) ⟨rfl, trivial⟩ rfl rfl rfl ?_
    refine HQ.pu Pu.move ⟨rfl, trivial⟩ rfl rfl rfl ?_
    refine HQ.done ?_
    refine HQ.keep [(0, _), (1, _), (4, _), (12, _), (13, _)] ⟨rfl, rfl, rfl, rfl, rfl, trivial⟩ ?_
    refine HQ.block ?_
    obtain ⟨o11, h13, H⟩ := bnd H
    refine HQ.loop h13 0 (fun (s : Int) (g : Unit) => match s, g with | i4, () => [(0, .slice a_0 (List.length p0) c_0), (1, .slice a_1 (List.length p1) c_1), (4, .bool false), (12, .int .i64 ((List.length p0 : Nat) : Int)), (13, .int .i64 i4)]) (fun (s : Int) (g : Unit) => match s, g with | i4, () => []) (fun r => bodyPost Try.prog Try.f108 (Rt w Nil (fun _ : Unit => .bool r) (fun _ => [])) .ret) () ⟨rfl, rfl, rfl, rfl, rfl, trivial⟩ trivial rfl ?_ ?_ ?_
    · clear H h13
      rintro i4 _ o H
      rw [slices_Equal_impl_Entry_impl_Entry_b0] at H
      refine HQ.keep [(0, _), (1, _), (4, _), (12, _), (13, _)] ⟨rfl, rfl, rfl, rfl, rfl, trivial⟩ ?_
      refine HQ.keepR [] trivial rfl ?_
      refine HQ.rseq ?_
      refine HQ.pu Pu.lss ⟨rfl, rfl, trivial⟩ rfl rfl rfl ?_
      refine HQ.done ?_
      refine HQ.keep [(0, _), (1, _), (4, _), (12, _), (13, _), (14, _)] ⟨rfl, rfl, rfl, rfl, rfl, rfl, trivial⟩ ?_
      refine HQ.seq ?_
      rcases brk H with ⟨hc, H⟩ | ⟨hc, H⟩
      · refine HQ.condT rfl hc ?_
        clear hc
        refine HQ.skipThen ?_
        refine HQ.seq ?_
        refine HQ.block ?_
        refine HQ.rseq ?_
        refine HQ.pu Pu.move ⟨rfl, trivial⟩ rfl rfl rfl ?_
        refine HQ.pu Pu.assign ⟨rfl, trivial⟩ rfl rfl rfl ?_
        refine HQ.done ?_
        refine HQ.keep [(0, _), (1, _), (4, _), (12, _), (13, _), (5, _)] ⟨rfl, rfl, rfl, rfl, rfl, rfl, trivial⟩ ?_
        obtain ⟨h9, H⟩ := asr H
        obtain ⟨h10, H⟩ := asr H
        refine HQ.drawS mixd [(0, .slice a_0 (List.length p0) c_0), (1, .slice a_1 (List.length p1) c_1), (4, .bool false), (12, .int .i64 ((List.length p0 : Nat) : Int)), (13, .int .i64 i4), (5, .int .i64 i4)] 8 [⟨[], [], []⟩, ⟨[], [], []⟩, ⟨[], [], [0, 1]⟩, ⟨[], [], [2]⟩, ⟨[], [], []⟩, ⟨[], [], []⟩, ⟨[], [], [4, 5]⟩, ⟨[], [], [6]⟩] [] (fun (g8 : Unit) => [.slice a_0 (List.length p0) c_0, .int .i64 i4, EP a_0 i4 5 0, .agg #[.int .i64 ((gt p0 i4).N), .int .i64 ((gt p0 i4).R.X0), .int .i64 ((gt p0 i4).R.Y0), .int .i64 ((gt p0 i4).R.X1), .int .i64 ((gt p0 i4).R.Y1)], .slice a_1 (List.length p1) c_1, .int .i64 i4, EP a_1 i4 5 0, .agg #[.int .i64 ((gt p1 i4).N), .int .i64 ((gt p1 i4).R.X0), .int .i64 ((gt p1 i4).R.Y0), .int .i64 ((gt p1 i4).R.X1), .int .i64 ((gt p1 i4).R.Y1)]]) (fun (g8 : Unit) => []) () [] [] [] ⟨rfl, rfl, rfl, rfl, rfl, rfl, trivial⟩ trivial rfl (by kernel_rfl) (fun _ => rfl) (by kernel_rfl) (fun _ => rfl) ⟨?_, ?_, ?_, ?_, ?_, ?_, ?_, ?_, trivial⟩ fun g8 => ?_
        · exact OpOK.of (fun g8 => [(.tmp 0, .slice a_0 (List.length p0) c_0)]) _ _ (fun g8 _ => g8) rfl rfl (fun _ => ⟨rfl, trivial⟩) (fun g8 => Pu.toOT Pu.move) (fun _ _ => ⟨rfl, rfl, trivial⟩)
        · exact OpOK.of (fun g8 => [(.tmp 5, .int .i64 i4)]) _ _ (fun g8 _ => g8) rfl rfl (fun _ => ⟨rfl, trivial⟩) (fun g8 => Pu.toOT Pu.move) (fun _ _ => ⟨rfl, rfl, trivial⟩)
        · exact OpOK.of (fun g8 => [(.tmp 16, .slice a_0 (List.length p0) c_0), (.tmp 17, .int .i64 i4)]) _ _ (fun g8 _ => g8) rfl rfl (fun _ => ⟨rfl, rfl, trivial⟩) (fun g8 => OT.indexB ul45 sz134 hb_0 h9) (fun _ _ => ⟨rfl, rfl, trivial⟩)
        · exact OpOK.of (fun g8 => [(.tmp 18, EP a_0 i4 5 0)]) _ _ (fun g8 _ => g8) rfl rfl (fun _ => ⟨rfl, trivial⟩) (fun g8 => OT.loadFA (vs := [.int .i64 ((gt p0 i4).N), .int .i64 ((gt p0 i4).R.X0), .int .i64 ((gt p0 i4).R.Y0), .int .i64 ((gt p0 i4).R.X1), .int .i64 ((gt p0 i4).R.Y1)]) ag134 sz134 hb_0 h9 rfl rfl) (fun _ _ => ⟨rfl, rfl, trivial⟩)
        · exact OpOK.of (fun g8 => [(.tmp 1, .slice a_1 (List.length p1) c_1)]) _ _ (fun g8 _ => g8) rfl rfl (fun _ => ⟨rfl, trivial⟩) (fun g8 => Pu.toOT Pu.move) (fun _ _ => ⟨rfl, rfl, trivial⟩)
        · exact OpOK.of (fun g8 => [(.tmp 5, .int .i64 i4)]) _ _ (fun g8 _ => g8) rfl rfl (fun _ => ⟨rfl, trivial⟩) (fun g8 => Pu.toOT Pu.move) (fun _ _ => ⟨rfl, rfl, trivial⟩)
        · exact OpOK.of (fun g8 => [(.tmp 20, .slice a_1 (List.length p1) c_1), (.tmp 21, .int .i64 i4)]) _ _ (fun g8 _ => g8) rfl rfl (fun _ => ⟨rfl, rfl, trivial⟩) (fun g8 => OT.indexB ul45 sz134 hb_1 h10) (fun _ _ => ⟨rfl, rfl, trivial⟩)
        · exact OpOK.of (fun g8 => [(.tmp 22, EP a_1 i4 5 0)]) _ _ (fun g8 _ => g8) rfl rfl (fun _ => ⟨rfl, trivial⟩) (fun g8 => OT.loadFA (vs := [.int .i64 ((gt p1 i4).N), .int .i64 ((gt p1 i4).R.X0), .int .i64 ((gt p1 i4).R.Y0), .int .i64 ((gt p1 i4).R.X1), .int .i64 ((gt p1 i4).R.Y1)]) ag134 sz134 hb_1 h10 rfl rfl) (fun _ _ => ⟨rfl, rfl, trivial⟩)
        refine HQ.keep [(0, _), (1, _), (4, _), (12, _), (13, _), (19, _), (23, _)] ⟨rfl, rfl, rfl, rfl, rfl, rfl, rfl, trivial⟩ ?_
        refine HQ.keepR [] trivial rfl ?_
        refine HQ.pu (Pu.neqT gq134 (eqa134 (gt p0 i4) (gt p1 i4)) rfl) ⟨rfl, rfl, trivial⟩ rfl rfl rfl ?_
        refine HQ.done ?_
        refine HQ.keep [(0, _), (1, _), (4, _), (12, _), (13, _), (24, _)] ⟨rfl, rfl, rfl, rfl, rfl, rfl, trivial⟩ ?_
        rcases brk H with ⟨hc, H⟩ | ⟨hc, H⟩
        · refine HQ.condT rfl hc ?_
          clear hc
          refine HQ.rseq ?_
          refine HQ.pu Pu.assign ⟨rfl, trivial⟩ rfl rfl rfl ?_
          refine HQ.done ?_
          refine HQ.keep [(0, _), (1, _), (4, _), (12, _), (13, _)] ⟨rfl, rfl, rfl, rfl, rfl, trivial⟩ ?_
          refine HQ.ret ?_
          refine HQ.blkR ?_
          refine HQ.thenR ?_
          obtain rfl := Option.some.inj H
          refine HQ.retL ?_
          exact HQ.fin (vs := [_]) Try.results108 () ⟨rfl, trivial⟩ rfl [] trivial rfl
        · refine HQ.condF rfl hc ?_
          clear hc
          refine HQ.skip ?_
          refine HQ.blkN ?_
          refine HQ.thenN ?_
          refine HQ.regionQ ?_
          refine HQ.pu Pu.add ⟨rfl, rfl, trivial⟩ rfl rfl rfl ?_
          refine HQ.pu Pu.move ⟨rfl, trivial⟩ rfl rfl rfl ?_
          refine HQ.done ?_
          refine HQ.keep [(0, _), (1, _), (4, _), (12, _), (13, _)] ⟨rfl, rfl, rfl, rfl, rfl, trivial⟩ ?_
          obtain rfl := Option.some.inj H
          exact HQ.next () ⟨rfl, rfl, rfl, rfl, rfl, trivial⟩ trivial rfl
      · refine HQ.condF rfl hc ?_
        clear hc
        refine HQ.exit ?_
        refine HQ.thenE ?_
        obtain rfl := Option.some.inj H
        exact HQ.out () ⟨rfl, rfl, rfl, rfl, rfl, trivial⟩ trivial rfl
    · rintro i12 rfl _
      clear h13
      replace H := H
      refine HQ.keep [(0, _), (1, _), (4, _), (12, _), (13, _)] ⟨rfl, rfl, rfl, rfl, rfl, trivial⟩ ?_
      refine HQ.keepR [] trivial rfl ?_
      refine HQ.blkE ?_
      refine HQ.thenN ?_
      refine HQ.rseq ?_
      refine HQ.pu Pu.assign ⟨rfl, trivial⟩ rfl rfl rfl ?_
      refine HQ.done ?_
      refine HQ.keep [(4, _)] ⟨rfl, trivial⟩ ?_
      refine HQ.ret ?_
      obtain rfl := Option.some.inj H
      exact HQ.fin (vs := [_]) Try.results108 () ⟨rfl, trivial⟩ rfl [] trivial rfl
    · rintro r rfl a w hr
      obtain rfl := Option.some.inj H
      exact hr

/-! impl.SameNode -/
theorem impl_SameNode_c {w : World} {k : Nat} {p0 : TNode} {p1 : TNode} {a_0 : Option Addr} {c_0 : Nat} {a_1 : Option Addr} {c_1 : Nat} (hb_0 : BorS kTEntry a_0 c_0 p0.L w.heap (Lt w Nil)) (hb_1 : BorS kTEntry a_1 c_1 p1.L w.heap (Lt w Nil)) {r : Bool} (H : impl_SameNode k p0 p1 = some r) :
    Calls Try.prog 37 #[.agg #[.bool p0.Leaf, .slice a_0 (List.length p0.L) c_0], .agg #[.bool p1.Leaf, .slice a_1 (List.length p1.L) c_1]] w (Rt w Nil (fun _ : Unit => .bool r) (fun _ => [])) := by
  rw [impl_SameNode] at H
  refine Calls.enter0 (N := 17) (us := [_, _]) Try.func37 rfl rfl rfl ?_
  refine HQ.rseq ?_
  refine HQ.op [] [1] (OT.box (cs := [.bool p0.Leaf, .slice a_0 (List.length p0.L) c_0]) rfl) ⟨rfl, trivial⟩ trivial rfl rfl rfl rfl (fun _ => rfl) fun b1 => ?_
  refine HQ.op [] [2] (OT.box (cs := [.bool p1.Leaf, .slice a_1 (List.length p1.L) c_1]) rfl) ⟨rfl, trivial⟩ trivial rfl rfl rfl rfl (fun _ => rfl) fun b2 => ?_
  refine HQ.pu Pu.assign ⟨rfl, trivial⟩ rfl rfl rfl ?_
  refine HQ.done ?_
  refine HQ.keep [(2, _), (3, _), (4, _)] ⟨rfl, rfl, rfl, trivial⟩ ?_
  refine HQ.rseq ?_
  refine HQ.pu (Pu.fieldB fo47_0 rfl) ⟨rfl, trivial⟩ rfl rfl rfl ?_
  refine HQ.op [1] [1] (OT.loadB sc4 rfl) ⟨rfl, trivial⟩ ⟨rfl, trivial⟩ rfl rfl rfl rfl (fun _ => rfl) fun _ => ?_
  refine HQ.pu (Pu.fieldB fo47_0 rfl) ⟨rfl, trivial⟩ rfl rfl rfl ?_
  refine HQ.op [2] [2] (OT.loadB sc4 rfl) ⟨rfl, trivial⟩ ⟨rfl, trivial⟩ rfl rfl rfl rfl (fun _ => rfl) fun _ => ?_
  refine HQ.pu (Pu.eqlB ul4) ⟨rfl, rfl, trivial⟩ rfl rfl rfl ?_
  refine HQ.pu Pu.move ⟨rfl, trivial⟩ rfl rfl rfl ?_
  obtain ⟨c6, h7, H⟩ := bnd H
  refine HQ.cutAt 6 [(16, .bool c6), (4, .bool false)] [(1, Box b1 [.bool p0.Leaf, .slice a_0 (List.length p0.L) c_0]), (2, Box b2 [.bool p1.Leaf, .slice a_1 (List.length p1.L) c_1])] ?_ ?_
  · clear H
    have H := h7
    rcases brk H with ⟨hg3, H⟩ | ⟨hg3, H⟩
    · refine HQ.on rfl rfl hg3 ?_
      refine HQ.pu (Pu.fieldB fo47_1 rfl) ⟨rfl, trivial⟩ rfl rfl rfl ?_
      refine HQ.on rfl rfl hg3 ?_
      refine HQ.op [1] [1] (OT.loadB sc45 rfl) ⟨rfl, trivial⟩ ⟨rfl, trivial⟩ rfl rfl rfl rfl (fun _ => rfl) fun _ => ?_
      refine HQ.on rfl rfl hg3 ?_
      refine HQ.pu (Pu.fieldB fo47_1 rfl) ⟨rfl, trivial⟩ rfl rfl rfl ?_
      refine HQ.on rfl rfl hg3 ?_
      refine HQ.op [2] [2] (OT.loadB sc45 rfl) ⟨rfl, trivial⟩ ⟨rfl, trivial⟩ rfl rfl rfl rfl (fun _ => rfl) fun _ => ?_
      refine HQ.on rfl rfl hg3 ?_
      obtain ⟨t4, h5, H⟩ := bnd H
      refine HQ.op [] [] (OT.call (us := [_, _]) (Pre := []) [.tmp 12, .tmp 14] Try.call108 rfl rfl fun w F hs hF hp => slices_Equal_impl_Entry_impl_Entry_c (hb_0.pass hp) (hb_1.pass hp) h5) ⟨rfl, rfl, rfl, trivial⟩ trivial rfl rfl rfl rfl (fun _ => rfl) fun _ => ?_
      obtain rfl := Option.some.inj H
      refine HQ.pu (Pu.pickC1 hg3) ⟨rfl, rfl, trivial⟩ rfl rfl rfl ?_
      exact HQ.mid ⟨rfl, rfl, trivial⟩ ⟨rfl, rfl, trivial⟩ rfl
    · obtain rfl := Option.some.inj H
      refine HQ.off rfl rfl hg3 rfl ?_
      refine HQ.off rfl rfl hg3 rfl ?_
      refine HQ.off rfl rfl hg3 rfl ?_
      refine HQ.off rfl rfl hg3 rfl ?_
      refine HQ.off rfl rfl hg3 rfl ?_
      refine HQ.pu (Pu.pickC0 hg3) ⟨rfl, rfl, trivial⟩ rfl rfl rfl ?_
      exact HQ.mid ⟨rfl, rfl, trivial⟩ ⟨rfl, rfl, trivial⟩ rfl
  refine HQ.pu Pu.assign ⟨rfl, trivial⟩ rfl rfl rfl ?_
  refine HQ.done ?_
  refine HQ.keep [(4, _)] ⟨rfl, trivial⟩ ?_
  refine HQ.ret ?_
  obtain rfl := Option.some.inj H
  exact HQ.fin (vs := [_]) Try.results37 () ⟨rfl, trivial⟩ rfl [] trivial rfl

end Go.Proofs.Sx
