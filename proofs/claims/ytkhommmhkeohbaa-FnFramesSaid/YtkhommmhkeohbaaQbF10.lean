import Derived.Test.YtkhommmhkeohbaaQbF9
import Derived.KernelRfl
namespace Go.Proofs.Sx
open Go.RowKit
set_option linter.unusedVariables false
set_option linter.unusedSimpArgs false
set_option maxRecDepth 20000
set_option maxHeartbeats 1000000
/-! slices.Equal(()impl.Entry,impl.Entry) -/
theorem slices_Equal_impl_Entry_impl_Entry_c {w : World} {k : Nat} {p0 : (List TEntry)} {p1 : (List TEntry)} {a_0 : Option Addr} {c_0 : Nat} {a_1 : Option Addr} {c_1 : Nat} (hb_0 : BorS kTEntry a_0 c_0 p0 w.heap (Lt w Nil)) (hb_1 : BorS kTEntry a_1 c_1 p1 w.heap (Lt w Nil)) {r : Bool} (H : slices_Equal_impl_Entry_impl_Entry k p0 p1 = some r) :
    Calls Try.prog 108 #[.slice a_0 (List.length p0) c_0, .slice a_1 (List.length p1) c_1] w (Rt w Nil (fun _ : Unit => .bool r) (fun _ => [])) := by
  rw [slices_Equal_impl_Entry_impl_Entry] at H
  refine Calls.enter0 (N := 26) (us := [_, _]) Try.func108 rfl rfl rfl ?_
  refine HQ.rseq ?_
  refine HQ.pu Pu.assign ⟨rfl, trivial⟩ rfl rfl rfl ?_
  refine HQ.done ?_
  refine HQ.keep [(0, _), (1, _), (4, _)] ⟨rfl, rfl, rfl, trivial⟩ ?_
  refine HQ.seq ?_
  refine HQ.rseq ?_
  refine HQ.pu Pu.move ⟨rfl, trivial⟩ rfl rfl rfl ?_
  refine HQ.pu (Pu.len ul45) ⟨rfl, trivial⟩ rfl rfl rfl ?_
  refine HQ.pu Pu.move ⟨rfl, trivial⟩ rfl rfl rfl ?_
  refine HQ.pu (Pu.len ul45) ⟨rfl, trivial⟩ rfl rfl rfl ?_
  refine HQ.pu Pu.neq ⟨rfl, rfl, trivial⟩ rfl rfl rfl ?_
  refine HQ.done ?_
  refine HQ.keep [(0, _), (1, _), (4, _), (10, _)] ⟨rfl, rfl, rfl, rfl, trivial⟩ ?_
  rcases brk H with ⟨hc, H⟩ | ⟨hc, H⟩
  · refine HQ.condT rfl hc ?_
    clear hc
    refine HQ.rseq ?_
    refine HQ.pu Pu.assign ⟨rfl, trivial⟩ rfl rfl rfl ?_
    refine HQ.done ?_
    refine HQ.keep [(0, _), (1, _), (4, _)] ⟨rfl, rfl, rfl, trivial⟩ ?_
    refine HQ.ret ?_
    refine HQ.thenR ?_
    obtain rfl := Option.some.inj H
    exact HQ.fin (vs := [_]) Try.results108 () ⟨rfl, trivial⟩ rfl [] trivial rfl
  · refine HQ.condF rfl hc ?_
    clear hc
    refine HQ.skipThen ?_
    refine HQ.seq ?_
    refine HQ.rseq ?_
    refine HQ.pu Pu.move ⟨rfl, trivial⟩ rfl rfl rfl ?_
    refine HQ.pu (Pu.len ul45) ⟨rfl, trivial⟩ rfl rfl rfl ?_
    refine HQ.pu Pu.move ⟨rfl, trivial⟩ rfl rfl rfl ?_
    refine HQ.done ?_
    refine HQ.keep [(0, _), (1, _), (4, _), (12, _), (13, _)] ⟨rfl, rfl, rfl, rfl, rfl, trivial⟩ ?_
    refine HQ.block ?_
    obtain ⟨o11, h13, H⟩ := bnd H
    refine HQ.loop h13 0 (fun (s : Int) (g : Unit) => match s, g with | i4, () => [(0, .slice a_0 (List.length p0) c_0), (1, .slice a_1 (List.length p1) c_1), (4, .bool false), (12, .int .i64 ((List.length p0 : Nat) : Int)), (13, .int .i64 i4)]) (fun (s : Int) (g : Unit) => match s, g with | i4, () => []) (fun r => bodyPost Try.prog Try.f108 (Rt w Nil (fun _ : Unit => .bool r) (fun _ => [])) .ret) () ⟨rfl, rfl, rfl, rfl, rfl, trivial⟩ trivial rfl ?_ ?_ ?_
    · clear H h13
      rintro i4 _ o H
      rw [slices_Equal_impl_Entry_impl_Entry_b0] at H
      refine HQ.keep [(0, _), (1, _), (4, _), (12, _), (13, _)] ⟨rfl, rfl, rfl, rfl, rfl, trivial⟩ ?_
      refine HQ.keepR [] trivial rfl ?_
      refine HQ.rseq ?_
      refine HQ.pu Pu.lss ⟨rfl, rfl, trivial⟩ rfl rfl rfl ?_
      refine HQ.done ?_
      refine HQ.keep [(0, _), (1, _), (4, _), (12, _), (13, _), (14, _)] ⟨rfl, rfl, rfl, rfl, rfl, rfl, trivial⟩ ?_
      refine HQ.seq ?_
      rcases brk H with ⟨hc, H⟩ | ⟨hc, H⟩
      · refine HQ.condT rfl hc ?_
        clear hc
        refine HQ.skipThen ?_
        refine HQ.seq ?_
        refine HQ.block ?_
        refine HQ.rseq ?_
        refine HQ.pu Pu.move ⟨rfl, trivial⟩ rfl rfl rfl ?_
        refine HQ.pu Pu.assign ⟨rfl, trivial⟩ rfl rfl rfl ?_
        refine HQ.done ?_
        refine HQ.keep [(0, _), (1, _), (4, _), (12, _), (13, _), (5, _)] ⟨rfl, rfl, rfl, rfl, rfl, rfl, trivial⟩ ?_
        obtain ⟨h9, H⟩ := asr H
        obtain ⟨h10, H⟩ := asr H
        refine HQ.drawS mixd [(0, .slice a_0 (List.length p0) c_0), (1, .slice a_1 (List.length p1) c_1), (4, .bool false), (12, .int .i64 ((List.length p0 : Nat) : Int)), (13, .int .i64 i4), (5, .int .i64 i4)] 8 [⟨[], [], []⟩, ⟨[], [], []⟩, ⟨[], [], [0, 1]⟩, ⟨[], [], [2]⟩, ⟨[], [], []⟩, ⟨[], [], []⟩, ⟨[], [], [4, 5]⟩, ⟨[], [], [6]⟩] [] (fun (g8 : Unit) => [.slice a_0 (List.length p0) c_0, .int .i64 i4, EP a_0 i4 5 0, .agg #[.int .i64 ((gt p0 i4).N), .int .i64 ((gt p0 i4).R.X0), .int .i64 ((gt p0 i4).R.Y0), .int .i64 ((gt p0 i4).R.X1), .int .i64 ((gt p0 i4).R.Y1)], .slice a_1 (List.length p1) c_1, .int .i64 i4, EP a_1 i4 5 0, .agg #[.int .i64 ((gt p1 i4).N), .int .i64 ((gt p1 i4).R.X0), .int .i64 ((gt p1 i4).R.Y0), .int .i64 ((gt p1 i4).R.X1), .int .i64 ((gt p1 i4).R.Y1)]]) (fun (g8 : Unit) => []) () [] [] [] ⟨rfl, rfl, rfl, rfl, rfl, rfl, trivial⟩ trivial rfl (by kernel_rfl) (fun _ => rfl) (by kernel_rfl) (fun _ => rfl) ⟨?_, ?_, ?_, ?_, ?_, ?_, ?_, ?_, trivial⟩ fun g8 => ?_
        · exact OpOK.of (fun g8 => [(.tmp 0, .slice a_0 (List.length p0) c_0)]) _ _ (fun g8 _ => g8) rfl rfl (fun _ => ⟨rfl, trivial⟩) (fun g8 => Pu.toOT Pu.move) (fun _ _ => ⟨rfl, rfl, trivial⟩)
        · exact OpOK.of (fun g8 => [(.tmp 5, .int .i64 i4)]) _ _ (fun g8 _ => g8) rfl rfl (fun _ => ⟨rfl, trivial⟩) (fun g8 => Pu.toOT Pu.move) (fun _ _ => ⟨rfl, rfl, trivial⟩)
        · exact OpOK.of (fun g8 => [(.tmp 16, .slice a_0 (List.length p0) c_0), (.tmp 17, .int .i64 i4)]) _ _ (fun g8 _ => g8) rfl rfl (fun _ => ⟨rfl, rfl, trivial⟩) (fun g8 => OT.indexB ul45 sz134 hb_0 h9) (fun _ _ => ⟨rfl, rfl, trivial⟩)
        · exact OpOK.of (fun g8 => [(.tmp 18, EP a_0 i4 5 0)]) _ _ (fun g8 _ => g8) rfl rfl (fun _ => ⟨rfl, trivial⟩) (fun g8 => OT.loadFA (vs := [.int .i64 ((gt p0 i4).N), .int .i64 ((gt p0 i4).R.X0), .int .i64 ((gt p0 i4).R.Y0), .int .i64 ((gt p0 i4).R.X1), .int .i64 ((gt p0 i4).R.Y1)]) ag134 sz134 hb_0 h9 rfl rfl) (fun _ _ => ⟨rfl, rfl, trivial⟩)
        · exact OpOK.of (fun g8 => [(.tmp 1, .slice a_1 (List.length p1) c_1)]) _ _ (fun g8 _ => g8) rfl rfl (fun _ => ⟨rfl, trivial⟩) (fun g8 => Pu.toOT Pu.move) (fun _ _ => ⟨rfl, rfl, trivial⟩)
        · exact OpOK.of (fun g8 => [(.tmp 5, .int .i64 i4)]) _ _ (fun g8 _ => g8) rfl rfl (fun _ => ⟨rfl, trivial⟩) (fun g8 => Pu.toOT Pu.move) (fun _ _ => ⟨rfl, rfl, trivial⟩)
        · exact OpOK.of (fun g8 => [(.tmp 20, .slice a_1 (List.length p1) c_1), (.tmp 21, .int .i64 i4)]) _ _ (fun g8 _ => g8) rfl rfl (fun _ => ⟨rfl, rfl, trivial⟩) (fun g8 => OT.indexB ul45 sz134 hb_1 h10) (fun _ _ => ⟨rfl, rfl, trivial⟩)
        · exact OpOK.of (fun g8 => [(.tmp 22, EP a_1 i4 5 0)]) _ _ (fun g8 _ => g8) rfl rfl (fun _ => ⟨rfl, trivial⟩) (fun g8 => OT.loadFA (vs := [.int .i64 ((gt p1 i4).N), .int .i64 ((gt p1 i4).R.X0), .int .i64 ((gt p1 i4).R.Y0), .int .i64 ((gt p1 i4).R.X1), .int .i64 ((gt p1 i4).R.Y1)]) ag134 sz134 hb_1 h10 rfl rfl) (fun _ _ => ⟨rfl, rfl, trivial⟩)
        refine HQ.keep [(0, _), (1, _), (4, _), (12, _), (13, _), (19, _), (23, _)] ⟨rfl, rfl, rfl, rfl, rfl, rfl, rfl, trivial⟩ ?_
        refine HQ.keepR [] trivial rfl ?_
        refine HQ.pu (Pu.neqT gq134 (eqa134 (gt p0 i4) (gt p1 i4)) rfl) ⟨rfl, rfl, trivial⟩ rfl rfl rfl ?_
        refine HQ.done ?_
        refine HQ.keep [(0, _), (1, _), (4, _), (12, _), (13, _), (24, _)] ⟨rfl, rfl, rfl, rfl, rfl, rfl, trivial⟩ ?_
        rcases brk H with ⟨hc, H⟩ | ⟨hc, H⟩
        · refine HQ.condT rfl hc ?_
          clear hc
          refine HQ.rseq ?_
          refine HQ.pu Pu.assign ⟨rfl, trivial⟩ rfl rfl rfl ?_
          refine HQ.done ?_
          refine HQ.keep [(0, _), (1, _), (4, _), (12, _), (13, _)] ⟨rfl, rfl, rfl, rfl, rfl, trivial⟩ ?_
          refine HQ.ret ?_
          refine HQ.blkR ?_
          refine HQ.thenR ?_
          obtain rfl := Option.some.inj H
          refine HQ.retL ?_
          exact HQ.fin (vs := [_]) Try.results108 () ⟨rfl, trivial⟩ rfl [] trivial rfl
        · refine HQ.condF rfl hc ?_
          clear hc
          refine HQ.skip ?_
          refine HQ.blkN ?_
          refine HQ.thenN ?_
          refine HQ.regionQ ?_
          refine HQ.pu Pu.add ⟨rfl, rfl, trivial⟩ rfl rfl rfl ?_
          refine HQ.pu Pu.move ⟨rfl, trivial⟩ rfl rfl rfl ?_
          refine HQ.done ?_
          refine HQ.keep [(0, _), (1, _), (4, _), (12, _), (13, _)] ⟨rfl, rfl, rfl, rfl, rfl, trivial⟩ ?_
          obtain rfl := Option.some.inj H
          exact HQ.next () ⟨rfl, rfl, rfl, rfl, rfl, trivial⟩ trivial rfl
      · refine HQ.condF rfl hc ?_
        clear hc
        refine HQ.exit ?_
        refine HQ.thenE ?_
        obtain rfl := Option.some.inj H
        exact HQ.out () ⟨rfl, rfl, rfl, rfl, rfl, trivial⟩ trivial rfl
    · rintro i12 rfl _
      clear h13
      replace H := H
      refine HQ.keep [(0, _), (1, _), (4, _), (12, _), (13, _)] ⟨rfl, rfl, rfl, rfl, rfl, trivial⟩ ?_
      refine HQ.keepR [] trivial rfl ?_
      refine HQ.blkE ?_
      refine HQ.thenN ?_
      refine HQ.rseq ?_
      refine HQ.pu Pu.assign ⟨rfl, trivial⟩ rfl rfl rfl ?_
      refine HQ.done ?_
      refine HQ.keep [(4, _)] ⟨rfl, trivial⟩ ?_
      refine HQ.ret ?_
      obtain rfl := Option.some.inj H
      exact HQ.fin (vs := [_]) Try.results108 () ⟨rfl, trivial⟩ rfl [] trivial rfl
    · rintro r rfl a w hr
      obtain rfl := Option.some.inj H
      exact hr

/-! impl.SameNode -/
theorem impl_SameNode_c {w : World} {k : Nat} {p0 : TNode} {p1 : TNode} {a_0 : Option Addr} {c_0 : Nat} {a_1 : Option Addr} {c_1 : Nat} (hb_0 : BorS kTEntry a_0 c_0 p0.L w.heap (Lt w Nil)) (hb_1 : BorS kTEntry a_1 c_1 p1.L w.heap (Lt w Nil)) {r : Bool} (H : impl_SameNode k p0 p1 = some r) :
    Calls Try.prog 37 #[.agg #[.bool p0.Leaf, .slice a_0 (List.length p0.L) c_0], .agg #[.bool p1.Leaf, .slice a_1 (List.length p1.L) c_1]] w (Rt w Nil (fun _ : Unit => .bool r) (fun _ => [])) := by
  rw [impl_SameNode] at H
  refine Calls.enter0 (N := 17) (us := [_, _]) Try.func37 rfl rfl rfl ?_
  refine HQ.rseq ?_
  refine HQ.op [] [1] (OT.box (cs := [.bool p0.Leaf, .slice a_0 (List.length p0.L) c_0]) rfl) ⟨rfl, trivial⟩ trivial rfl rfl rfl rfl (fun _ => rfl) fun b1 => ?_
  refine HQ.op [] [2] (OT.box (cs := [.bool p1.Leaf, .slice a_1 (List.length p1.L) c_1]) rfl) ⟨rfl, trivial⟩ trivial rfl rfl rfl rfl (fun _ => rfl) fun b2 => ?_
  refine HQ.pu Pu.assign ⟨rfl, trivial⟩ rfl rfl rfl ?_
  refine HQ.done ?_
  refine HQ.keep [(2, _), (3, _), (4, _)] ⟨rfl, rfl, rfl, trivial⟩ ?_
  refine HQ.rseq ?_
  refine HQ.pu (Pu.fieldB fo47_0 rfl) ⟨rfl, trivial⟩ rfl rfl rfl ?_
  refine HQ.op [1] [1] (OT.loadB sc4 rfl) ⟨rfl, trivial⟩ ⟨rfl, trivial⟩ rfl rfl rfl rfl (fun _ => rfl) fun _ => ?_
  refine HQ.pu (Pu.fieldB fo47_0 rfl) ⟨rfl, trivial⟩ rfl rfl rfl ?_
  refine HQ.op [2] [2] (OT.loadB sc4 rfl) ⟨rfl, trivial⟩ ⟨rfl, trivial⟩ rfl rfl rfl rfl (fun _ => rfl) fun _ => ?_
  refine HQ.pu (Pu.eqlB ul4) ⟨rfl, rfl, trivial⟩ rfl rfl rfl ?_
  refine HQ.pu Pu.move ⟨rfl, trivial⟩ rfl rfl rfl ?_
  obtain ⟨c6, h7, H⟩ := bnd H
  refine HQ.cutAt 6 [(16, .bool c6), (4, .bool false)] [(1, Box b1 [.bool p0.Leaf, .slice a_0 (List.length p0.L) c_0]), (2, Box b2 [.bool p1.Leaf, .slice a_1 (List.length p1.L) c_1])] ?_ ?_
  · clear H
    have H := h7
    rcases brk H with ⟨hg3, H⟩ | ⟨hg3, H⟩
    · refine HQ.on rfl rfl hg3 ?_
      refine HQ.pu (Pu.fieldB fo47_1 rfl) ⟨rfl, trivial⟩ rfl rfl rfl ?_
      refine HQ.on rfl rfl hg3 ?_
      refine HQ.op [1] [1] (OT.loadB sc45 rfl) ⟨rfl, trivial⟩ ⟨rfl, trivial⟩ rfl rfl rfl rfl (fun _ => rfl) fun _ => ?_
      refine HQ.on rfl rfl hg3 ?_
      refine HQ.pu (Pu.fieldB fo47_1 rfl) ⟨rfl, trivial⟩ rfl rfl rfl ?_
      refine HQ.on rfl rfl hg3 ?_
      refine HQ.op [2] [2] (OT.loadB sc45 rfl) ⟨rfl, trivial⟩ ⟨rfl, trivial⟩ rfl rfl rfl rfl (fun _ => rfl) fun _ => ?_
      refine HQ.on rfl rfl hg3 ?_
      obtain ⟨t4, h5, H⟩ := bnd H
      refine HQ.op [] [] (OT.call (us := [_, _]) (Pre := []) [.tmp 12, .tmp 14] Try.call108 rfl rfl fun w F hs hF hp => slices_Equal_impl_Entry_impl_Entry_c (hb_0.pass hp) (hb_1.pass hp) h5) ⟨rfl, rfl, rfl, trivial⟩ trivial rfl rfl rfl rfl (fun _ => rfl) fun _ => ?_
      obtain rfl := Option.some.inj H
      refine HQ.pu (Pu.pickC1 hg3) ⟨rfl, rfl, trivial⟩ rfl rfl rfl ?_
      exact HQ.mid ⟨rfl, rfl, trivial⟩ ⟨rfl, rfl, trivial⟩ rfl
    · obtain rfl := Option.some.inj H
      refine HQ.off rfl rfl hg3 rfl ?_
      refine HQ.off rfl rfl hg3 rfl ?_
      refine HQ.off rfl rfl hg3 rfl ?_
      refine HQ.off rfl rfl hg3 rfl ?_
      refine HQ.off rfl rfl hg3 rfl ?_
      refine HQ.pu (Pu.pickC0 hg3) ⟨rfl, rfl, trivial⟩ rfl rfl rfl ?_
      exact HQ.mid ⟨rfl, rfl, trivial⟩ ⟨rfl, rfl, trivial⟩ rfl
  refine HQ.pu Pu.assign ⟨rfl, trivial⟩ rfl rfl rfl ?_
  refine HQ.done ?_
  refine HQ.keep [(4, _)] ⟨rfl, trivial⟩ ?_
  refine HQ.ret ?_
  obtain rfl := Option.some.inj H
  exact HQ.fin (vs := [_]) Try.results37 () ⟨rfl, trivial⟩ rfl [] trivial rfl

end Go.Proofs.Sx
