import Derived.Test.YtgfhnepkpbmbcaaEF1
import Derived.KernelRfl
namespace Go.Proofs.Sx
open Go.RowKit
set_option linter.unusedVariables false
set_option linter.unusedSimpArgs false
set_option maxRecDepth 20000
set_option maxHeartbeats 1000000
/-! spec.EntryAt -/
theorem spec_EntryAt_c {w : World} {k : Nat} {p0 : (List TEntry)} {p1 : Int} {a_0 : Option Addr} {c_0 : Nat} (hb_0 : BorS kTEntry a_0 c_0 p0 w.heap (Lt w Nil)) {r : Int} (H : spec_EntryAt k p0 p1 = some r) :
    Calls Try.prog 182 #[.slice a_0 (List.length p0) c_0, .int .i64 p1] w (Rt w Nil (fun _ : Unit => .int .i64 r) (fun _ => [])) := by
  rw [spec_EntryAt] at H
  refine Calls.enter0 (N := 20) (us := [_, _]) Try.func182 rfl rfl rfl ?_
  refine HQ.rseq ?_
  refine HQ.pu Pu.assign ⟨rfl, trivial⟩ rfl rfl rfl ?_
  refine HQ.done ?_
  refine HQ.keep [(0, _), (1, _), (4, _)] ⟨rfl, rfl, rfl, trivial⟩ ?_
  refine HQ.seq ?_
  refine HQ.rseq ?_
  refine HQ.pu Pu.assign ⟨rfl, trivial⟩ rfl rfl rfl ?_
  refine HQ.done ?_
  refine HQ.keep [(0, _), (1, _), (4, _), (5, _)] ⟨rfl, rfl, rfl, rfl, trivial⟩ ?_
  refine HQ.block ?_
  obtain ⟨o5, h7, H⟩ := bnd H
  refine HQ.loop h7 0 (fun (s : Int) (g : Unit) => match s, g with | i2, () => [(0, .slice a_0 (List.length p0) c_0), (1, .int .i64 p1), (4, .int .i64 0), (5, .int .i64 i2)]) (fun (s : Int) (g : Unit) => match s, g with | i2, () => []) (fun r => bodyPost Try.prog Try.f182 (Rt w Nil (fun _ : Unit => .int .i64 r) (fun _ => [])) .ret) () ⟨rfl, rfl, rfl, rfl, trivial⟩ trivial rfl ?_ ?_ ?_
  · clear H h7
    rintro i2 _ o H
    rw [spec_EntryAt_b0] at H
    refine HQ.keep [(0, _), (1, _), (4, _), (5, _)] ⟨rfl, rfl, rfl, rfl, trivial⟩ ?_
    refine HQ.keepR [] trivial rfl ?_
    refine HQ.seq ?_
    refine HQ.rseq ?_
    refine HQ.pu Pu.move ⟨rfl, trivial⟩ rfl rfl rfl ?_
    refine HQ.pu Pu.move ⟨rfl, trivial⟩ rfl rfl rfl ?_
    refine HQ.pu (Pu.len ul77) ⟨rfl, trivial⟩ rfl rfl rfl ?_
    refine HQ.pu Pu.lss ⟨rfl, rfl, trivial⟩ rfl rfl rfl ?_
    refine HQ.done ?_
    refine HQ.keep [(0, _), (1, _), (4, _), (5, _), (6, _), (7, _), (8, _), (9, _)] ⟨rfl, rfl, rfl, rfl, rfl, rfl, rfl, rfl, trivial⟩ ?_
    rcases brk H with ⟨hc, H⟩ | ⟨hc, H⟩
    · refine HQ.condT rfl hc ?_
      clear hc
      refine HQ.skipThen ?_
      refine HQ.seq ?_
      refine HQ.block ?_
      refine HQ.rseq ?_
      refine HQ.pu Pu.move ⟨rfl, trivial⟩ rfl rfl rfl ?_
      refine HQ.pu Pu.move ⟨rfl, trivial⟩ rfl rfl rfl ?_
      obtain ⟨h4, H⟩ := asr H
      refine HQ.op [] [] (OT.indexB ul77 sz196 hb_0 h4) ⟨rfl, rfl, trivial⟩ trivial rfl rfl rfl rfl (fun _ => rfl) fun _ => ?_
      refine HQ.pu (Pu.fieldE fo196_0 rfl) ⟨rfl, trivial⟩ rfl rfl rfl ?_
      refine HQ.op [] [] (OT.loadF sc3 hb_0 h4 rfl) ⟨rfl, trivial⟩ trivial rfl rfl rfl rfl (fun _ => rfl) fun _ => ?_
      refine HQ.pu Pu.move ⟨rfl, trivial⟩ rfl rfl rfl ?_
      refine HQ.pu Pu.eql ⟨rfl, rfl, trivial⟩ rfl rfl rfl ?_
      refine HQ.done ?_
      refine HQ.keep [(0, _), (1, _), (4, _), (5, _), (6, _), (7, _), (8, _), (9, _), (12, _), (13, _), (14, _), (15, _), (16, _), (17, _), (18, _)] ⟨rfl, rfl, rfl, rfl, rfl, rfl, rfl, rfl, rfl, rfl, rfl, rfl, rfl, rfl, rfl, trivial⟩ ?_
      rcases brk H with ⟨hc, H⟩ | ⟨hc, H⟩
      · refine HQ.condT rfl hc ?_
        clear hc
        refine HQ.rseq ?_
        refine HQ.pu Pu.move ⟨rfl, trivial⟩ rfl rfl rfl ?_
        refine HQ.pu Pu.assign ⟨rfl, trivial⟩ rfl rfl rfl ?_
        refine HQ.done ?_
        refine HQ.keep [(0, _), (1, _), (4, _), (5, _), (6, _), (7, _), (8, _), (9, _), (12, _), (13, _), (14, _), (15, _), (16, _), (17, _), (18, _), (19, _)] ⟨rfl, rfl, rfl, rfl, rfl, rfl, rfl, rfl, rfl, rfl, rfl, rfl, rfl, rfl, rfl, rfl, trivial⟩ ?_
        refine HQ.ret ?_
        refine HQ.blkR ?_
        refine HQ.thenR ?_
        obtain rfl := Option.some.inj H
        refine HQ.retL ?_
        exact HQ.fin (vs := [_]) Try.results182 () ⟨rfl, trivial⟩ rfl [] trivial rfl
      · refine HQ.condF rfl hc ?_
        clear hc
        refine HQ.skip ?_
        refine HQ.blkN ?_
        refine HQ.thenN ?_
        refine HQ.regionQ ?_
        refine HQ.pu Pu.move ⟨rfl, trivial⟩ rfl rfl rfl ?_
        refine HQ.pu Pu.add ⟨rfl, rfl, trivial⟩ rfl rfl rfl ?_
        refine HQ.pu Pu.assign ⟨rfl, trivial⟩ rfl rfl rfl ?_
        refine HQ.done ?_
        refine HQ.keep [(0, _), (1, _), (4, _), (5, _), (6, _), (7, _), (8, _), (9, _), (12, _), (13, _), (14, _), (15, _), (16, _), (17, _), (18, _), (10, _), (11, _)] ⟨rfl, rfl, rfl, rfl, rfl, rfl, rfl, rfl, rfl, rfl, rfl, rfl, rfl, rfl, rfl, rfl, rfl, trivial⟩ ?_
        obtain rfl := Option.some.inj H
        exact HQ.next () ⟨rfl, rfl, rfl, rfl, trivial⟩ trivial rfl
    · refine HQ.condF rfl hc ?_
      clear hc
      refine HQ.exit ?_
      refine HQ.thenE ?_
      obtain rfl := Option.some.inj H
      exact HQ.out () ⟨rfl, rfl, rfl, rfl, trivial⟩ trivial rfl
  · rintro i6 rfl _
    clear h7
    replace H := H
    refine HQ.keep [(0, _), (1, _), (4, _), (5, _)] ⟨rfl, rfl, rfl, rfl, trivial⟩ ?_
    refine HQ.keepR [] trivial rfl ?_
    refine HQ.blkE ?_
    refine HQ.thenN ?_
    refine HQ.rseq ?_
    refine HQ.pu Pu.assign ⟨rfl, trivial⟩ rfl rfl rfl ?_
    refine HQ.done ?_
    refine HQ.keep [(4, _)] ⟨rfl, trivial⟩ ?_
    refine HQ.ret ?_
    obtain rfl := Option.some.inj H
    exact HQ.fin (vs := [_]) Try.results182 () ⟨rfl, trivial⟩ rfl [] trivial rfl
  · rintro r rfl a w hr
    obtain rfl := Option.some.inj H
    exact hr

/-! spec.NodeOk -/
theorem spec_NodeOk_c {w : World} {k : Nat} {p0 : TNode} {a_0 : Option Addr} {c_0 : Nat} (hb_0 : BorS kTEntry a_0 c_0 p0.L w.heap (Lt w Nil)) {r : Bool} (H : spec_NodeOk k p0 = some r) :
    Calls Try.prog 158 #[.agg #[.bool p0.Leaf, .slice a_0 (List.length p0.L) c_0]] w (Rt w Nil (fun _ : Unit => .bool r) (fun _ => [])) := by
  rw [spec_NodeOk] at H
  refine Calls.enter0 (N := 65) (us := [_]) Try.func158 rfl rfl rfl ?_
  refine HQ.rseq ?_
  refine HQ.op [] [1] (OT.box (cs := [.bool p0.Leaf, .slice a_0 (List.length p0.L) c_0]) rfl) ⟨rfl, trivial⟩ trivial rfl rfl rfl rfl (fun _ => rfl) fun b1 => ?_
  refine HQ.pu Pu.assign ⟨rfl, trivial⟩ rfl rfl rfl ?_
  refine HQ.done ?_
  refine HQ.keep [(1, _), (2, _)] ⟨rfl, rfl, trivial⟩ ?_
  refine HQ.seq ?_
  refine HQ.rseq ?_
  refine HQ.pu Pu.assign ⟨rfl, trivial⟩ rfl rfl rfl ?_
  refine HQ.done ?_
  refine HQ.keep [(1, _), (2, _), (3, _)] ⟨rfl, rfl, rfl, trivial⟩ ?_
  refine HQ.block ?_
  obtain ⟨o78, h82, H⟩ := bnd H
  refine HQ.loop h82 0 (fun (s : Int) (g : Unit) => match s, g with | i27, () => [(1, BP b1 0), (2, .bool false), (3, .int .i64 i27)]) (fun (s : Int) (g : Unit) => match s, g with | i27, () => [(1, Box b1 [.bool p0.Leaf, .slice a_0 (List.length p0.L) c_0])]) (fun r => bodyPost Try.prog Try.f158 (Rt w Nil (fun _ : Unit => .bool r) (fun _ => [])) .ret) () ⟨rfl, rfl, rfl, trivial⟩ ⟨rfl, trivial⟩ rfl ?_ ?_ ?_
  · clear H h82
    rintro i27 _ o H
    rw [spec_NodeOk_b0] at H
    refine HQ.keep [(1, _), (2, _), (3, _)] ⟨rfl, rfl, rfl, trivial⟩ ?_
    refine HQ.keepR [(1, _)] ⟨rfl, trivial⟩ rfl ?_
    refine HQ.seq ?_
    refine HQ.rseq ?_
    refine HQ.pu Pu.move ⟨rfl, trivial⟩ rfl rfl rfl ?_
    refine HQ.pu (Pu.fieldB fo79_1 rfl) ⟨rfl, trivial⟩ rfl rfl rfl ?_
    refine HQ.op [1] [1] (OT.loadB sc77 rfl) ⟨rfl, trivial⟩ ⟨rfl, trivial⟩ rfl rfl rfl rfl (fun _ => rfl) fun _ => ?_
    refine HQ.pu (Pu.len ul77) ⟨rfl, trivial⟩ rfl rfl rfl ?_
    refine HQ.pu Pu.lss ⟨rfl, rfl, trivial⟩ rfl rfl rfl ?_
    refine HQ.done ?_
    refine HQ.keep [(1, _), (2, _), (3, _), (5, _), (6, _), (7, _), (8, _), (9, _)] ⟨rfl, rfl, rfl, rfl, rfl, rfl, rfl, rfl, trivial⟩ ?_
    rcases brk H with ⟨hc, H⟩ | ⟨hc, H⟩
    · refine HQ.condT rfl hc ?_
      clear hc
      refine HQ.skipThen ?_
      refine HQ.seq ?_
      refine HQ.block ?_
      refine HQ.rseq ?_
      refine HQ.pu (Pu.fieldB fo79_1 rfl) ⟨rfl, trivial⟩ rfl rfl rfl ?_
      refine HQ.op [1] [1] (OT.loadB sc77 rfl) ⟨rfl, trivial⟩ ⟨rfl, trivial⟩ rfl rfl rfl rfl (fun _ => rfl) fun _ => ?_
      refine HQ.pu Pu.move ⟨rfl, trivial⟩ rfl rfl rfl ?_
      obtain ⟨h53, H⟩ := asr H
      refine HQ.op [] [] (OT.indexB ul77 sz196 hb_0 h53) ⟨rfl, rfl, trivial⟩ trivial rfl rfl rfl rfl (fun _ => rfl) fun _ => ?_
      refine HQ.op [] [] (OT.loadFA (vs := [.int .i64 ((gt p0.L i27).N), .int .i64 ((gt p0.L i27).R.X0), .int .i64 ((gt p0.L i27).R.Y0), .int .i64 ((gt p0.L i27).R.X1), .int .i64 ((gt p0.L i27).R.Y1)]) ag196 sz196 hb_0 h53 rfl rfl) ⟨rfl, trivial⟩ trivial rfl rfl rfl rfl (fun _ => rfl) fun _ => ?_
      refine HQ.op [] [4] (OT.alloc zc196) trivial trivial rfl rfl rfl rfl (fun _ => rfl) fun b54 => ?_
      refine HQ.opN [4] [4] [] (OT.storeC (cs' := [.int .i64 ((gt p0.L i27).N), .int .i64 ((gt p0.L i27).R.X0), .int .i64 ((gt p0.L i27).R.Y0), .int .i64 ((gt p0.L i27).R.X1), .int .i64 ((gt p0.L i27).R.Y1)]) sz196 rfl rfl rfl rfl rfl) ⟨rfl, rfl, trivial⟩ ⟨rfl, trivial⟩ rfl rfl rfl (fun _ => rfl) fun _ => ?_
      refine HQ.done ?_
      refine HQ.keep [(1, _), (2, _), (3, _), (5, _), (6, _), (7, _), (8, _), (9, _), (12, _), (13, _), (14, _), (15, _), (16, _), (4, _)] ⟨rfl, rfl, rfl, rfl, rfl, rfl, rfl, rfl, rfl, rfl, rfl, rfl, rfl, rfl, trivial⟩ ?_
      refine HQ.rseq ?_
      refine HQ.pu (Pu.fieldB fo196_1 rfl) ⟨rfl, trivial⟩ rfl rfl rfl ?_
      refine HQ.op [4] [4] (OT.loadBA (vs := [.int .i64 ((gt p0.L i27).R.X0), .int .i64 ((gt p0.L i27).R.Y0), .int .i64 ((gt p0.L i27).R.X1), .int .i64 ((gt p0.L i27).R.Y1)]) ag194 sz194 rfl rfl) ⟨rfl, trivial⟩ ⟨rfl, trivial⟩ rfl rfl rfl rfl (fun _ => rfl) fun _ => ?_
      obtain ⟨t55, h56, H⟩ := bnd H
      refine HQ.op [] [] (OT.call (us := [_]) (Pre := []) [.tmp 18] Try.call181 rfl rfl fun w F hs hF hp => spec_BoxOk_c h56) ⟨rfl, rfl, trivial⟩ trivial rfl rfl rfl rfl (fun _ => rfl) fun _ => ?_
      refine HQ.pu Pu.not ⟨rfl, trivial⟩ rfl rfl rfl ?_
      refine HQ.pu Pu.move ⟨rfl, trivial⟩ rfl rfl rfl ?_
      obtain ⟨c60, h61, H⟩ := bnd H
      refine HQ.cutAt 8 [(29, .bool c60), (1, BP b1 0), (2, .bool false), (3, .int .i64 i27), (5, .int .i64 i27), (6, BP b1 1), (7, .slice a_0 (List.length p0.L) c_0), (8, .int .i64 ((List.length p0.L : Nat) : Int)), (9, .bool (decide (i27 < ((List.length p0.L : Nat) : Int)))), (12, BP b1 1), (13, .slice a_0 (List.length p0.L) c_0), (14, .int .i64 i27), (15, EP a_0 i27 5 0), (16, .agg #[.int .i64 ((gt p0.L i27).N), .int .i64 ((gt p0.L i27).R.X0), .int .i64 ((gt p0.L i27).R.Y0), .int .i64 ((gt p0.L i27).R.X1), .int .i64 ((gt p0.L i27).R.Y1)]), (4, BP b54 0), (17, BP b54 1), (18, .agg #[.int .i64 ((gt p0.L i27).R.X0), .int .i64 ((gt p0.L i27).R.Y0), .int .i64 ((gt p0.L i27).R.X1), .int .i64 ((gt p0.L i27).R.Y1)]), (19, .bool t55), (20, .bool (!t55)), (21, .bool (!t55))] [(1, Box b1 [.bool p0.Leaf, .slice a_0 (List.length p0.L) c_0]), (4, Box b54 [.int .i64 ((gt p0.L i27).N), .int .i64 ((gt p0.L i27).R.X0), .int .i64 ((gt p0.L i27).R.Y0), .int .i64 ((gt p0.L i27).R.X1), .int .i64 ((gt p0.L i27).R.Y1)])] ?_ ?_
      · clear H
        have H := h61
        rcases brk H with ⟨hg57, H⟩ | ⟨hg57, H⟩
        · obtain rfl := Option.some.inj H
          refine HQ.off rfl rfl hg57 rfl ?_
          refine HQ.off rfl rfl hg57 rfl ?_
          refine HQ.off rfl rfl hg57 rfl ?_
          refine HQ.off rfl rfl hg57 rfl ?_
          refine HQ.off rfl rfl hg57 rfl ?_
          refine HQ.off rfl rfl hg57 rfl ?_
          refine HQ.off rfl rfl hg57 rfl ?_
          refine HQ.pu (Pu.pickC1 hg57) ⟨rfl, rfl, trivial⟩ rfl rfl rfl ?_
          exact HQ.mid ⟨rfl, rfl, rfl, rfl, rfl, rfl, rfl, rfl, rfl, rfl, rfl, rfl, rfl, rfl, rfl, rfl, rfl, rfl, rfl, rfl, trivial⟩ ⟨rfl, rfl, trivial⟩ rfl
        · refine HQ.on rfl rfl hg57 ?_
          refine HQ.pu (Pu.fieldB fo79_1 rfl) ⟨rfl, trivial⟩ rfl rfl rfl ?_
          refine HQ.on rfl rfl hg57 ?_
          refine HQ.op [1] [1] (OT.loadB sc77 rfl) ⟨rfl, trivial⟩ ⟨rfl, trivial⟩ rfl rfl rfl rfl (fun _ => rfl) fun _ => ?_
          refine HQ.on rfl rfl hg57 ?_
          refine HQ.pu (Pu.fieldB fo196_0 rfl) ⟨rfl, trivial⟩ rfl rfl rfl ?_
          refine HQ.on rfl rfl hg57 ?_
          refine HQ.op [4] [4] (OT.loadB sc3 rfl) ⟨rfl, trivial⟩ ⟨rfl, trivial⟩ rfl rfl rfl rfl (fun _ => rfl) fun _ => ?_
          refine HQ.on rfl rfl hg57 ?_
          obtain ⟨t58, h59, H⟩ := bnd H
          refine HQ.op [] [] (OT.call (us := [_, _]) (Pre := []) [.tmp 23, .tmp 25] Try.call182 rfl rfl fun w F hs hF hp => spec_EntryAt_c (hb_0.pass hp) h59) ⟨rfl, rfl, rfl, trivial⟩ trivial rfl rfl rfl rfl (fun _ => rfl) fun _ => ?_
          refine HQ.on rfl rfl hg57 ?_
          refine HQ.pu Pu.move ⟨rfl, trivial⟩ rfl rfl rfl ?_
          refine HQ.on rfl rfl hg57 ?_
          refine HQ.pu Pu.neq ⟨rfl, rfl, trivial⟩ rfl rfl rfl ?_
          obtain rfl := Option.some.inj H
          refine HQ.pu (Pu.pickC0 hg57) ⟨rfl, rfl, trivial⟩ rfl rfl rfl ?_
          exact HQ.mid ⟨rfl, rfl, rfl, rfl, rfl, rfl, rfl, rfl, rfl, rfl, rfl, rfl, rfl, rfl, rfl, rfl, rfl, rfl, rfl, rfl, trivial⟩ ⟨rfl, rfl, trivial⟩ rfl
      refine HQ.pu Pu.move ⟨rfl, trivial⟩ rfl rfl rfl ?_
      obtain ⟨c68, h69, H⟩ := bnd H
      refine HQ.cutAt 9 [(39, .bool c68), (29, .bool c60), (1, BP b1 0), (2, .bool false), (3, .int .i64 i27), (5, .int .i64 i27), (6, BP b1 1), (7, .slice a_0 (List.length p0.L) c_0), (8, .int .i64 ((List.length p0.L : Nat) : Int)), (9, .bool (decide (i27 < ((List.length p0.L : Nat) : Int)))), (12, BP b1 1), (13, .slice a_0 (List.length p0.L) c_0), (14, .int .i64 i27), (15, EP a_0 i27 5 0), (16, .agg #[.int .i64 ((gt p0.L i27).N), .int .i64 ((gt p0.L i27).R.X0), .int .i64 ((gt p0.L i27).R.Y0), .int .i64 ((gt p0.L i27).R.X1), .int .i64 ((gt p0.L i27).R.Y1)]), (4, BP b54 0), (17, BP b54 1), (18, .agg #[.int .i64 ((gt p0.L i27).R.X0), .int .i64 ((gt p0.L i27).R.Y0), .int .i64 ((gt p0.L i27).R.X1), .int .i64 ((gt p0.L i27).R.Y1)]), (19, .bool t55), (20, .bool (!t55)), (21, .bool (!t55)), (30, .bool c60)] [(1, Box b1 [.bool p0.Leaf, .slice a_0 (List.length p0.L) c_0]), (4, Box b54 [.int .i64 ((gt p0.L i27).N), .int .i64 ((gt p0.L i27).R.X0), .int .i64 ((gt p0.L i27).R.Y0), .int .i64 ((gt p0.L i27).R.X1), .int .i64 ((gt p0.L i27).R.Y1)])] ?_ ?_
      · clear H
        have H := h69
        rcases brk H with ⟨hg62, H⟩ | ⟨hg62, H⟩
        · obtain rfl := Option.some.inj H
          refine HQ.off rfl rfl hg62 rfl ?_
          refine HQ.off rfl rfl hg62 rfl ?_
          refine HQ.off rfl rfl hg62 rfl ?_
          refine HQ.offU rfl rfl rfl ?_
          refine HQ.offU rfl rfl rfl ?_
          refine HQ.offU rfl rfl rfl ?_
          refine HQ.offU rfl rfl rfl ?_
          refine HQ.off rfl rfl hg62 rfl ?_
          refine HQ.pu (Pu.pickC1 hg62) ⟨rfl, rfl, trivial⟩ rfl rfl rfl ?_
          exact HQ.mid ⟨rfl, rfl, rfl, rfl, rfl, rfl, rfl, rfl, rfl, rfl, rfl, rfl, rfl, rfl, rfl, rfl, rfl, rfl, rfl, rfl, rfl, rfl, trivial⟩ ⟨rfl, rfl, trivial⟩ rfl
        · refine HQ.on rfl rfl hg62 ?_
          refine HQ.pu (Pu.fieldB fo79_0 rfl) ⟨rfl, trivial⟩ rfl rfl rfl ?_
          refine HQ.on rfl rfl hg62 ?_
          refine HQ.op [1] [1] (OT.loadB sc4 rfl) ⟨rfl, trivial⟩ ⟨rfl, trivial⟩ rfl rfl rfl rfl (fun _ => rfl) fun _ => ?_
          refine HQ.on rfl rfl hg62 ?_
          refine HQ.pu Pu.move ⟨rfl, trivial⟩ rfl rfl rfl ?_
          obtain ⟨c66, h67, H⟩ := bnd H
          refine HQ.cutAt 5 [(38, .bool c66), (29, .bool c60), (1, BP b1 0), (2, .bool false), (3, .int .i64 i27), (5, .int .i64 i27), (6, BP b1 1), (7, .slice a_0 (List.length p0.L) c_0), (8, .int .i64 ((List.length p0.L : Nat) : Int)), (9, .bool (decide (i27 < ((List.length p0.L : Nat) : Int)))), (12, BP b1 1), (13, .slice a_0 (List.length p0.L) c_0), (14, .int .i64 i27), (15, EP a_0 i27 5 0), (16, .agg #[.int .i64 ((gt p0.L i27).N), .int .i64 ((gt p0.L i27).R.X0), .int .i64 ((gt p0.L i27).R.Y0), .int .i64 ((gt p0.L i27).R.X1), .int .i64 ((gt p0.L i27).R.Y1)]), (4, BP b54 0), (17, BP b54 1), (18, .agg #[.int .i64 ((gt p0.L i27).R.X0), .int .i64 ((gt p0.L i27).R.Y0), .int .i64 ((gt p0.L i27).R.X1), .int .i64 ((gt p0.L i27).R.Y1)]), (19, .bool t55), (20, .bool (!t55)), (21, .bool (!t55)), (30, .bool c60), (31, BP b1 0), (32, .bool p0.Leaf), (33, .bool p0.Leaf)] [(1, Box b1 [.bool p0.Leaf, .slice a_0 (List.length p0.L) c_0]), (4, Box b54 [.int .i64 ((gt p0.L i27).N), .int .i64 ((gt p0.L i27).R.X0), .int .i64 ((gt p0.L i27).R.Y0), .int .i64 ((gt p0.L i27).R.X1), .int .i64 ((gt p0.L i27).R.Y1)])] ?_ ?_
          · clear H
            have H := h67
            rcases brk H with ⟨hg63, H⟩ | ⟨hg63, H⟩
            · refine HQ.on rfl rfl hg63 ?_
              refine HQ.pu (Pu.fieldB fo196_0 rfl) ⟨rfl, trivial⟩ rfl rfl rfl ?_
              refine HQ.on rfl rfl hg63 ?_
              refine HQ.op [4] [4] (OT.loadB sc3 rfl) ⟨rfl, trivial⟩ ⟨rfl, trivial⟩ rfl rfl rfl rfl (fun _ => rfl) fun _ => ?_
              refine HQ.on rfl rfl hg63 ?_
              obtain ⟨t64, h65, H⟩ := bnd H
              refine HQ.op [] [] (OT.call (us := [_, _, _]) (Pre := []) [.tmp 35, .const (.int .i64 1), .const (.int .i64 999)] Try.call85 rfl rfl fun w F hs hF hp => spec_l1In_c h65) ⟨rfl, rfl, rfl, rfl, trivial⟩ trivial rfl rfl rfl rfl (fun _ => rfl) fun _ => ?_
              refine HQ.on rfl rfl hg63 ?_
              refine HQ.pu Pu.not ⟨rfl, trivial⟩ rfl rfl rfl ?_
              obtain rfl := Option.some.inj H
              refine HQ.on rfl rfl hg62 ?_
              refine HQ.pu (Pu.pickC1 hg63) ⟨rfl, rfl, trivial⟩ rfl rfl rfl ?_
              exact HQ.mid ⟨rfl, rfl, rfl, rfl, rfl, rfl, rfl, rfl, rfl, rfl, rfl, rfl, rfl, rfl, rfl, rfl, rfl, rfl, rfl, rfl, rfl, rfl, rfl, rfl, rfl, trivial⟩ ⟨rfl, rfl, trivial⟩ rfl
            · obtain rfl := Option.some.inj H
              refine HQ.off rfl rfl hg63 rfl ?_
              refine HQ.off rfl rfl hg63 rfl ?_
              refine HQ.off rfl rfl hg63 rfl ?_
              refine HQ.off rfl rfl hg63 rfl ?_
              refine HQ.on rfl rfl hg62 ?_
              refine HQ.pu (Pu.pickC0 hg63) ⟨rfl, rfl, trivial⟩ rfl rfl rfl ?_
              exact HQ.mid ⟨rfl, rfl, rfl, rfl, rfl, rfl, rfl, rfl, rfl, rfl, rfl, rfl, rfl, rfl, rfl, rfl, rfl, rfl, rfl, rfl, rfl, rfl, rfl, rfl, rfl, trivial⟩ ⟨rfl, rfl, trivial⟩ rfl
          obtain rfl := Option.some.inj H
          refine HQ.pu (Pu.pickC0 hg62) ⟨rfl, rfl, trivial⟩ rfl rfl rfl ?_
          exact HQ.mid ⟨rfl, rfl, rfl, rfl, rfl, rfl, rfl, rfl, rfl, rfl, rfl, rfl, rfl, rfl, rfl, rfl, rfl, rfl, rfl, rfl, rfl, rfl, trivial⟩ ⟨rfl, rfl, trivial⟩ rfl
      refine HQ.pu Pu.move ⟨rfl, trivial⟩ rfl rfl rfl ?_
      obtain ⟨c76, h77, H⟩ := bnd H
      refine HQ.cutAt 10 [(50, .bool c76), (39, .bool c68), (29, .bool c60), (1, BP b1 0), (2, .bool false), (3, .int .i64 i27), (5, .int .i64 i27), (6, BP b1 1), (7, .slice a_0 (List.length p0.L) c_0), (8, .int .i64 ((List.length p0.L : Nat) : Int)), (9, .bool (decide (i27 < ((List.length p0.L : Nat) : Int)))), (12, BP b1 1), (13, .slice a_0 (List.length p0.L) c_0), (14, .int .i64 i27), (15, EP a_0 i27 5 0), (16, .agg #[.int .i64 ((gt p0.L i27).N), .int .i64 ((gt p0.L i27).R.X0), .int .i64 ((gt p0.L i27).R.Y0), .int .i64 ((gt p0.L i27).R.X1), .int .i64 ((gt p0.L i27).R.Y1)]), (4, BP b54 0), (17, BP b54 1), (18, .agg #[.int .i64 ((gt p0.L i27).R.X0), .int .i64 ((gt p0.L i27).R.Y0), .int .i64 ((gt p0.L i27).R.X1), .int .i64 ((gt p0.L i27).R.Y1)]), (19, .bool t55), (20, .bool (!t55)), (21, .bool (!t55)), (30, .bool c60), (40, .bool c68)] [(1, Box b1 [.bool p0.Leaf, .slice a_0 (List.length p0.L) c_0]), (4, Box b54 [.int .i64 ((gt p0.L i27).N), .int .i64 ((gt p0.L i27).R.X0), .int .i64 ((gt p0.L i27).R.Y0), .int .i64 ((gt p0.L i27).R.X1), .int .i64 ((gt p0.L i27).R.Y1)])] ?_ ?_
      · clear H
        have H := h77
        rcases brk H with ⟨hg70, H⟩ | ⟨hg70, H⟩
        · obtain rfl := Option.some.inj H
          refine HQ.off rfl rfl hg70 rfl ?_
          refine HQ.off rfl rfl hg70 rfl ?_
          refine HQ.off rfl rfl hg70 rfl ?_
          refine HQ.off rfl rfl hg70 rfl ?_
          refine HQ.offU rfl rfl rfl ?_
          refine HQ.offU rfl rfl rfl ?_
          refine HQ.offU rfl rfl rfl ?_
          refine HQ.offU rfl rfl rfl ?_
          refine HQ.off rfl rfl hg70 rfl ?_
          refine HQ.pu (Pu.pickC1 hg70) ⟨rfl, rfl, trivial⟩ rfl rfl rfl ?_
          exact HQ.mid ⟨rfl, rfl, rfl, rfl, rfl, rfl, rfl, rfl, rfl, rfl, rfl, rfl, rfl, rfl, rfl, rfl, rfl, rfl, rfl, rfl, rfl, rfl, rfl, rfl, trivial⟩ ⟨rfl, rfl, trivial⟩ rfl
        · refine HQ.on rfl rfl hg70 ?_
          refine HQ.pu (Pu.fieldB fo79_0 rfl) ⟨rfl, trivial⟩ rfl rfl rfl ?_
          refine HQ.on rfl rfl hg70 ?_
          refine HQ.op [1] [1] (OT.loadB sc4 rfl) ⟨rfl, trivial⟩ ⟨rfl, trivial⟩ rfl rfl rfl rfl (fun _ => rfl) fun _ => ?_
          refine HQ.on rfl rfl hg70 ?_
          refine HQ.pu Pu.not ⟨rfl, trivial⟩ rfl rfl rfl ?_
          refine HQ.on rfl rfl hg70 ?_
          refine HQ.pu Pu.move ⟨rfl, trivial⟩ rfl rfl rfl ?_
          obtain ⟨c74, h75, H⟩ := bnd H
          refine HQ.cutAt 5 [(49, .bool c74), (39, .bool c68), (29, .bool c60), (1, BP b1 0), (2, .bool false), (3, .int .i64 i27), (5, .int .i64 i27), (6, BP b1 1), (7, .slice a_0 (List.length p0.L) c_0), (8, .int .i64 ((List.length p0.L : Nat) : Int)), (9, .bool (decide (i27 < ((List.length p0.L : Nat) : Int)))), (12, BP b1 1), (13, .slice a_0 (List.length p0.L) c_0), (14, .int .i64 i27), (15, EP a_0 i27 5 0), (16, .agg #[.int .i64 ((gt p0.L i27).N), .int .i64 ((gt p0.L i27).R.X0), .int .i64 ((gt p0.L i27).R.Y0), .int .i64 ((gt p0.L i27).R.X1), .int .i64 ((gt p0.L i27).R.Y1)]), (4, BP b54 0), (17, BP b54 1), (18, .agg #[.int .i64 ((gt p0.L i27).R.X0), .int .i64 ((gt p0.L i27).R.Y0), .int .i64 ((gt p0.L i27).R.X1), .int .i64 ((gt p0.L i27).R.Y1)]), (19, .bool t55), (20, .bool (!t55)), (21, .bool (!t55)), (30, .bool c60), (40, .bool c68), (41, BP b1 0), (42, .bool p0.Leaf), (43, .bool (!p0.Leaf)), (44, .bool (!p0.Leaf))] [(1, Box b1 [.bool p0.Leaf, .slice a_0 (List.length p0.L) c_0]), (4, Box b54 [.int .i64 ((gt p0.L i27).N), .int .i64 ((gt p0.L i27).R.X0), .int .i64 ((gt p0.L i27).R.Y0), .int .i64 ((gt p0.L i27).R.X1), .int .i64 ((gt p0.L i27).R.Y1)])] ?_ ?_
          · clear H
            have H := h75
            rcases brk H with ⟨hg71, H⟩ | ⟨hg71, H⟩
            · refine HQ.on rfl rfl hg71 ?_
              refine HQ.pu (Pu.fieldB fo196_0 rfl) ⟨rfl, trivial⟩ rfl rfl rfl ?_
              refine HQ.on rfl rfl hg71 ?_
              refine HQ.op [4] [4] (OT.loadB sc3 rfl) ⟨rfl, trivial⟩ ⟨rfl, trivial⟩ rfl rfl rfl rfl (fun _ => rfl) fun _ => ?_
              refine HQ.on rfl rfl hg71 ?_
              obtain ⟨t72, h73, H⟩ := bnd H
              refine HQ.op [] [] (OT.call (us := [_, _, _]) (Pre := []) [.tmp 46, .const (.int .i64 0), .const (.int .i64 47)] Try.call85 rfl rfl fun w F hs hF hp => spec_l1In_c h73) ⟨rfl, rfl, rfl, rfl, trivial⟩ trivial rfl rfl rfl rfl (fun _ => rfl) fun _ => ?_
              refine HQ.on rfl rfl hg71 ?_
              refine HQ.pu Pu.not ⟨rfl, trivial⟩ rfl rfl rfl ?_
              obtain rfl := Option.some.inj H
              refine HQ.on rfl rfl hg70 ?_
              refine HQ.pu (Pu.pickC1 hg71) ⟨rfl, rfl, trivial⟩ rfl rfl rfl ?_
              exact HQ.mid ⟨rfl, rfl, rfl, rfl, rfl, rfl, rfl, rfl, rfl, rfl, rfl, rfl, rfl, rfl, rfl, rfl, rfl, rfl, rfl, rfl, rfl, rfl, rfl, rfl, rfl, rfl, rfl, rfl, trivial⟩ ⟨rfl, rfl, trivial⟩ rfl
            · obtain rfl := Option.some.inj H
              refine HQ.off rfl rfl hg71 rfl ?_
              refine HQ.off rfl rfl hg71 rfl ?_
              refine HQ.off rfl rfl hg71 rfl ?_
              refine HQ.off rfl rfl hg71 rfl ?_
              refine HQ.on rfl rfl hg70 ?_
              refine HQ.pu (Pu.pickC0 hg71) ⟨rfl, rfl, trivial⟩ rfl rfl rfl ?_
              exact HQ.mid ⟨rfl, rfl, rfl, rfl, rfl, rfl, rfl, rfl, rfl, rfl, rfl, rfl, rfl, rfl, rfl, rfl, rfl, rfl, rfl, rfl, rfl, rfl, rfl, rfl, rfl, rfl, rfl, rfl, trivial⟩ ⟨rfl, rfl, trivial⟩ rfl
          obtain rfl := Option.some.inj H
          refine HQ.pu (Pu.pickC0 hg70) ⟨rfl, rfl, trivial⟩ rfl rfl rfl ?_
          exact HQ.mid ⟨rfl, rfl, rfl, rfl, rfl, rfl, rfl, rfl, rfl, rfl, rfl, rfl, rfl, rfl, rfl, rfl, rfl, rfl, rfl, rfl, rfl, rfl, rfl, rfl, trivial⟩ ⟨rfl, rfl, trivial⟩ rfl
      refine HQ.done ?_
      refine HQ.keep [(50, _), (39, _), (29, _), (1, _), (2, _), (3, _), (5, _), (6, _), (7, _), (8, _), (9, _), (12, _), (13, _), (14, _), (15, _), (16, _), (4, _), (17, _), (18, _), (19, _), (20, _), (21, _), (30, _), (40, _)] ⟨rfl, rfl, rfl, rfl, rfl, rfl, rfl, rfl, rfl, rfl, rfl, rfl, rfl, rfl, rfl, rfl, rfl, rfl, rfl, rfl, rfl, rfl, rfl, rfl, trivial⟩ ?_
      rcases brk H with ⟨hc, H⟩ | ⟨hc, H⟩
      · refine HQ.condT rfl hc ?_
        clear hc
        refine HQ.rseq ?_
        refine HQ.pu Pu.assign ⟨rfl, trivial⟩ rfl rfl rfl ?_
        refine HQ.done ?_
        refine HQ.keep [(50, _), (39, _), (29, _), (1, _), (2, _), (3, _), (5, _), (6, _), (7, _), (8, _), (9, _), (12, _), (13, _), (14, _), (15, _), (16, _), (4, _), (17, _), (18, _), (19, _), (20, _), (21, _), (30, _), (40, _)] ⟨rfl, rfl, rfl, rfl, rfl, rfl, rfl, rfl, rfl, rfl, rfl, rfl, rfl, rfl, rfl, rfl, rfl, rfl, rfl, rfl, rfl, rfl, rfl, rfl, trivial⟩ ?_
        refine HQ.ret ?_
        refine HQ.blkR ?_
        refine HQ.thenR ?_
        obtain rfl := Option.some.inj H
        refine HQ.retL ?_
        exact HQ.fin (vs := [_]) Try.results158 () ⟨rfl, trivial⟩ rfl [] trivial rfl
      · refine HQ.condF rfl hc ?_
        clear hc
        refine HQ.skip ?_
        refine HQ.blkN ?_
        refine HQ.thenN ?_
        refine HQ.regionQ ?_
        refine HQ.pu Pu.move ⟨rfl, trivial⟩ rfl rfl rfl ?_
        refine HQ.pu Pu.add ⟨rfl, rfl, trivial⟩ rfl rfl rfl ?_
        refine HQ.pu Pu.assign ⟨rfl, trivial⟩ rfl rfl rfl ?_
        refine HQ.done ?_
        refine HQ.keep [(50, _), (39, _), (29, _), (1, _), (2, _), (3, _), (5, _), (6, _), (7, _), (8, _), (9, _), (12, _), (13, _), (14, _), (15, _), (16, _), (4, _), (17, _), (18, _), (19, _), (20, _), (21, _), (30, _), (40, _), (10, _), (11, _)] ⟨rfl, rfl, rfl, rfl, rfl, rfl, rfl, rfl, rfl, rfl, rfl, rfl, rfl, rfl, rfl, rfl, rfl, rfl, rfl, rfl, rfl, rfl, rfl, rfl, rfl, rfl, trivial⟩ ?_
        obtain rfl := Option.some.inj H
        exact HQ.next () ⟨rfl, rfl, rfl, trivial⟩ ⟨rfl, trivial⟩ rfl
    · refine HQ.condF rfl hc ?_
      clear hc
      refine HQ.exit ?_
      refine HQ.thenE ?_
      obtain rfl := Option.some.inj H
      exact HQ.out () ⟨rfl, rfl, rfl, trivial⟩ ⟨rfl, trivial⟩ rfl
  · rintro i79 rfl _
    clear h82
    replace H := H
    refine HQ.keep [(1, _), (2, _), (3, _)] ⟨rfl, rfl, rfl, trivial⟩ ?_
    refine HQ.keepR [(1, _)] ⟨rfl, trivial⟩ rfl ?_
    refine HQ.blkE ?_
    refine HQ.thenN ?_
    refine HQ.rseq ?_
    refine HQ.pu (Pu.fieldB fo79_1 rfl) ⟨rfl, trivial⟩ rfl rfl rfl ?_
    refine HQ.op [1] [1] (OT.loadB sc77 rfl) ⟨rfl, trivial⟩ ⟨rfl, trivial⟩ rfl rfl rfl rfl (fun _ => rfl) fun _ => ?_
    refine HQ.pu (Pu.len ul77) ⟨rfl, trivial⟩ rfl rfl rfl ?_
    refine HQ.pu Pu.leq ⟨rfl, rfl, trivial⟩ rfl rfl rfl ?_
    refine HQ.pu Pu.move ⟨rfl, trivial⟩ rfl rfl rfl ?_
    refine HQ.cutAt 9 [(64, .bool ((decide (((List.length p0.L : Nat) : Int) ≤ 4)) && (p0.Leaf || (decide (((List.length p0.L : Nat) : Int) > 0))))), (2, .bool false)] [(1, Box b1 [.bool p0.Leaf, .slice a_0 (List.length p0.L) c_0])] ?_ ?_
    · rcases Bool.eq_false_or_eq_true (decide (((List.length p0.L : Nat) : Int) ≤ 4)) with hg80 | hg80
      · refine HQ.on rfl rfl hg80 ?_
        refine HQ.pu (Pu.fieldB fo79_0 rfl) ⟨rfl, trivial⟩ rfl rfl rfl ?_
        refine HQ.on rfl rfl hg80 ?_
        refine HQ.op [1] [1] (OT.loadB sc4 rfl) ⟨rfl, trivial⟩ ⟨rfl, trivial⟩ rfl rfl rfl rfl (fun _ => rfl) fun _ => ?_
        refine HQ.on rfl rfl hg80 ?_
        refine HQ.pu Pu.move ⟨rfl, trivial⟩ rfl rfl rfl ?_
        refine HQ.cutAt 5 [(63, .bool (p0.Leaf || (decide (((List.length p0.L : Nat) : Int) > 0)))), (2, .bool false), (55, .bool (decide (((List.length p0.L : Nat) : Int) ≤ 4)))] [(1, Box b1 [.bool p0.Leaf, .slice a_0 (List.length p0.L) c_0])] ?_ ?_
        · rcases Bool.eq_false_or_eq_true p0.Leaf with hg81 | hg81
          · refine HQ.off rfl rfl hg81 rfl ?_
            refine HQ.off rfl rfl hg81 rfl ?_
            refine HQ.off rfl rfl hg81 rfl ?_
            refine HQ.off rfl rfl hg81 rfl ?_
            refine HQ.on rfl rfl hg80 ?_
            refine HQ.pu (Pu.pickOT (u := (decide (((List.length p0.L : Nat) : Int) > 0))) hg81) ⟨rfl, rfl, trivial⟩ rfl rfl rfl ?_
            exact HQ.mid ⟨rfl, rfl, rfl, trivial⟩ ⟨rfl, trivial⟩ rfl
          · refine HQ.on rfl rfl hg81 ?_
            refine HQ.pu (Pu.fieldB fo79_1 rfl) ⟨rfl, trivial⟩ rfl rfl rfl ?_
            refine HQ.on rfl rfl hg81 ?_
            refine HQ.op [1] [1] (OT.loadB sc77 rfl) ⟨rfl, trivial⟩ ⟨rfl, trivial⟩ rfl rfl rfl rfl (fun _ => rfl) fun _ => ?_
            refine HQ.on rfl rfl hg81 ?_
            refine HQ.pu (Pu.len ul77) ⟨rfl, trivial⟩ rfl rfl rfl ?_
            refine HQ.on rfl rfl hg81 ?_
            refine HQ.pu Pu.gtr ⟨rfl, rfl, trivial⟩ rfl rfl rfl ?_
            refine HQ.on rfl rfl hg80 ?_
            refine HQ.pu (Pu.pickOF hg81) ⟨rfl, rfl, trivial⟩ rfl rfl rfl ?_
            exact HQ.mid ⟨rfl, rfl, rfl, trivial⟩ ⟨rfl, trivial⟩ rfl
        refine HQ.pu (Pu.pickAT hg80) ⟨rfl, rfl, trivial⟩ rfl rfl rfl ?_
        exact HQ.mid ⟨rfl, rfl, trivial⟩ ⟨rfl, trivial⟩ rfl
      · refine HQ.off rfl rfl hg80 rfl ?_
        refine HQ.off rfl rfl hg80 rfl ?_
        refine HQ.off rfl rfl hg80 rfl ?_
        refine HQ.offU rfl rfl rfl ?_
        refine HQ.offU rfl rfl rfl ?_
        refine HQ.offU rfl rfl rfl ?_
        refine HQ.offU rfl rfl rfl ?_
        refine HQ.off rfl rfl hg80 rfl ?_
        refine HQ.pu (Pu.pickAF (u := (p0.Leaf || (decide (((List.length p0.L : Nat) : Int) > 0)))) hg80) ⟨rfl, rfl, trivial⟩ rfl rfl rfl ?_
        exact HQ.mid ⟨rfl, rfl, trivial⟩ ⟨rfl, trivial⟩ rfl
    refine HQ.pu Pu.assign ⟨rfl, trivial⟩ rfl rfl rfl ?_
    refine HQ.done ?_
    refine HQ.keep [(2, _)] ⟨rfl, trivial⟩ ?_
    refine HQ.ret ?_
    obtain rfl := Option.some.inj H
    exact HQ.fin (vs := [_]) Try.results158 () ⟨rfl, trivial⟩ rfl [] trivial rfl
  · rintro r rfl a w hr
    obtain rfl := Option.some.inj H
    exact hr

end Go.Proofs.Sx
