import Derived.Test.YtkhommmhkeohbaaQbF7
import Derived.KernelRfl
namespace Go.Proofs.Sx
open Go.RowKit
set_option linter.unusedVariables false
set_option linter.unusedSimpArgs false
set_option maxRecDepth 20000
set_option maxHeartbeats 1000000
/-! spec.NodeOk -/
theorem spec_NodeOk_c {w : World} {k : Nat} {p0 : TNode} {a_0 : Option Addr} {c_0 : Nat} (hb_0 : BorS kTEntry a_0 c_0 p0.L w.heap (Lt w Nil)) {r : Bool} (H : spec_NodeOk k p0 = some r) :
    Calls Try.prog 105 #[.agg #[.bool p0.Leaf, .slice a_0 (List.length p0.L) c_0]] w (Rt w Nil (fun _ : Unit => .bool r) (fun _ => [])) := by
  rw [spec_NodeOk] at H
  refine Calls.enter0 (N := 65) (us := [_]) Try.func105 rfl rfl rfl ?_
  refine HQ.rseq ?_
  refine HQ.op [] [1] (OT.box (cs := [.bool p0.Leaf, .slice a_0 (List.length p0.L) c_0]) rfl) ⟨rfl, trivial⟩ trivial rfl rfl rfl rfl (fun _ => rfl) fun b1 => ?_
  refine HQ.pu Pu.assign ⟨rfl, trivial⟩ rfl rfl rfl ?_
  refine HQ.done ?_
  refine HQ.keep [(1, _), (2, _)] ⟨rfl, rfl, trivial⟩ ?_
  refine HQ.seq ?_
  refine HQ.rseq ?_
  refine HQ.pu Pu.assign ⟨rfl, trivial⟩ rfl rfl rfl ?_
  refine HQ.done ?_
  refine HQ.keep [(1, _), (2, _), (3, _)] ⟨rfl, rfl, rfl, trivial⟩ ?_
  refine HQ.block ?_
  obtain ⟨o78, h82, H⟩ := bnd H
  refine HQ.loop h82 0 (fun (s : Int) (g : Unit) => match s, g with | i27, () => [(1, BP b1 0), (2, .bool false), (3, .int .i64 i27)]) (fun (s : Int) (g : Unit) => match s, g with | i27, () => [(1, Box b1 [.bool p0.Leaf, .slice a_0 (List.length p0.L) c_0])]) (fun r => bodyPost Try.prog Try.f105 (Rt w Nil (fun _ : Unit => .bool r) (fun _ => [])) .ret) () ⟨rfl, rfl, rfl, trivial⟩ ⟨rfl, trivial⟩ rfl ?_ ?_ ?_
  · clear H h82
    rintro i27 _ o H
    rw [spec_NodeOk_b0] at H
    refine HQ.keep [(1, _), (2, _), (3, _)] ⟨rfl, rfl, rfl, trivial⟩ ?_
    refine HQ.keepR [(1, _)] ⟨rfl, trivial⟩ rfl ?_
    refine HQ.seq ?_
    refine HQ.rseq ?_
    refine HQ.pu Pu.move ⟨rfl, trivial⟩ rfl rfl rfl ?_
    refine HQ.pu (Pu.fieldB fo47_1 rfl) ⟨rfl, trivial⟩ rfl rfl rfl ?_
    refine HQ.op [1] [1] (OT.loadB sc45 rfl) ⟨rfl, trivial⟩ ⟨rfl, trivial⟩ rfl rfl rfl rfl (fun _ => rfl) fun _ => ?_
    refine HQ.pu (Pu.len ul45) ⟨rfl, trivial⟩ rfl rfl rfl ?_
    refine HQ.pu Pu.lss ⟨rfl, rfl, trivial⟩ rfl rfl rfl ?_
    refine HQ.done ?_
    refine HQ.keep [(1, _), (2, _), (3, _), (9, _)] ⟨rfl, rfl, rfl, rfl, trivial⟩ ?_
    rcases brk H with ⟨hc, H⟩ | ⟨hc, H⟩
    · refine HQ.condT rfl hc ?_
      clear hc
      refine HQ.skipThen ?_
      refine HQ.seq ?_
      refine HQ.block ?_
      refine HQ.rseq ?_
      refine HQ.pu (Pu.fieldB fo47_1 rfl) ⟨rfl, trivial⟩ rfl rfl rfl ?_
      refine HQ.op [1] [1] (OT.loadB sc45 rfl) ⟨rfl, trivial⟩ ⟨rfl, trivial⟩ rfl rfl rfl rfl (fun _ => rfl) fun _ => ?_
      refine HQ.pu Pu.move ⟨rfl, trivial⟩ rfl rfl rfl ?_
      obtain ⟨h53, H⟩ := asr H
      refine HQ.op [] [] (OT.indexB ul45 sz134 hb_0 h53) ⟨rfl, rfl, trivial⟩ trivial rfl rfl rfl rfl (fun _ => rfl) fun _ => ?_
      refine HQ.op [] [] (OT.loadFA (vs := [.int .i64 ((gt p0.L i27).N), .int .i64 ((gt p0.L i27).R.X0), .int .i64 ((gt p0.L i27).R.Y0), .int .i64 ((gt p0.L i27).R.X1), .int .i64 ((gt p0.L i27).R.Y1)]) ag134 sz134 hb_0 h53 rfl rfl) ⟨rfl, trivial⟩ trivial rfl rfl rfl rfl (fun _ => rfl) fun _ => ?_
      refine HQ.op [] [4] (OT.alloc zc134) trivial trivial rfl rfl rfl rfl (fun _ => rfl) fun b54 => ?_
      refine HQ.opN [4] [4] [] (OT.storeC (cs' := [.int .i64 ((gt p0.L i27).N), .int .i64 ((gt p0.L i27).R.X0), .int .i64 ((gt p0.L i27).R.Y0), .int .i64 ((gt p0.L i27).R.X1), .int .i64 ((gt p0.L i27).R.Y1)]) sz134 rfl rfl rfl rfl rfl) ⟨rfl, rfl, trivial⟩ ⟨rfl, trivial⟩ rfl rfl rfl (fun _ => rfl) fun _ => ?_
      refine HQ.done ?_
      refine HQ.keep [(1, _), (2, _), (3, _), (4, _)] ⟨rfl, rfl, rfl, rfl, trivial⟩ ?_
      refine HQ.rseq ?_
      refine HQ.pu (Pu.fieldB fo134_1 rfl) ⟨rfl, trivial⟩ rfl rfl rfl ?_
      refine HQ.op [4] [4] (OT.loadBA (vs := [.int .i64 ((gt p0.L i27).R.X0), .int .i64 ((gt p0.L i27).R.Y0), .int .i64 ((gt p0.L i27).R.X1), .int .i64 ((gt p0.L i27).R.Y1)]) ag132 sz132 rfl rfl) ⟨rfl, trivial⟩ ⟨rfl, trivial⟩ rfl rfl rfl rfl (fun _ => rfl) fun _ => ?_
      obtain ⟨t55, h56, H⟩ := bnd H
      refine HQ.op [] [] (OT.call (us := [_]) (Pre := []) [.tmp 18] Try.call128 rfl rfl fun w F hs hF hp => spec_BoxOk_c h56) ⟨rfl, rfl, trivial⟩ trivial rfl rfl rfl rfl (fun _ => rfl) fun _ => ?_
      refine HQ.pu Pu.not ⟨rfl, trivial⟩ rfl rfl rfl ?_
      refine HQ.pu Pu.move ⟨rfl, trivial⟩ rfl rfl rfl ?_
      obtain ⟨c60, h61, H⟩ := bnd H
      refine HQ.cutAt 8 [(29, .bool c60), (1, BP b1 0), (2, .bool false), (3, .int .i64 i27), (4, BP b54 0)] [(1, Box b1 [.bool p0.Leaf, .slice a_0 (List.length p0.L) c_0]), (4, Box b54 [.int .i64 ((gt p0.L i27).N), .int .i64 ((gt p0.L i27).R.X0), .int .i64 ((gt p0.L i27).R.Y0), .int .i64 ((gt p0.L i27).R.X1), .int .i64 ((gt p0.L i27).R.Y1)])] ?_ ?_
      · clear H
        have H := h61
        rcases brk H with ⟨hg57, H⟩ | ⟨hg57, H⟩
        · obtain rfl := Option.some.inj H
          refine HQ.off rfl rfl hg57 rfl ?_
          refine HQ.off rfl rfl hg57 rfl ?_
          refine HQ.off rfl rfl hg57 rfl ?_
          refine HQ.off rfl rfl hg57 rfl ?_
          refine HQ.off rfl rfl hg57 rfl ?_
          refine HQ.off rfl rfl hg57 rfl ?_
          refine HQ.off rfl rfl hg57 rfl ?_
          refine HQ.pu (Pu.pickC1 hg57) ⟨rfl, rfl, trivial⟩ rfl rfl rfl ?_
          exact HQ.mid ⟨rfl, rfl, rfl, rfl, rfl, trivial⟩ ⟨rfl, rfl, trivial⟩ rfl
        · refine HQ.on rfl rfl hg57 ?_
          refine HQ.pu (Pu.fieldB fo47_1 rfl) ⟨rfl, trivial⟩ rfl rfl rfl ?_
          refine HQ.on rfl rfl hg57 ?_
          refine HQ.op [1] [1] (OT.loadB sc45 rfl) ⟨rfl, trivial⟩ ⟨rfl, trivial⟩ rfl rfl rfl rfl (fun _ => rfl) fun _ => ?_
          refine HQ.on rfl rfl hg57 ?_
          refine HQ.pu (Pu.fieldB fo134_0 rfl) ⟨rfl, trivial⟩ rfl rfl rfl ?_
          refine HQ.on rfl rfl hg57 ?_
          refine HQ.op [4] [4] (OT.loadB sc3 rfl) ⟨rfl, trivial⟩ ⟨rfl, trivial⟩ rfl rfl rfl rfl (fun _ => rfl) fun _ => ?_
          refine HQ.on rfl rfl hg57 ?_
          obtain ⟨t58, h59, H⟩ := bnd H
          refine HQ.op [] [] (OT.call (us := [_, _]) (Pre := []) [.tmp 23, .tmp 25] Try.call129 rfl rfl fun w F hs hF hp => spec_EntryAt_c (hb_0.pass hp) h59) ⟨rfl, rfl, rfl, trivial⟩ trivial rfl rfl rfl rfl (fun _ => rfl) fun _ => ?_
          refine HQ.on rfl rfl hg57 ?_
          refine HQ.pu Pu.move ⟨rfl, trivial⟩ rfl rfl rfl ?_
          refine HQ.on rfl rfl hg57 ?_
          refine HQ.pu Pu.neq ⟨rfl, rfl, trivial⟩ rfl rfl rfl ?_
          obtain rfl := Option.some.inj H
          refine HQ.pu (Pu.pickC0 hg57) ⟨rfl, rfl, trivial⟩ rfl rfl rfl ?_
          exact HQ.mid ⟨rfl, rfl, rfl, rfl, rfl, trivial⟩ ⟨rfl, rfl, trivial⟩ rfl
      refine HQ.pu Pu.move ⟨rfl, trivial⟩ rfl rfl rfl ?_
      obtain ⟨c68, h69, H⟩ := bnd H
      refine HQ.cutAt 9 [(39, .bool c68), (1, BP b1 0), (2, .bool false), (3, .int .i64 i27), (4, BP b54 0)] [(1, Box b1 [.bool p0.Leaf, .slice a_0 (List.length p0.L) c_0]), (4, Box b54 [.int .i64 ((gt p0.L i27).N), .int .i64 ((gt p0.L i27).R.X0), .int .i64 ((gt p0.L i27).R.Y0), .int .i64 ((gt p0.L i27).R.X1), .int .i64 ((gt p0.L i27).R.Y1)])] ?_ ?_
      · clear H
        have H := h69
        rcases brk H with ⟨hg62, H⟩ | ⟨hg62, H⟩
        · obtain rfl := Option.some.inj H
          refine HQ.off rfl rfl hg62 rfl ?_
          refine HQ.off rfl rfl hg62 rfl ?_
          refine HQ.off rfl rfl hg62 rfl ?_
          refine HQ.offU rfl rfl rfl ?_
          refine HQ.offU rfl rfl rfl ?_
          refine HQ.offU rfl rfl rfl ?_
          refine HQ.offU rfl rfl rfl ?_
          refine HQ.off rfl rfl hg62 rfl ?_
          refine HQ.pu (Pu.pickC1 hg62) ⟨rfl, rfl, trivial⟩ rfl rfl rfl ?_
          exact HQ.mid ⟨rfl, rfl, rfl, rfl, rfl, trivial⟩ ⟨rfl, rfl, trivial⟩ rfl
        · refine HQ.on rfl rfl hg62 ?_
          refine HQ.pu (Pu.fieldB fo47_0 rfl) ⟨rfl, trivial⟩ rfl rfl rfl ?_
          refine HQ.on rfl rfl hg62 ?_
          refine HQ.op [1] [1] (OT.loadB sc4 rfl) ⟨rfl, trivial⟩ ⟨rfl, trivial⟩ rfl rfl rfl rfl (fun _ => rfl) fun _ => ?_
          refine HQ.on rfl rfl hg62 ?_
          refine HQ.pu Pu.move ⟨rfl, trivial⟩ rfl rfl rfl ?_
          obtain ⟨c66, h67, H⟩ := bnd H
          refine HQ.cutAt 5 [(38, .bool c66), (1, BP b1 0), (2, .bool false), (3, .int .i64 i27), (4, BP b54 0), (30, .bool c60), (31, BP b1 0), (32, .bool p0.Leaf), (33, .bool p0.Leaf)] [(1, Box b1 [.bool p0.Leaf, .slice a_0 (List.length p0.L) c_0]), (4, Box b54 [.int .i64 ((gt p0.L i27).N), .int .i64 ((gt p0.L i27).R.X0), .int .i64 ((gt p0.L i27).R.Y0), .int .i64 ((gt p0.L i27).R.X1), .int .i64 ((gt p0.L i27).R.Y1)])] ?_ ?_
          · clear H
            have H := h67
            rcases brk H with ⟨hg63, H⟩ | ⟨hg63, H⟩
            · refine HQ.on rfl rfl hg63 ?_
              refine HQ.pu (Pu.fieldB fo134_0 rfl) ⟨rfl, trivial⟩ rfl rfl rfl ?_
              refine HQ.on rfl rfl hg63 ?_
              refine HQ.op [4] [4] (OT.loadB sc3 rfl) ⟨rfl, trivial⟩ ⟨rfl, trivial⟩ rfl rfl rfl rfl (fun _ => rfl) fun _ => ?_
              refine HQ.on rfl rfl hg63 ?_
              obtain ⟨t64, h65, H⟩ := bnd H
              refine HQ.op [] [] (OT.call (us := [_, _, _]) (Pre := []) [.tmp 35, .const (.int .i64 1), .const (.int .i64 999)] Try.call89 rfl rfl fun w F hs hF hp => spec_l1In_c h65) ⟨rfl, rfl, rfl, rfl, trivial⟩ trivial rfl rfl rfl rfl (fun _ => rfl) fun _ => ?_
              refine HQ.on rfl rfl hg63 ?_
              refine HQ.pu Pu.not ⟨rfl, trivial⟩ rfl rfl rfl ?_
              obtain rfl := Option.some.inj H
              refine HQ.on rfl rfl hg62 ?_
              refine HQ.pu (Pu.pickC1 hg63) ⟨rfl, rfl, trivial⟩ rfl rfl rfl ?_
              exact HQ.mid ⟨rfl, rfl, rfl, rfl, rfl, rfl, rfl, rfl, rfl, trivial⟩ ⟨rfl, rfl, trivial⟩ rfl
            · obtain rfl := Option.some.inj H
              refine HQ.off rfl rfl hg63 rfl ?_
              refine HQ.off rfl rfl hg63 rfl ?_
              refine HQ.off rfl rfl hg63 rfl ?_
              refine HQ.off rfl rfl hg63 rfl ?_
              refine HQ.on rfl rfl hg62 ?_
              refine HQ.pu (Pu.pickC0 hg63) ⟨rfl, rfl, trivial⟩ rfl rfl rfl ?_
              exact HQ.mid ⟨rfl, rfl, rfl, rfl, rfl, rfl, rfl, rfl, rfl, trivial⟩ ⟨rfl, rfl, trivial⟩ rfl
          obtain rfl := Option.some.inj H
          refine HQ.pu (Pu.pickC0 hg62) ⟨rfl, rfl, trivial⟩ rfl rfl rfl ?_
          exact HQ.mid ⟨rfl, rfl, rfl, rfl, rfl, trivial⟩ ⟨rfl, rfl, trivial⟩ rfl
      refine HQ.pu Pu.move ⟨rfl, trivial⟩ rfl rfl rfl ?_
      obtain ⟨c76, h77, H⟩ := bnd H
      refine HQ.cutAt 10 [(50, .bool c76), (1, BP b1 0), (2, .bool false), (3, .int .i64 i27)] [(1, Box b1 [.bool p0.Leaf, .slice a_0 (List.length p0.L) c_0]), (4, Box b54 [.int .i64 ((gt p0.L i27).N), .int .i64 ((gt p0.L i27).R.X0), .int .i64 ((gt p0.L i27).R.Y0), .int .i64 ((gt p0.L i27).R.X1), .int .i64 ((gt p0.L i27).R.Y1)])] ?_ ?_
      · clear H
        have H := h77
        rcases brk H with ⟨hg70, H⟩ | ⟨hg70, H⟩
        · obtain rfl := Option.some.inj H
          refine HQ.off rfl rfl hg70 rfl ?_
          refine HQ.off rfl rfl hg70 rfl ?_
          refine HQ.off rfl rfl hg70 rfl ?_
          refine HQ.off rfl rfl hg70 rfl ?_
          refine HQ.offU rfl rfl rfl ?_
          refine HQ.offU rfl rfl rfl ?_
          refine HQ.offU rfl rfl rfl ?_
          refine HQ.offU rfl rfl rfl ?_
          refine HQ.off rfl rfl hg70 rfl ?_
          refine HQ.pu (Pu.pickC1 hg70) ⟨rfl, rfl, trivial⟩ rfl rfl rfl ?_
          exact HQ.mid ⟨rfl, rfl, rfl, rfl, trivial⟩ ⟨rfl, rfl, trivial⟩ rfl
        · refine HQ.on rfl rfl hg70 ?_
          refine HQ.pu (Pu.fieldB fo47_0 rfl) ⟨rfl, trivial⟩ rfl rfl rfl ?_
          refine HQ.on rfl rfl hg70 ?_
          refine HQ.op [1] [1] (OT.loadB sc4 rfl) ⟨rfl, trivial⟩ ⟨rfl, trivial⟩ rfl rfl rfl rfl (fun _ => rfl) fun _ => ?_
          refine HQ.on rfl rfl hg70 ?_
          refine HQ.pu Pu.not ⟨rfl, trivial⟩ rfl rfl rfl ?_
          refine HQ.on rfl rfl hg70 ?_
          refine HQ.pu Pu.move ⟨rfl, trivial⟩ rfl rfl rfl ?_
          obtain ⟨c74, h75, H⟩ := bnd H
          refine HQ.cutAt 5 [(49, .bool c74), (1, BP b1 0), (2, .bool false), (3, .int .i64 i27), (40, .bool c68), (41, BP b1 0), (42, .bool p0.Leaf), (43, .bool (!p0.Leaf)), (44, .bool (!p0.Leaf))] [(1, Box b1 [.bool p0.Leaf, .slice a_0 (List.length p0.L) c_0]), (4, Box b54 [.int .i64 ((gt p0.L i27).N), .int .i64 ((gt p0.L i27).R.X0), .int .i64 ((gt p0.L i27).R.Y0), .int .i64 ((gt p0.L i27).R.X1), .int .i64 ((gt p0.L i27).R.Y1)])] ?_ ?_
          · clear H
            have H := h75
            rcases brk H with ⟨hg71, H⟩ | ⟨hg71, H⟩
            · refine HQ.on rfl rfl hg71 ?_
              refine HQ.pu (Pu.fieldB fo134_0 rfl) ⟨rfl, trivial⟩ rfl rfl rfl ?_
              refine HQ.on rfl rfl hg71 ?_
              refine HQ.op [4] [4] (OT.loadB sc3 rfl) ⟨rfl, trivial⟩ ⟨rfl, trivial⟩ rfl rfl rfl rfl (fun _ => rfl) fun _ => ?_
              refine HQ.on rfl rfl hg71 ?_
              obtain ⟨t72, h73, H⟩ := bnd H
              refine HQ.op [] [] (OT.call (us := [_, _, _]) (Pre := []) [.tmp 46, .const (.int .i64 0), .const (.int .i64 47)] Try.call89 rfl rfl fun w F hs hF hp => spec_l1In_c h73) ⟨rfl, rfl, rfl, rfl, trivial⟩ trivial rfl rfl rfl rfl (fun _ => rfl) fun _ => ?_
              refine HQ.on rfl rfl hg71 ?_
              refine HQ.pu Pu.not ⟨rfl, trivial⟩ rfl rfl rfl ?_
              obtain rfl := Option.some.inj H
              refine HQ.on rfl rfl hg70 ?_
              refine HQ.pu (Pu.pickC1 hg71) ⟨rfl, rfl, trivial⟩ rfl rfl rfl ?_
              exact HQ.mid ⟨rfl, rfl, rfl, rfl, rfl, rfl, rfl, rfl, rfl, trivial⟩ ⟨rfl, rfl, trivial⟩ rfl
            · obtain rfl := Option.some.inj H
              refine HQ.off rfl rfl hg71 rfl ?_
              refine HQ.off rfl rfl hg71 rfl ?_
              refine HQ.off rfl rfl hg71 rfl ?_
              refine HQ.off rfl rfl hg71 rfl ?_
              refine HQ.on rfl rfl hg70 ?_
              refine HQ.pu (Pu.pickC0 hg71) ⟨rfl, rfl, trivial⟩ rfl rfl rfl ?_
              exact HQ.mid ⟨rfl, rfl, rfl, rfl, rfl, rfl, rfl, rfl, rfl, trivial⟩ ⟨rfl, rfl, trivial⟩ rfl
          obtain rfl := Option.some.inj H
          refine HQ.pu (Pu.pickC0 hg70) ⟨rfl, rfl, trivial⟩ rfl rfl rfl ?_
          exact HQ.mid ⟨rfl, rfl, rfl, rfl, trivial⟩ ⟨rfl, rfl, trivial⟩ rfl
      refine HQ.done ?_
      refine HQ.keep [(50, _), (1, _), (2, _), (3, _)] ⟨rfl, rfl, rfl, rfl, trivial⟩ ?_
      rcases brk H with ⟨hc, H⟩ | ⟨hc, H⟩
      · refine HQ.condT rfl hc ?_
        clear hc
        refine HQ.rseq ?_
        refine HQ.pu Pu.assign ⟨rfl, trivial⟩ rfl rfl rfl ?_
        refine HQ.done ?_
        refine HQ.keep [(1, _), (2, _), (3, _)] ⟨rfl, rfl, rfl, trivial⟩ ?_
        refine HQ.ret ?_
        refine HQ.blkR ?_
        refine HQ.thenR ?_
        obtain rfl := Option.some.inj H
        refine HQ.retL ?_
        exact HQ.fin (vs := [_]) Try.results105 () ⟨rfl, trivial⟩ rfl [] trivial rfl
      · refine HQ.condF rfl hc ?_
        clear hc
        refine HQ.skip ?_
        refine HQ.blkN ?_
        refine HQ.thenN ?_
        refine HQ.regionQ ?_
        refine HQ.pu Pu.move ⟨rfl, trivial⟩ rfl rfl rfl ?_
        refine HQ.pu Pu.add ⟨rfl, rfl, trivial⟩ rfl rfl rfl ?_
        refine HQ.pu Pu.assign ⟨rfl, trivial⟩ rfl rfl rfl ?_
        refine HQ.done ?_
        refine HQ.keep [(1, _), (2, _), (3, _)] ⟨rfl, rfl, rfl, trivial⟩ ?_
        obtain rfl := Option.some.inj H
        exact HQ.next () ⟨rfl, rfl, rfl, trivial⟩ ⟨rfl, trivial⟩ rfl
    · refine HQ.condF rfl hc ?_
      clear hc
      refine HQ.exit ?_
      refine HQ.thenE ?_
      obtain rfl := Option.some.inj H
      exact HQ.out () ⟨rfl, rfl, rfl, trivial⟩ ⟨rfl, trivial⟩ rfl
  · rintro i79 rfl _
    clear h82
    replace H := H
    refine HQ.keep [(1, _), (2, _), (3, _)] ⟨rfl, rfl, rfl, trivial⟩ ?_
    refine HQ.keepR [(1, _)] ⟨rfl, trivial⟩ rfl ?_
    refine HQ.blkE ?_
    refine HQ.thenN ?_
    refine HQ.rseq ?_
    refine HQ.pu (Pu.fieldB fo47_1 rfl) ⟨rfl, trivial⟩ rfl rfl rfl ?_
    refine HQ.op [1] [1] (OT.loadB sc45 rfl) ⟨rfl, trivial⟩ ⟨rfl, trivial⟩ rfl rfl rfl rfl (fun _ => rfl) fun _ => ?_
    refine HQ.pu (Pu.len ul45) ⟨rfl, trivial⟩ rfl rfl rfl ?_
    refine HQ.pu Pu.leq ⟨rfl, rfl, trivial⟩ rfl rfl rfl ?_
    refine HQ.pu Pu.move ⟨rfl, trivial⟩ rfl rfl rfl ?_
    refine HQ.cutAt 9 [(64, .bool ((decide (((List.length p0.L : Nat) : Int) ≤ 4)) && (p0.Leaf || (decide (((List.length p0.L : Nat) : Int) > 0))))), (2, .bool false)] [(1, Box b1 [.bool p0.Leaf, .slice a_0 (List.length p0.L) c_0])] ?_ ?_
    · rcases Bool.eq_false_or_eq_true (decide (((List.length p0.L : Nat) : Int) ≤ 4)) with hg80 | hg80
      · refine HQ.on rfl rfl hg80 ?_
        refine HQ.pu (Pu.fieldB fo47_0 rfl) ⟨rfl, trivial⟩ rfl rfl rfl ?_
        refine HQ.on rfl rfl hg80 ?_
        refine HQ.op [1] [1] (OT.loadB sc4 rfl) ⟨rfl, trivial⟩ ⟨rfl, trivial⟩ rfl rfl rfl rfl (fun _ => rfl) fun _ => ?_
        refine HQ.on rfl rfl hg80 ?_
        refine HQ.pu Pu.move ⟨rfl, trivial⟩ rfl rfl rfl ?_
        refine HQ.cutAt 5 [(63, .bool (p0.Leaf || (decide (((List.length p0.L : Nat) : Int) > 0)))), (2, .bool false), (55, .bool (decide (((List.length p0.L : Nat) : Int) ≤ 4)))] [(1, Box b1 [.bool p0.Leaf, .slice a_0 (List.length p0.L) c_0])] ?_ ?_
        · rcases Bool.eq_false_or_eq_true p0.Leaf with hg81 | hg81
          · refine HQ.off rfl rfl hg81 rfl ?_
            refine HQ.off rfl rfl hg81 rfl ?_
            refine HQ.off rfl rfl hg81 rfl ?_
            refine HQ.off rfl rfl hg81 rfl ?_
            refine HQ.on rfl rfl hg80 ?_
            refine HQ.pu (Pu.pickOT (u := (decide (((List.length p0.L : Nat) : Int) > 0))) hg81) ⟨rfl, rfl, trivial⟩ rfl rfl rfl ?_
            exact HQ.mid ⟨rfl, rfl, rfl, trivial⟩ ⟨rfl, trivial⟩ rfl
          · refine HQ.on rfl rfl hg81 ?_
            refine HQ.pu (Pu.fieldB fo47_1 rfl) ⟨rfl, trivial⟩ rfl rfl rfl ?_
            refine HQ.on rfl rfl hg81 ?_
            refine HQ.op [1] [1] (OT.loadB sc45 rfl) ⟨rfl, trivial⟩ ⟨rfl, trivial⟩ rfl rfl rfl rfl (fun _ => rfl) fun _ => ?_
            refine HQ.on rfl rfl hg81 ?_
            refine HQ.pu (Pu.len ul45) ⟨rfl, trivial⟩ rfl rfl rfl ?_
            refine HQ.on rfl rfl hg81 ?_
            refine HQ.pu Pu.gtr ⟨rfl, rfl, trivial⟩ rfl rfl rfl ?_
            refine HQ.on rfl rfl hg80 ?_
            refine HQ.pu (Pu.pickOF hg81) ⟨rfl, rfl, trivial⟩ rfl rfl rfl ?_
            exact HQ.mid ⟨rfl, rfl, rfl, trivial⟩ ⟨rfl, trivial⟩ rfl
        refine HQ.pu (Pu.pickAT hg80) ⟨rfl, rfl, trivial⟩ rfl rfl rfl ?_
        exact HQ.mid ⟨rfl, rfl, trivial⟩ ⟨rfl, trivial⟩ rfl
      · refine HQ.off rfl rfl hg80 rfl ?_
        refine HQ.off rfl rfl hg80 rfl ?_
        refine HQ.off rfl rfl hg80 rfl ?_
        refine HQ.offU rfl rfl rfl ?_
        refine HQ.offU rfl rfl rfl ?_
        refine HQ.offU rfl rfl rfl ?_
        refine HQ.offU rfl rfl rfl ?_
        refine HQ.off rfl rfl hg80 rfl ?_
        refine HQ.pu (Pu.pickAF (u := (p0.Leaf || (decide (((List.length p0.L : Nat) : Int) > 0)))) hg80) ⟨rfl, rfl, trivial⟩ rfl rfl rfl ?_
        exact HQ.mid ⟨rfl, rfl, trivial⟩ ⟨rfl, trivial⟩ rfl
    refine HQ.pu Pu.assign ⟨rfl, trivial⟩ rfl rfl rfl ?_
    refine HQ.done ?_
    refine HQ.keep [(2, _)] ⟨rfl, trivial⟩ ?_
    refine HQ.ret ?_
    obtain rfl := Option.some.inj H
    exact HQ.fin (vs := [_]) Try.results105 () ⟨rfl, trivial⟩ rfl [] trivial rfl
  · rintro r rfl a w hr
    obtain rfl := Option.some.inj H
    exact hr

/-! spec.Put2 -/
theorem spec_Put2_c {w : World} {p0 : (List Int)} {p1 : Int} {a_0 : Option Addr} {c_0 : Nat} (hb_0 : BorS kU8 a_0 c_0 p0 w.heap (Lt w Nil)) {r : (List Int)} (H : spec_Put2 p0 p1 = some r) :
    Calls Try.prog 106 #[.slice a_0 (List.length p0) c_0, .int .i64 p1] w (Rt w Nil (fun g : Option Addr × Nat => .slice g.1 (List.length r) g.2) (fun g => [OwnS kU8 g.1 g.2 r])) := by
  rw [spec_Put2] at H
  refine Calls.enter0 (N := 22) (us := [_, _]) Try.func106 rfl rfl rfl ?_
  refine HQ.rseq ?_
  refine HQ.pu Pu.assign ⟨rfl, trivial⟩ rfl rfl rfl ?_
  refine HQ.done ?_
  refine HQ.keep [(0, _), (1, _), (4, _)] ⟨rfl, rfl, rfl, trivial⟩ ?_
  refine HQ.rseq ?_
  refine HQ.op [] [1] (OT.buildF (us := []) (ys := ([] : (List Int))) (enc := (encI .u8)) (hl := fun _ => ⟨rfl, rfl⟩) [] sl22.ul sl22.szE sl22.zc rfl rfl rfl rfl rfl) trivial trivial rfl rfl rfl rfl (fun _ => rfl) fun ⟨a1, c2⟩ => ?_
  refine HQ.pu Pu.move ⟨rfl, trivial⟩ rfl rfl rfl ?_
  obtain ⟨h5, H⟩ := asr H
  refine HQ.op [1] [1] (OT.appendF (enc := (encI .u8)) (hl := fun _ => ⟨rfl, rfl⟩) sl22 ul22 hb_0 h5) ⟨rfl, rfl, trivial⟩ ⟨rfl, trivial⟩ rfl rfl rfl rfl (fun _ => rfl) fun ⟨a3, c4⟩ => ?_
  refine HQ.pu Pu.assign ⟨rfl, trivial⟩ rfl rfl rfl ?_
  refine HQ.done ?_
  refine HQ.keep [(1, _), (4, _), (5, _)] ⟨rfl, rfl, rfl, trivial⟩ ?_
  refine HQ.seq ?_
  refine HQ.rseq ?_
  refine HQ.pu Pu.move ⟨rfl, trivial⟩ rfl rfl rfl ?_
  obtain ⟨t6, h7, H⟩ := bnd H
  refine HQ.op [] [] (OT.call (us := [_, _, _]) (Pre := []) [.tmp 9, .const (.int .i64 0), .const (.int .i64 65535)] Try.call89 rfl rfl fun w F hs hF hp => spec_l1In_c h7) ⟨rfl, rfl, rfl, rfl, trivial⟩ trivial rfl rfl rfl rfl (fun _ => rfl) fun _ => ?_
  refine HQ.pu Pu.not ⟨rfl, trivial⟩ rfl rfl rfl ?_
  refine HQ.done ?_
  refine HQ.keep [(1, _), (4, _), (5, _), (11, _)] ⟨rfl, rfl, rfl, rfl, trivial⟩ ?_
  rcases brk H with ⟨hc, H⟩ | ⟨hc, H⟩
  · refine HQ.condT rfl hc ?_
    clear hc
    refine HQ.rseq ?_
    refine HQ.pu Pu.move ⟨rfl, trivial⟩ rfl rfl rfl ?_
    refine HQ.pu Pu.assign ⟨rfl, trivial⟩ rfl rfl rfl ?_
    refine HQ.done ?_
    refine HQ.keep [(1, _), (4, _), (5, _)] ⟨rfl, rfl, rfl, trivial⟩ ?_
    refine HQ.ret ?_
    refine HQ.thenR ?_
    obtain rfl := Option.some.inj H
    exact HQ.fin (vs := [_]) Try.results106 (a3, c4) ⟨rfl, trivial⟩ rfl [1] ⟨rfl, trivial⟩ rfl
  · refine HQ.condF rfl hc ?_
    clear hc
    refine HQ.skipThen ?_
    refine HQ.rseq ?_
    refine HQ.pu Pu.move ⟨rfl, trivial⟩ rfl rfl rfl ?_
    refine HQ.pu Pu.move ⟨rfl, trivial⟩ rfl rfl rfl ?_
    refine HQ.pu (Pu.quo (by decide)) ⟨rfl, rfl, trivial⟩ rfl rfl rfl ?_
    refine HQ.pu (Pu.conv ul3 ul5) ⟨rfl, trivial⟩ rfl rfl rfl ?_
    refine HQ.pu Pu.move ⟨rfl, trivial⟩ rfl rfl rfl ?_
    refine HQ.pu (Pu.rem (by decide)) ⟨rfl, rfl, trivial⟩ rfl rfl rfl ?_
    refine HQ.pu (Pu.conv ul3 ul5) ⟨rfl, trivial⟩ rfl rfl rfl ?_
    refine HQ.op [] [2] (OT.buildF (us := [.int .u8 (IntKind.u8.wrap (wrap64 (Int.tdiv p1 256))), .int .u8 (IntKind.u8.wrap (Int.tmod p1 256))]) (ys := ([(IntKind.u8.wrap (wrap64 (Int.tdiv p1 256))), (IntKind.u8.wrap (Int.tmod p1 256))] : (List Int))) (enc := (encI .u8)) (hl := fun _ => ⟨rfl, rfl⟩) [.tmp 16, .tmp 19] sl22.ul sl22.szE sl22.zc rfl rfl rfl rfl rfl) ⟨rfl, rfl, trivial⟩ trivial rfl rfl rfl rfl (fun _ => rfl) fun ⟨a8, c9⟩ => ?_
    obtain ⟨h12, H⟩ := asr H
    refine HQ.op [1, 2] [1, 2] (OT.appendG (enc := (encI .u8)) (hl := fun _ => ⟨rfl, rfl⟩) sl22 ul22 h12) ⟨rfl, rfl, trivial⟩ ⟨rfl, rfl, trivial⟩ rfl rfl rfl rfl (fun _ => rfl) fun ⟨a10, c11⟩ => ?_
    refine HQ.pu Pu.assign ⟨rfl, trivial⟩ rfl rfl rfl ?_
    refine HQ.done ?_
    refine HQ.keep [(4, _)] ⟨rfl, trivial⟩ ?_
    refine HQ.ret ?_
    obtain rfl := Option.some.inj H
    exact HQ.fin (vs := [_]) Try.results106 (a10, c11) ⟨rfl, trivial⟩ rfl [1] ⟨rfl, trivial⟩ rfl

/-! spec.PutEntry -/
theorem spec_PutEntry_c {w : World} {p0 : TEntry}   {r : (List Int)} (H : spec_PutEntry p0 = some r) :
    Calls Try.prog 130 #[.agg #[.int .i64 p0.N, .int .i64 p0.R.X0, .int .i64 p0.R.Y0, .int .i64 p0.R.X1, .int .i64 p0.R.Y1]] w (Rt w Nil (fun g : Option Addr × Nat => .slice g.1 (List.length r) g.2) (fun g => [OwnS kU8 g.1 g.2 r])) := by
  rw [spec_PutEntry] at H
  refine Calls.enter0 (N := 36) (us := [_]) Try.func130 rfl rfl rfl ?_
  refine HQ.rseq ?_
  refine HQ.op [] [1] (OT.box (cs := [.int .i64 p0.N, .int .i64 p0.R.X0, .int .i64 p0.R.Y0, .int .i64 p0.R.X1, .int .i64 p0.R.Y1]) rfl) ⟨rfl, trivial⟩ trivial rfl rfl rfl rfl (fun _ => rfl) fun b1 => ?_
  refine HQ.pu Pu.assign ⟨rfl, trivial⟩ rfl rfl rfl ?_
  refine HQ.done ?_
  refine HQ.keep [(1, _), (2, _)] ⟨rfl, rfl, trivial⟩ ?_
  refine HQ.seq ?_
  refine HQ.rseq ?_
  refine HQ.pu (Pu.fieldB fo134_0 rfl) ⟨rfl, trivial⟩ rfl rfl rfl ?_
  refine HQ.op [1] [1] (OT.loadB sc3 rfl) ⟨rfl, trivial⟩ ⟨rfl, trivial⟩ rfl rfl rfl rfl (fun _ => rfl) fun _ => ?_
  obtain ⟨t2, h3, H⟩ := bnd H
  refine HQ.op [] [] (OT.call (us := [_, _, _]) (Pre := []) [.tmp 4, .const (.int .i64 0), .const (.int .i64 65535)] Try.call89 rfl rfl fun w F hs hF hp => spec_l1In_c h3) ⟨rfl, rfl, rfl, rfl, trivial⟩ trivial rfl rfl rfl rfl (fun _ => rfl) fun _ => ?_
  refine HQ.pu Pu.not ⟨rfl, trivial⟩ rfl rfl rfl ?_
  refine HQ.pu Pu.move ⟨rfl, trivial⟩ rfl rfl rfl ?_
  obtain ⟨c7, h8, H⟩ := bnd H
  refine HQ.cutAt 5 [(12, .bool c7), (1, BP b1 0), (2, .slice none 0 0)] [(1, Box b1 [.int .i64 p0.N, .int .i64 p0.R.X0, .int .i64 p0.R.Y0, .int .i64 p0.R.X1, .int .i64 p0.R.Y1])] ?_ ?_
  · clear H
    have H := h8
    rcases brk H with ⟨hg4, H⟩ | ⟨hg4, H⟩
    · obtain rfl := Option.some.inj H
      refine HQ.off rfl rfl hg4 rfl ?_
      refine HQ.off rfl rfl hg4 rfl ?_
      refine HQ.off rfl rfl hg4 rfl ?_
      refine HQ.off rfl rfl hg4 rfl ?_
      refine HQ.pu (Pu.pickC1 hg4) ⟨rfl, rfl, trivial⟩ rfl rfl rfl ?_
      exact HQ.mid ⟨rfl, rfl, rfl, trivial⟩ ⟨rfl, trivial⟩ rfl
    · refine HQ.on rfl rfl hg4 ?_
      refine HQ.pu (Pu.fieldB fo134_1 rfl) ⟨rfl, trivial⟩ rfl rfl rfl ?_
      refine HQ.on rfl rfl hg4 ?_
      refine HQ.op [1] [1] (OT.loadBA (vs := [.int .i64 p0.R.X0, .int .i64 p0.R.Y0, .int .i64 p0.R.X1, .int .i64 p0.R.Y1]) ag132 sz132 rfl rfl) ⟨rfl, trivial⟩ ⟨rfl, trivial⟩ rfl rfl rfl rfl (fun _ => rfl) fun _ => ?_
      refine HQ.on rfl rfl hg4 ?_
      obtain ⟨t5, h6, H⟩ := bnd H
      refine HQ.op [] [] (OT.call (us := [_]) (Pre := []) [.tmp 9] Try.call128 rfl rfl fun w F hs hF hp => spec_BoxOk_c h6) ⟨rfl, rfl, trivial⟩ trivial rfl rfl rfl rfl (fun _ => rfl) fun _ => ?_
      refine HQ.on rfl rfl hg4 ?_
      refine HQ.pu Pu.not ⟨rfl, trivial⟩ rfl rfl rfl ?_
      obtain rfl := Option.some.inj H
      refine HQ.pu (Pu.pickC0 hg4) ⟨rfl, rfl, trivial⟩ rfl rfl rfl ?_
      exact HQ.mid ⟨rfl, rfl, rfl, trivial⟩ ⟨rfl, trivial⟩ rfl
  refine HQ.done ?_
  refine HQ.keep [(12, _), (1, _), (2, _)] ⟨rfl, rfl, rfl, trivial⟩ ?_
  rcases brk H with ⟨hc, H⟩ | ⟨hc, H⟩
  · refine HQ.condT rfl hc ?_
    clear hc
    refine HQ.rseq ?_
    refine HQ.op [] [2] (OT.buildF (us := []) (ys := ([] : (List Int))) (enc := (encI .u8)) (hl := fun _ => ⟨rfl, rfl⟩) [] sl22.ul sl22.szE sl22.zc rfl rfl rfl rfl rfl) trivial trivial rfl rfl rfl rfl (fun _ => rfl) fun ⟨a9, c10⟩ => ?_
    refine HQ.pu Pu.assign ⟨rfl, trivial⟩ rfl rfl rfl ?_
    refine HQ.done ?_
    refine HQ.keep [(1, _), (2, _)] ⟨rfl, rfl, trivial⟩ ?_
    refine HQ.ret ?_
    refine HQ.thenR ?_
    obtain rfl := Option.some.inj H
    exact HQ.fin (vs := [_]) Try.results130 (a9, c10) ⟨rfl, trivial⟩ rfl [2] ⟨rfl, trivial⟩ rfl
  · refine HQ.condF rfl hc ?_
    clear hc
    refine HQ.skipThen ?_
    obtain ⟨t14, h15, H⟩ := bnd H
    refine HQ.drawS mixd [(1, BP b1 0), (2, .slice none 0 0)] 21 [⟨[], [0], []⟩, ⟨[], [], []⟩, ⟨[1], [1], [1]⟩, ⟨[0], [2, 0], [0, 2]⟩, ⟨[], [], []⟩, ⟨[], [], [4]⟩, ⟨[1], [1], [5]⟩, ⟨[], [], [6]⟩, ⟨[], [], []⟩, ⟨[], [], [8]⟩, ⟨[1], [1], [9]⟩, ⟨[], [], [10]⟩, ⟨[], [], []⟩, ⟨[], [], [12]⟩, ⟨[1], [1], [13]⟩, ⟨[], [], [14]⟩, ⟨[], [], []⟩, ⟨[], [], [16]⟩, ⟨[1], [1], [17]⟩, ⟨[], [], [18]⟩, ⟨[], [3], [7, 11, 15, 19]⟩] [⟨some 0, none⟩, ⟨none, none⟩, ⟨some 3, none⟩, ⟨some 20, none⟩] (fun (g11 : (Option Addr × Nat) × (Option Addr × Nat) × (Option Addr × Nat)) => [.slice g11.1.1 (List.length ([] : (List Int))) g11.1.2, BP b1 0, .int .i64 p0.N, .slice g11.2.1.1 (List.length t14) g11.2.1.2, BP b1 1, BP b1 1, .int .i64 p0.R.X0, .int .u8 (IntKind.u8.wrap p0.R.X0), BP b1 1, BP b1 2, .int .i64 p0.R.Y0, .int .u8 (IntKind.u8.wrap p0.R.Y0), BP b1 1, BP b1 3, .int .i64 p0.R.X1, .int .u8 (IntKind.u8.wrap p0.R.X1), BP b1 1, BP b1 4, .int .i64 p0.R.Y1, .int .u8 (IntKind.u8.wrap p0.R.Y1), .slice g11.2.2.1 (List.length ([(IntKind.u8.wrap p0.R.X0), (IntKind.u8.wrap p0.R.Y0), (IntKind.u8.wrap p0.R.X1), (IntKind.u8.wrap p0.R.Y1)] : (List Int))) g11.2.2.2]) (fun (g11 : (Option Addr × Nat) × (Option Addr × Nat) × (Option Addr × Nat)) => [OwnS kU8 g11.1.1 g11.1.2 ([] : (List Int)), Box b1 [.int .i64 p0.N, .int .i64 p0.R.X0, .int .i64 p0.R.Y0, .int .i64 p0.R.X1, .int .i64 p0.R.Y1], OwnS kU8 g11.2.1.1 g11.2.1.2 t14, OwnS kU8 g11.2.2.1 g11.2.2.2 ([(IntKind.u8.wrap p0.R.X0), (IntKind.u8.wrap p0.R.Y0), (IntKind.u8.wrap p0.R.X1), (IntKind.u8.wrap p0.R.Y1)] : (List Int))]) ((none, 0), (none, 0), (none, 0)) [1] [3, 1, 4, 5] [] ⟨rfl, rfl, trivial⟩ ⟨rfl, trivial⟩ rfl (by kernel_rfl) (fun _ => rfl) (by kernel_rfl) (fun _ => rfl) ⟨?_, ?_, ?_, ?_, ?_, ?_, ?_, ?_, ?_, ?_, ?_, ?_, ?_, ?_, ?_, ?_, ?_, ?_, ?_, ?_, ?_, trivial⟩ fun g11 => ?_
    · exact OpOK.of (fun g11 => []) _ _ (fun g11 x => (x, g11.2.1, g11.2.2)) rfl rfl (fun _ => trivial) (fun g11 => OT.buildF (us := []) (ys := ([] : (List Int))) (enc := (encI .u8)) (hl := fun _ => ⟨rfl, rfl⟩) [] sl22.ul sl22.szE sl22.zc rfl rfl rfl rfl rfl) (fun _ _ => ⟨rfl, rfl, ⟨rfl, rfl, rfl, rfl, trivial⟩⟩)
    · exact OpOK.of (fun g11 => [(.tmp 1, BP b1 0)]) _ _ (fun g11 _ => g11) rfl rfl (fun _ => ⟨rfl, trivial⟩) (fun g11 => Pu.toOT (Pu.fieldB fo134_0 rfl)) (fun _ _ => ⟨rfl, rfl, ⟨rfl, rfl, rfl, rfl, trivial⟩⟩)
    · exact OpOK.of (fun g11 => [(.tmp 15, BP b1 0)]) _ _ (fun g11 _ => g11) rfl rfl (fun _ => ⟨rfl, trivial⟩) (fun g11 => OT.loadB sc3 rfl) (fun _ _ => ⟨rfl, rfl, ⟨rfl, rfl, rfl, rfl, trivial⟩⟩)
    · exact OpOK.of (fun g11 => [(.func 106, .func (.func 106) #[] #[]), (.tmp 14, .slice g11.1.1 (List.length ([] : (List Int))) g11.1.2), (.tmp 16, .int .i64 p0.N)]) _ _ (fun g11 x => (g11.1, x, g11.2.2)) rfl rfl (fun _ => ⟨rfl, rfl, rfl, trivial⟩) (fun g11 => OT.call (us := [_, _]) (Pre := [OwnS kU8 g11.1.1 g11.1.2 ([] : (List Int))]) [.tmp 14, .tmp 16] Try.call106 rfl rfl fun w F hs hF hp => spec_Put2_c (hs.lend hF 0 rfl) h15) (fun _ _ => ⟨rfl, rfl, ⟨rfl, rfl, rfl, rfl, trivial⟩⟩)
    · exact OpOK.of (fun g11 => [(.tmp 1, BP b1 0)]) _ _ (fun g11 _ => g11) rfl rfl (fun _ => ⟨rfl, trivial⟩) (fun g11 => Pu.toOT (Pu.fieldB fo134_1 rfl)) (fun _ _ => ⟨rfl, rfl, ⟨rfl, rfl, rfl, rfl, trivial⟩⟩)
    · exact OpOK.of (fun g11 => [(.tmp 18, BP b1 1)]) _ _ (fun g11 _ => g11) rfl rfl (fun _ => ⟨rfl, trivial⟩) (fun g11 => Pu.toOT (Pu.fieldB fo132_0 rfl)) (fun _ _ => ⟨rfl, rfl, ⟨rfl, rfl, rfl, rfl, trivial⟩⟩)
    · exact OpOK.of (fun g11 => [(.tmp 19, BP b1 1)]) _ _ (fun g11 _ => g11) rfl rfl (fun _ => ⟨rfl, trivial⟩) (fun g11 => OT.loadB sc3 rfl) (fun _ _ => ⟨rfl, rfl, ⟨rfl, rfl, rfl, rfl, trivial⟩⟩)
    · exact OpOK.of (fun g11 => [(.tmp 20, .int .i64 p0.R.X0)]) _ _ (fun g11 _ => g11) rfl rfl (fun _ => ⟨rfl, trivial⟩) (fun g11 => Pu.toOT (Pu.conv ul3 ul5)) (fun _ _ => ⟨rfl, rfl, ⟨rfl, rfl, rfl, rfl, trivial⟩⟩)
    · exact OpOK.of (fun g11 => [(.tmp 1, BP b1 0)]) _ _ (fun g11 _ => g11) rfl rfl (fun _ => ⟨rfl, trivial⟩) (fun g11 => Pu.toOT (Pu.fieldB fo134_1 rfl)) (fun _ _ => ⟨rfl, rfl, ⟨rfl, rfl, rfl, rfl, trivial⟩⟩)
    · exact OpOK.of (fun g11 => [(.tmp 22, BP b1 1)]) _ _ (fun g11 _ => g11) rfl rfl (fun _ => ⟨rfl, trivial⟩) (fun g11 => Pu.toOT (Pu.fieldB fo132_1 rfl)) (fun _ _ => ⟨rfl, rfl, ⟨rfl, rfl, rfl, rfl, trivial⟩⟩)
    · exact OpOK.of (fun g11 => [(.tmp 23, BP b1 2)]) _ _ (fun g11 _ => g11) rfl rfl (fun _ => ⟨rfl, trivial⟩) (fun g11 => OT.loadB sc3 rfl) (fun _ _ => ⟨rfl, rfl, ⟨rfl, rfl, rfl, rfl, trivial⟩⟩)
    · exact OpOK.of (fun g11 => [(.tmp 24, .int .i64 p0.R.Y0)]) _ _ (fun g11 _ => g11) rfl rfl (fun _ => ⟨rfl, trivial⟩) (fun g11 => Pu.toOT (Pu.conv ul3 ul5)) (fun _ _ => ⟨rfl, rfl, ⟨rfl, rfl, rfl, rfl, trivial⟩⟩)
    · exact OpOK.of (fun g11 => [(.tmp 1, BP b1 0)]) _ _ (fun g11 _ => g11) rfl rfl (fun _ => ⟨rfl, trivial⟩) (fun g11 => Pu.toOT (Pu.fieldB fo134_1 rfl)) (fun _ _ => ⟨rfl, rfl, ⟨rfl, rfl, rfl, rfl, trivial⟩⟩)
    · exact OpOK.of (fun g11 => [(.tmp 26, BP b1 1)]) _ _ (fun g11 _ => g11) rfl rfl (fun _ => ⟨rfl, trivial⟩) (fun g11 => Pu.toOT (Pu.fieldB fo132_2 rfl)) (fun _ _ => ⟨rfl, rfl, ⟨rfl, rfl, rfl, rfl, trivial⟩⟩)
    · exact OpOK.of (fun g11 => [(.tmp 27, BP b1 3)]) _ _ (fun g11 _ => g11) rfl rfl (fun _ => ⟨rfl, trivial⟩) (fun g11 => OT.loadB sc3 rfl) (fun _ _ => ⟨rfl, rfl, ⟨rfl, rfl, rfl, rfl, trivial⟩⟩)
    · exact OpOK.of (fun g11 => [(.tmp 28, .int .i64 p0.R.X1)]) _ _ (fun g11 _ => g11) rfl rfl (fun _ => ⟨rfl, trivial⟩) (fun g11 => Pu.toOT (Pu.conv ul3 ul5)) (fun _ _ => ⟨rfl, rfl, ⟨rfl, rfl, rfl, rfl, trivial⟩⟩)
    · exact OpOK.of (fun g11 => [(.tmp 1, BP b1 0)]) _ _ (fun g11 _ => g11) rfl rfl (fun _ => ⟨rfl, trivial⟩) (fun g11 => Pu.toOT (Pu.fieldB fo134_1 rfl)) (fun _ _ => ⟨rfl, rfl, ⟨rfl, rfl, rfl, rfl, trivial⟩⟩)
    · exact OpOK.of (fun g11 => [(.tmp 30, BP b1 1)]) _ _ (fun g11 _ => g11) rfl rfl (fun _ => ⟨rfl, trivial⟩) (fun g11 => Pu.toOT (Pu.fieldB fo132_3 rfl)) (fun _ _ => ⟨rfl, rfl, ⟨rfl, rfl, rfl, rfl, trivial⟩⟩)
    · exact OpOK.of (fun g11 => [(.tmp 31, BP b1 4)]) _ _ (fun g11 _ => g11) rfl rfl (fun _ => ⟨rfl, trivial⟩) (fun g11 => OT.loadB sc3 rfl) (fun _ _ => ⟨rfl, rfl, ⟨rfl, rfl, rfl, rfl, trivial⟩⟩)
    · exact OpOK.of (fun g11 => [(.tmp 32, .int .i64 p0.R.Y1)]) _ _ (fun g11 _ => g11) rfl rfl (fun _ => ⟨rfl, trivial⟩) (fun g11 => Pu.toOT (Pu.conv ul3 ul5)) (fun _ _ => ⟨rfl, rfl, ⟨rfl, rfl, rfl, rfl, trivial⟩⟩)
    · exact OpOK.of (fun g11 => [(.tmp 21, .int .u8 (IntKind.u8.wrap p0.R.X0)), (.tmp 25, .int .u8 (IntKind.u8.wrap p0.R.Y0)), (.tmp 29, .int .u8 (IntKind.u8.wrap p0.R.X1)), (.tmp 33, .int .u8 (IntKind.u8.wrap p0.R.Y1))]) _ _ (fun g11 x => (g11.1, g11.2.1, x)) rfl rfl (fun _ => ⟨rfl, rfl, rfl, rfl, trivial⟩) (fun g11 => OT.buildF (us := [.int .u8 (IntKind.u8.wrap p0.R.X0), .int .u8 (IntKind.u8.wrap p0.R.Y0), .int .u8 (IntKind.u8.wrap p0.R.X1), .int .u8 (IntKind.u8.wrap p0.R.Y1)]) (ys := ([(IntKind.u8.wrap p0.R.X0), (IntKind.u8.wrap p0.R.Y0), (IntKind.u8.wrap p0.R.X1), (IntKind.u8.wrap p0.R.Y1)] : (List Int))) (enc := (encI .u8)) (hl := fun _ => ⟨rfl, rfl⟩) [.tmp 21, .tmp 25, .tmp 29, .tmp 33] sl22.ul sl22.szE sl22.zc rfl rfl rfl rfl rfl) (fun _ _ => ⟨rfl, rfl, ⟨rfl, rfl, rfl, rfl, trivial⟩⟩)
    refine HQ.keep [(2, _), (17, _), (34, _)] ⟨rfl, rfl, rfl, trivial⟩ ?_
    refine HQ.keepR [(1, _), (3, _), (4, _), (5, _)] ⟨rfl, rfl, rfl, rfl, trivial⟩ rfl ?_
    obtain ⟨h22, H⟩ := asr H
    refine HQ.op [4, 5] [4, 5] (OT.appendG (enc := (encI .u8)) (hl := fun _ => ⟨rfl, rfl⟩) sl22 ul22 h22) ⟨rfl, rfl, trivial⟩ ⟨rfl, rfl, trivial⟩ rfl rfl rfl rfl (fun _ => rfl) fun ⟨a20, c21⟩ => ?_
    refine HQ.pu Pu.assign ⟨rfl, trivial⟩ rfl rfl rfl ?_
    refine HQ.done ?_
    refine HQ.keep [(2, _)] ⟨rfl, trivial⟩ ?_
    refine HQ.ret ?_
    obtain rfl := Option.some.inj H
    exact HQ.fin (vs := [_]) Try.results130 (a20, c21) ⟨rfl, trivial⟩ rfl [4] ⟨rfl, trivial⟩ rfl

/-! spec.Pad -/
theorem spec_Pad_c {w : World} {k : Nat} {p0 : (List Int)} {p1 : Int} {a_0 : Option Addr} {c_0 : Nat} (hb_0 : BorS kU8 a_0 c_0 p0 w.heap (Lt w Nil)) {r : (List Int)} (H : spec_Pad k p0 p1 = some r) :
    Calls Try.prog 92 #[.slice a_0 (List.length p0) c_0, .int .i64 p1] w (Rt w Nil (fun g : Option Addr × Nat => .slice g.1 (List.length r) g.2) (fun g => [OwnS kU8 g.1 g.2 r])) := by
  rw [spec_Pad] at H
  refine Calls.enter0 (N := 21) (us := [_, _]) Try.func92 rfl rfl rfl ?_
  refine HQ.rseq ?_
  refine HQ.pu Pu.assign ⟨rfl, trivial⟩ rfl rfl rfl ?_
  refine HQ.done ?_
  refine HQ.keep [(0, _), (1, _), (4, _)] ⟨rfl, rfl, rfl, trivial⟩ ?_
  refine HQ.rseq ?_
  refine HQ.op [] [1] (OT.buildF (us := []) (ys := ([] : (List Int))) (enc := (encI .u8)) (hl := fun _ => ⟨rfl, rfl⟩) [] sl22.ul sl22.szE sl22.zc rfl rfl rfl rfl rfl) trivial trivial rfl rfl rfl rfl (fun _ => rfl) fun ⟨a1, c2⟩ => ?_
  refine HQ.pu Pu.move ⟨rfl, trivial⟩ rfl rfl rfl ?_
  obtain ⟨h5, H⟩ := asr H
  refine HQ.op [1] [1] (OT.appendF (enc := (encI .u8)) (hl := fun _ => ⟨rfl, rfl⟩) sl22 ul22 hb_0 h5) ⟨rfl, rfl, trivial⟩ ⟨rfl, trivial⟩ rfl rfl rfl rfl (fun _ => rfl) fun ⟨a3, c4⟩ => ?_
  refine HQ.pu Pu.assign ⟨rfl, trivial⟩ rfl rfl rfl ?_
  refine HQ.done ?_
  refine HQ.keep [(1, _), (4, _), (5, _)] ⟨rfl, rfl, rfl, trivial⟩ ?_
  refine HQ.seq ?_
  refine HQ.block ?_
  obtain ⟨o27, h31, H⟩ := bnd H
  refine HQ.loop h31 0 (fun (s : (List Int)) (g : Option Addr × Nat) => match s, g with | l12, (a13, c14) => [(1, .int .i64 p1), (4, .slice none 0 0), (5, .slice a13 (List.length l12) c14)]) (fun (s : (List Int)) (g : Option Addr × Nat) => match s, g with | l12, (a13, c14) => [(1, OwnS kU8 a13 c14 l12)]) (fun _ _ _ => False) (a3, c4) ⟨rfl, rfl, rfl, trivial⟩ ⟨rfl, trivial⟩ rfl ?_ ?_ ?_
  · clear H h31
    rintro l12 ⟨a13, c14⟩ o H
    rw [spec_Pad_b0] at H
    refine HQ.keep [(1, _), (4, _), (5, _)] ⟨rfl, rfl, rfl, trivial⟩ ?_
    refine HQ.keepR [(1, _)] ⟨rfl, trivial⟩ rfl ?_
    refine HQ.seq ?_
    refine HQ.rseq ?_
    refine HQ.pu Pu.move ⟨rfl, trivial⟩ rfl rfl rfl ?_
    refine HQ.pu (Pu.len ul22) ⟨rfl, trivial⟩ rfl rfl rfl ?_
    refine HQ.pu Pu.move ⟨rfl, trivial⟩ rfl rfl rfl ?_
    refine HQ.pu Pu.lss ⟨rfl, rfl, trivial⟩ rfl rfl rfl ?_
    refine HQ.pu Pu.move ⟨rfl, trivial⟩ rfl rfl rfl ?_
    refine HQ.cutAt 3 [(16, .bool ((decide (((List.length l12 : Nat) : Int) < p1)) && (decide (p1 ≤ 64)))), (1, .int .i64 p1), (4, .slice none 0 0), (5, .slice a13 (List.length l12) c14)] [(1, OwnS kU8 a13 c14 l12)] ?_ ?_
    · rcases Bool.eq_false_or_eq_true (decide (((List.length l12 : Nat) : Int) < p1)) with hg21 | hg21
      · refine HQ.on rfl rfl hg21 ?_
        refine HQ.pu Pu.move ⟨rfl, trivial⟩ rfl rfl rfl ?_
        refine HQ.on rfl rfl hg21 ?_
        refine HQ.pu Pu.leq ⟨rfl, rfl, trivial⟩ rfl rfl rfl ?_
        refine HQ.pu (Pu.pickAT hg21) ⟨rfl, rfl, trivial⟩ rfl rfl rfl ?_
        exact HQ.mid ⟨rfl, rfl, rfl, rfl, trivial⟩ ⟨rfl, trivial⟩ rfl
      · refine HQ.off rfl rfl hg21 rfl ?_
        refine HQ.off rfl rfl hg21 rfl ?_
        refine HQ.pu (Pu.pickAF (u := (decide (p1 ≤ 64))) hg21) ⟨rfl, rfl, trivial⟩ rfl rfl rfl ?_
        exact HQ.mid ⟨rfl, rfl, rfl, rfl, trivial⟩ ⟨rfl, trivial⟩ rfl
    refine HQ.done ?_
    refine HQ.keep [(16, _), (1, _), (4, _), (5, _)] ⟨rfl, rfl, rfl, rfl, trivial⟩ ?_
    rcases brk H with ⟨hc, H⟩ | ⟨hc, H⟩
    · refine HQ.condT rfl hc ?_
      clear hc
      refine HQ.skipThen ?_
      refine HQ.block ?_
      refine HQ.regionQ ?_
      refine HQ.pu Pu.move ⟨rfl, trivial⟩ rfl rfl rfl ?_
      refine HQ.op [] [4] (OT.buildF (us := [.int .u8 0]) (ys := ([0] : (List Int))) (enc := (encI .u8)) (hl := fun _ => ⟨rfl, rfl⟩) [.const (.int .u8 0)] sl22.ul sl22.szE sl22.zc rfl rfl rfl rfl rfl) ⟨rfl, trivial⟩ trivial rfl rfl rfl rfl (fun _ => rfl) fun ⟨a22, c23⟩ => ?_
      obtain ⟨h26, H⟩ := asr H
      refine HQ.op [1, 4] [1, 4] (OT.appendG (enc := (encI .u8)) (hl := fun _ => ⟨rfl, rfl⟩) sl22 ul22 h26) ⟨rfl, rfl, trivial⟩ ⟨rfl, rfl, trivial⟩ rfl rfl rfl rfl (fun _ => rfl) fun ⟨a24, c25⟩ => ?_
      refine HQ.pu Pu.assign ⟨rfl, trivial⟩ rfl rfl rfl ?_
      refine HQ.done ?_
      refine HQ.keep [(1, _), (4, _), (5, _)] ⟨rfl, rfl, rfl, trivial⟩ ?_
      refine HQ.blkN ?_
      obtain rfl := Option.some.inj H
      exact HQ.next (a24, c25) ⟨rfl, rfl, rfl, trivial⟩ ⟨rfl, trivial⟩ rfl
    · refine HQ.condF rfl hc ?_
      clear hc
      refine HQ.exit ?_
      refine HQ.thenE ?_
      obtain rfl := Option.some.inj H
      exact HQ.out (a13, c14) ⟨rfl, rfl, rfl, trivial⟩ ⟨rfl, trivial⟩ rfl
  · rintro l28 rfl ⟨a29, c30⟩
    clear h31
    replace H := H
    refine HQ.keep [(1, _), (4, _), (5, _)] ⟨rfl, rfl, rfl, trivial⟩ ?_
    refine HQ.keepR [(1, _)] ⟨rfl, trivial⟩ rfl ?_
    refine HQ.blkE ?_
    refine HQ.thenN ?_
    refine HQ.rseq ?_
    refine HQ.pu Pu.move ⟨rfl, trivial⟩ rfl rfl rfl ?_
    refine HQ.pu Pu.assign ⟨rfl, trivial⟩ rfl rfl rfl ?_
    refine HQ.done ?_
    refine HQ.keep [(4, _)] ⟨rfl, trivial⟩ ?_
    refine HQ.ret ?_
    obtain rfl := Option.some.inj H
    exact HQ.fin (vs := [_]) Try.results92 (a29, c30) ⟨rfl, trivial⟩ rfl [1] ⟨rfl, trivial⟩ rfl
  · exact fun r h a w hf => hf.elim

/-! spec.PutNode -/
theorem spec_PutNode_c {w : World} {k : Nat} {p0 : TNode} {a_0 : Option Addr} {c_0 : Nat} (hb_0 : BorS kTEntry a_0 c_0 p0.L w.heap (Lt w Nil)) {r : (List Int)} (H : spec_PutNode k p0 = some r) :
    Calls Try.prog 107 #[.agg #[.bool p0.Leaf, .slice a_0 (List.length p0.L) c_0]] w (Rt w Nil (fun g : Option Addr × Nat => .slice g.1 (List.length r) g.2) (fun g => [OwnS kU8 g.1 g.2 r])) := by
  rw [spec_PutNode] at H
  refine Calls.enter0 (N := 37) (us := [_]) Try.func107 rfl rfl rfl ?_
  refine HQ.rseq ?_
  refine HQ.op [] [1] (OT.box (cs := [.bool p0.Leaf, .slice a_0 (List.length p0.L) c_0]) rfl) ⟨rfl, trivial⟩ trivial rfl rfl rfl rfl (fun _ => rfl) fun b1 => ?_
  refine HQ.pu Pu.assign ⟨rfl, trivial⟩ rfl rfl rfl ?_
  refine HQ.done ?_
  refine HQ.keep [(1, _), (2, _)] ⟨rfl, rfl, trivial⟩ ?_
  refine HQ.seq ?_
  refine HQ.rseq ?_
  refine HQ.op [1] [1] (OT.loadBA (vs := [.bool p0.Leaf, .slice a_0 (List.length p0.L) c_0]) ag47 sz47 rfl rfl) ⟨rfl, trivial⟩ ⟨rfl, trivial⟩ rfl rfl rfl rfl (fun _ => rfl) fun _ => ?_
  obtain ⟨t2, h3, H⟩ := bnd H
  refine HQ.op [] [] (OT.call (us := [_]) (Pre := []) [.tmp 6] Try.call105 rfl rfl fun w F hs hF hp => spec_NodeOk_c (hb_0.pass hp) h3) ⟨rfl, rfl, trivial⟩ trivial rfl rfl rfl rfl (fun _ => rfl) fun _ => ?_
  refine HQ.pu Pu.not ⟨rfl, trivial⟩ rfl rfl rfl ?_
  refine HQ.done ?_
  refine HQ.keep [(1, _), (2, _), (8, _)] ⟨rfl, rfl, rfl, trivial⟩ ?_
  rcases brk H with ⟨hc, H⟩ | ⟨hc, H⟩
  · refine HQ.condT rfl hc ?_
    clear hc
    refine HQ.rseq ?_
    refine HQ.op [] [2] (OT.buildF (us := []) (ys := ([] : (List Int))) (enc := (encI .u8)) (hl := fun _ => ⟨rfl, rfl⟩) [] sl22.ul sl22.szE sl22.zc rfl rfl rfl rfl rfl) trivial trivial rfl rfl rfl rfl (fun _ => rfl) fun ⟨a4, c5⟩ => ?_
    refine HQ.pu Pu.assign ⟨rfl, trivial⟩ rfl rfl rfl ?_
    refine HQ.done ?_
    refine HQ.keep [(1, _), (2, _)] ⟨rfl, rfl, trivial⟩ ?_
    refine HQ.ret ?_
    refine HQ.thenR ?_
    obtain rfl := Option.some.inj H
    exact HQ.fin (vs := [_]) Try.results107 (a4, c5) ⟨rfl, trivial⟩ rfl [2] ⟨rfl, trivial⟩ rfl
  · refine HQ.condF rfl hc ?_
    clear hc
    refine HQ.skipThen ?_
    refine HQ.rseq ?_
    refine HQ.pu (Pu.fieldB fo47_1 rfl) ⟨rfl, trivial⟩ rfl rfl rfl ?_
    refine HQ.op [1] [1] (OT.loadB sc45 rfl) ⟨rfl, trivial⟩ ⟨rfl, trivial⟩ rfl rfl rfl rfl (fun _ => rfl) fun _ => ?_
    refine HQ.pu (Pu.len ul45) ⟨rfl, trivial⟩ rfl rfl rfl ?_
    refine HQ.pu Pu.assign ⟨rfl, trivial⟩ rfl rfl rfl ?_
    refine HQ.done ?_
    refine HQ.keep [(1, _), (2, _), (3, _)] ⟨rfl, rfl, rfl, trivial⟩ ?_
    refine HQ.seq ?_
    refine HQ.rseq ?_
    refine HQ.pu (Pu.fieldB fo47_0 rfl) ⟨rfl, trivial⟩ rfl rfl rfl ?_
    refine HQ.op [1] [1] (OT.loadB sc4 rfl) ⟨rfl, trivial⟩ ⟨rfl, trivial⟩ rfl rfl rfl rfl (fun _ => rfl) fun _ => ?_
    refine HQ.done ?_
    refine HQ.keep [(1, _), (2, _), (3, _), (14, _)] ⟨rfl, rfl, rfl, rfl, trivial⟩ ?_
    rcases brk H with ⟨hc, H⟩ | ⟨hc, H⟩
    · refine HQ.condT rfl hc ?_
      clear hc
      refine HQ.region ?_
      refine HQ.pu Pu.move ⟨rfl, trivial⟩ rfl rfl rfl ?_
      refine HQ.pu Pu.add ⟨rfl, rfl, trivial⟩ rfl rfl rfl ?_
      refine HQ.pu Pu.assign ⟨rfl, trivial⟩ rfl rfl rfl ?_
      refine HQ.done ?_
      refine HQ.keep [(1, _), (2, _), (3, _)] ⟨rfl, rfl, rfl, trivial⟩ ?_
      refine HQ.rseq ?_
      refine HQ.pu Pu.move ⟨rfl, trivial⟩ rfl rfl rfl ?_
      refine HQ.pu (Pu.conv ul3 ul5) ⟨rfl, trivial⟩ rfl rfl rfl ?_
      refine HQ.op [] [3] (OT.buildF (us := [.int .u8 (IntKind.u8.wrap (wrap64 (((List.length p0.L : Nat) : Int) + 16)))]) (ys := ([(IntKind.u8.wrap (wrap64 (((List.length p0.L : Nat) : Int) + 16)))] : (List Int))) (enc := (encI .u8)) (hl := fun _ => ⟨rfl, rfl⟩) [.tmp 18] sl22.ul sl22.szE sl22.zc rfl rfl rfl rfl rfl) ⟨rfl, trivial⟩ trivial rfl rfl rfl rfl (fun _ => rfl) fun ⟨a6, c7⟩ => ?_
      refine HQ.pu Pu.assign ⟨rfl, trivial⟩ rfl rfl rfl ?_
      refine HQ.done ?_
      refine HQ.keep [(1, _), (2, _), (4, _)] ⟨rfl, rfl, rfl, trivial⟩ ?_
      refine HQ.seq ?_
      refine HQ.rseq ?_
      refine HQ.pu Pu.assign ⟨rfl, trivial⟩ rfl rfl rfl ?_
      refine HQ.done ?_
      refine HQ.keep [(1, _), (2, _), (4, _), (5, _)] ⟨rfl, rfl, rfl, rfl, trivial⟩ ?_
      refine HQ.block ?_
      obtain ⟨o36, h45, H⟩ := bnd H
      refine HQ.loop h45 0 (fun (s : (List Int) × Int) (g : Option Addr × Nat) => match s, g with | (l16, i19), (a17, c18) => [(1, BP b1 0), (2, .slice none 0 0), (4, .slice a17 (List.length l16) c18), (5, .int .i64 i19)]) (fun (s : (List Int) × Int) (g : Option Addr × Nat) => match s, g with | (l16, i19), (a17, c18) => [(1, Box b1 [.bool p0.Leaf, .slice a_0 (List.length p0.L) c_0]), (3, OwnS kU8 a17 c18 l16)]) (fun _ _ _ => False) (a6, c7) ⟨rfl, rfl, rfl, rfl, trivial⟩ ⟨rfl, rfl, trivial⟩ rfl ?_ ?_ ?_
      · clear H h45
        rintro ⟨l16, i19⟩ ⟨a17, c18⟩ o H
        rw [spec_PutNode_b0] at H
        refine HQ.keep [(1, _), (2, _), (4, _), (5, _)] ⟨rfl, rfl, rfl, rfl, trivial⟩ ?_
        refine HQ.keepR [(1, _), (3, _)] ⟨rfl, rfl, trivial⟩ rfl ?_
        refine HQ.seq ?_
        refine HQ.rseq ?_
        refine HQ.pu Pu.move ⟨rfl, trivial⟩ rfl rfl rfl ?_
        refine HQ.pu (Pu.fieldB fo47_1 rfl) ⟨rfl, trivial⟩ rfl rfl rfl ?_
        refine HQ.op [1] [1] (OT.loadB sc45 rfl) ⟨rfl, trivial⟩ ⟨rfl, trivial⟩ rfl rfl rfl rfl (fun _ => rfl) fun _ => ?_
        refine HQ.pu (Pu.len ul45) ⟨rfl, trivial⟩ rfl rfl rfl ?_
        refine HQ.pu Pu.lss ⟨rfl, rfl, trivial⟩ rfl rfl rfl ?_
        refine HQ.done ?_
        refine HQ.keep [(1, _), (2, _), (4, _), (5, _), (24, _)] ⟨rfl, rfl, rfl, rfl, rfl, trivial⟩ ?_
        rcases brk H with ⟨hc, H⟩ | ⟨hc, H⟩
        · refine HQ.condT rfl hc ?_
          clear hc
          refine HQ.skipThen ?_
          refine HQ.seq ?_
          refine HQ.block ?_
          refine HQ.regionQ ?_
          refine HQ.pu Pu.move ⟨rfl, trivial⟩ rfl rfl rfl ?_
          refine HQ.pu (Pu.fieldB fo47_1 rfl) ⟨rfl, trivial⟩ rfl rfl rfl ?_
          refine HQ.op [1] [1] (OT.loadB sc45 rfl) ⟨rfl, trivial⟩ ⟨rfl, trivial⟩ rfl rfl rfl rfl (fun _ => rfl) fun _ => ?_
          refine HQ.pu Pu.move ⟨rfl, trivial⟩ rfl rfl rfl ?_
          obtain ⟨h28, H⟩ := asr H
          refine HQ.op [] [] (OT.indexB ul45 sz134 hb_0 h28) ⟨rfl, rfl, trivial⟩ trivial rfl rfl rfl rfl (fun _ => rfl) fun _ => ?_
          refine HQ.op [] [] (OT.loadFA (vs := [.int .i64 ((gt p0.L i19).N), .int .i64 ((gt p0.L i19).R.X0), .int .i64 ((gt p0.L i19).R.Y0), .int .i64 ((gt p0.L i19).R.X1), .int .i64 ((gt p0.L i19).R.Y1)]) ag134 sz134 hb_0 h28 rfl rfl) ⟨rfl, trivial⟩ trivial rfl rfl rfl rfl (fun _ => rfl) fun _ => ?_
          obtain ⟨t29, h30, H⟩ := bnd H
          refine HQ.op [] [6] (OT.call (us := [_]) (Pre := []) [.tmp 32] Try.call130 rfl rfl fun w F hs hF hp => spec_PutEntry_c h30) ⟨rfl, rfl, trivial⟩ trivial rfl rfl rfl rfl (fun _ => rfl) fun ⟨a31, c32⟩ => ?_
          obtain ⟨h35, H⟩ := asr H
          refine HQ.op [3, 6] [3, 6] (OT.appendG (enc := (encI .u8)) (hl := fun _ => ⟨rfl, rfl⟩) sl22 ul22 h35) ⟨rfl, rfl, trivial⟩ ⟨rfl, rfl, trivial⟩ rfl rfl rfl rfl (fun _ => rfl) fun ⟨a33, c34⟩ => ?_
          refine HQ.pu Pu.assign ⟨rfl, trivial⟩ rfl rfl rfl ?_
          refine HQ.done ?_
          refine HQ.keep [(1, _), (2, _), (4, _), (5, _)] ⟨rfl, rfl, rfl, rfl, trivial⟩ ?_
          refine HQ.blkN ?_
          refine HQ.thenN ?_
          refine HQ.regionQ ?_
          refine HQ.pu Pu.move ⟨rfl, trivial⟩ rfl rfl rfl ?_
          refine HQ.pu Pu.add ⟨rfl, rfl, trivial⟩ rfl rfl rfl ?_
          refine HQ.pu Pu.assign ⟨rfl, trivial⟩ rfl rfl rfl ?_
          refine HQ.done ?_
          refine HQ.keep [(1, _), (2, _), (4, _), (5, _)] ⟨rfl, rfl, rfl, rfl, trivial⟩ ?_
          obtain rfl := Option.some.inj H
          exact HQ.next (a33, c34) ⟨rfl, rfl, rfl, rfl, trivial⟩ ⟨rfl, rfl, trivial⟩ rfl
        · refine HQ.condF rfl hc ?_
          clear hc
          refine HQ.exit ?_
          refine HQ.thenE ?_
          obtain rfl := Option.some.inj H
          exact HQ.out (a17, c18) ⟨rfl, rfl, rfl, rfl, trivial⟩ ⟨rfl, rfl, trivial⟩ rfl
      · rintro ⟨l37, i40⟩ rfl ⟨a38, c39⟩
        clear h45
        replace H := H
        refine HQ.keep [(1, _), (2, _), (4, _), (5, _)] ⟨rfl, rfl, rfl, rfl, trivial⟩ ?_
        refine HQ.keepR [(1, _), (3, _)] ⟨rfl, rfl, trivial⟩ rfl ?_
        refine HQ.blkE ?_
        refine HQ.thenN ?_
        refine HQ.rseq ?_
        refine HQ.pu Pu.move ⟨rfl, trivial⟩ rfl rfl rfl ?_
        obtain ⟨t41, h42, H⟩ := bnd H
        refine HQ.op [3] [7, 3] (OT.call (us := [_, _]) (Pre := [OwnS kU8 a38 c39 l37]) [.tmp 35, .const (.int .i64 25)] Try.call92 rfl rfl fun w F hs hF hp => spec_Pad_c (hs.lend hF 0 rfl) h42) ⟨rfl, rfl, rfl, trivial⟩ ⟨rfl, trivial⟩ rfl rfl rfl rfl (fun _ => rfl) fun ⟨a43, c44⟩ => ?_
        refine HQ.pu Pu.assign ⟨rfl, trivial⟩ rfl rfl rfl ?_
        refine HQ.done ?_
        refine HQ.keep [(2, _)] ⟨rfl, trivial⟩ ?_
        refine HQ.ret ?_
        obtain rfl := Option.some.inj H
        exact HQ.fin (vs := [_]) Try.results107 (a43, c44) ⟨rfl, trivial⟩ rfl [7] ⟨rfl, trivial⟩ rfl
      · exact fun r h a w hf => hf.elim
    · refine HQ.condF rfl hc ?_
      clear hc
      refine HQ.skipThen ?_
      refine HQ.rseq ?_
      refine HQ.pu Pu.move ⟨rfl, trivial⟩ rfl rfl rfl ?_
      refine HQ.pu (Pu.conv ul3 ul5) ⟨rfl, trivial⟩ rfl rfl rfl ?_
      refine HQ.op [] [8] (OT.buildF (us := [.int .u8 (IntKind.u8.wrap ((List.length p0.L : Nat) : Int))]) (ys := ([(IntKind.u8.wrap ((List.length p0.L : Nat) : Int))] : (List Int))) (enc := (encI .u8)) (hl := fun _ => ⟨rfl, rfl⟩) [.tmp 18] sl22.ul sl22.szE sl22.zc rfl rfl rfl rfl rfl) ⟨rfl, trivial⟩ trivial rfl rfl rfl rfl (fun _ => rfl) fun ⟨a46, c47⟩ => ?_
      refine HQ.pu Pu.assign ⟨rfl, trivial⟩ rfl rfl rfl ?_
      refine HQ.done ?_
      refine HQ.keep [(1, _), (2, _), (4, _)] ⟨rfl, rfl, rfl, trivial⟩ ?_
      refine HQ.seq ?_
      refine HQ.rseq ?_
      refine HQ.pu Pu.assign ⟨rfl, trivial⟩ rfl rfl rfl ?_
      refine HQ.done ?_
      refine HQ.keep [(1, _), (2, _), (4, _), (5, _)] ⟨rfl, rfl, rfl, rfl, trivial⟩ ?_
      refine HQ.block ?_
      obtain ⟨o76, h85, H⟩ := bnd H
      refine HQ.loop h85 0 (fun (s : (List Int) × Int) (g : Option Addr × Nat) => match s, g with | (l56, i59), (a57, c58) => [(1, BP b1 0), (2, .slice none 0 0), (4, .slice a57 (List.length l56) c58), (5, .int .i64 i59)]) (fun (s : (List Int) × Int) (g : Option Addr × Nat) => match s, g with | (l56, i59), (a57, c58) => [(1, Box b1 [.bool p0.Leaf, .slice a_0 (List.length p0.L) c_0]), (8, OwnS kU8 a57 c58 l56)]) (fun _ _ _ => False) (a46, c47) ⟨rfl, rfl, rfl, rfl, trivial⟩ ⟨rfl, rfl, trivial⟩ rfl ?_ ?_ ?_
      · clear H h85
        rintro ⟨l56, i59⟩ ⟨a57, c58⟩ o H
        rw [spec_PutNode_b1] at H
        refine HQ.keep [(1, _), (2, _), (4, _), (5, _)] ⟨rfl, rfl, rfl, rfl, trivial⟩ ?_
        refine HQ.keepR [(1, _), (8, _)] ⟨rfl, rfl, trivial⟩ rfl ?_
        refine HQ.seq ?_
        refine HQ.rseq ?_
        refine HQ.pu Pu.move ⟨rfl, trivial⟩ rfl rfl rfl ?_
        refine HQ.pu (Pu.fieldB fo47_1 rfl) ⟨rfl, trivial⟩ rfl rfl rfl ?_
        refine HQ.op [1] [1] (OT.loadB sc45 rfl) ⟨rfl, trivial⟩ ⟨rfl, trivial⟩ rfl rfl rfl rfl (fun _ => rfl) fun _ => ?_
        refine HQ.pu (Pu.len ul45) ⟨rfl, trivial⟩ rfl rfl rfl ?_
        refine HQ.pu Pu.lss ⟨rfl, rfl, trivial⟩ rfl rfl rfl ?_
        refine HQ.done ?_
        refine HQ.keep [(1, _), (2, _), (4, _), (5, _), (24, _)] ⟨rfl, rfl, rfl, rfl, rfl, trivial⟩ ?_
        rcases brk H with ⟨hc, H⟩ | ⟨hc, H⟩
        · refine HQ.condT rfl hc ?_
          clear hc
          refine HQ.skipThen ?_
          refine HQ.seq ?_
          refine HQ.block ?_
          refine HQ.regionQ ?_
          refine HQ.pu Pu.move ⟨rfl, trivial⟩ rfl rfl rfl ?_
          refine HQ.pu (Pu.fieldB fo47_1 rfl) ⟨rfl, trivial⟩ rfl rfl rfl ?_
          refine HQ.op [1] [1] (OT.loadB sc45 rfl) ⟨rfl, trivial⟩ ⟨rfl, trivial⟩ rfl rfl rfl rfl (fun _ => rfl) fun _ => ?_
          refine HQ.pu Pu.move ⟨rfl, trivial⟩ rfl rfl rfl ?_
          obtain ⟨h68, H⟩ := asr H
          refine HQ.op [] [] (OT.indexB ul45 sz134 hb_0 h68) ⟨rfl, rfl, trivial⟩ trivial rfl rfl rfl rfl (fun _ => rfl) fun _ => ?_
          refine HQ.op [] [] (OT.loadFA (vs := [.int .i64 ((gt p0.L i59).N), .int .i64 ((gt p0.L i59).R.X0), .int .i64 ((gt p0.L i59).R.Y0), .int .i64 ((gt p0.L i59).R.X1), .int .i64 ((gt p0.L i59).R.Y1)]) ag134 sz134 hb_0 h68 rfl rfl) ⟨rfl, trivial⟩ trivial rfl rfl rfl rfl (fun _ => rfl) fun _ => ?_
          obtain ⟨t69, h70, H⟩ := bnd H
          refine HQ.op [] [11] (OT.call (us := [_]) (Pre := []) [.tmp 32] Try.call130 rfl rfl fun w F hs hF hp => spec_PutEntry_c h70) ⟨rfl, rfl, trivial⟩ trivial rfl rfl rfl rfl (fun _ => rfl) fun ⟨a71, c72⟩ => ?_
          obtain ⟨h75, H⟩ := asr H
          refine HQ.op [8, 11] [8, 11] (OT.appendG (enc := (encI .u8)) (hl := fun _ => ⟨rfl, rfl⟩) sl22 ul22 h75) ⟨rfl, rfl, trivial⟩ ⟨rfl, rfl, trivial⟩ rfl rfl rfl rfl (fun _ => rfl) fun ⟨a73, c74⟩ => ?_
          refine HQ.pu Pu.assign ⟨rfl, trivial⟩ rfl rfl rfl ?_
          refine HQ.done ?_
          refine HQ.keep [(1, _), (2, _), (4, _), (5, _)] ⟨rfl, rfl, rfl, rfl, trivial⟩ ?_
          refine HQ.blkN ?_
          refine HQ.thenN ?_
          refine HQ.regionQ ?_
          refine HQ.pu Pu.move ⟨rfl, trivial⟩ rfl rfl rfl ?_
          refine HQ.pu Pu.add ⟨rfl, rfl, trivial⟩ rfl rfl rfl ?_
          refine HQ.pu Pu.assign ⟨rfl, trivial⟩ rfl rfl rfl ?_
          refine HQ.done ?_
          refine HQ.keep [(1, _), (2, _), (4, _), (5, _)] ⟨rfl, rfl, rfl, rfl, trivial⟩ ?_
          obtain rfl := Option.some.inj H
          exact HQ.next (a73, c74) ⟨rfl, rfl, rfl, rfl, trivial⟩ ⟨rfl, rfl, trivial⟩ rfl
        · refine HQ.condF rfl hc ?_
          clear hc
          refine HQ.exit ?_
          refine HQ.thenE ?_
          obtain rfl := Option.some.inj H
          exact HQ.out (a57, c58) ⟨rfl, rfl, rfl, rfl, trivial⟩ ⟨rfl, rfl, trivial⟩ rfl
      · rintro ⟨l77, i80⟩ rfl ⟨a78, c79⟩
        clear h85
        replace H := H
        refine HQ.keep [(1, _), (2, _), (4, _), (5, _)] ⟨rfl, rfl, rfl, rfl, trivial⟩ ?_
        refine HQ.keepR [(1, _), (8, _)] ⟨rfl, rfl, trivial⟩ rfl ?_
        refine HQ.blkE ?_
        refine HQ.thenN ?_
        refine HQ.rseq ?_
        refine HQ.pu Pu.move ⟨rfl, trivial⟩ rfl rfl rfl ?_
        obtain ⟨t81, h82, H⟩ := bnd H
        refine HQ.op [8] [12, 8] (OT.call (us := [_, _]) (Pre := [OwnS kU8 a78 c79 l77]) [.tmp 35, .const (.int .i64 25)] Try.call92 rfl rfl fun w F hs hF hp => spec_Pad_c (hs.lend hF 0 rfl) h82) ⟨rfl, rfl, rfl, trivial⟩ ⟨rfl, trivial⟩ rfl rfl rfl rfl (fun _ => rfl) fun ⟨a83, c84⟩ => ?_
        refine HQ.pu Pu.assign ⟨rfl, trivial⟩ rfl rfl rfl ?_
        refine HQ.done ?_
        refine HQ.keep [(2, _)] ⟨rfl, trivial⟩ ?_
        refine HQ.ret ?_
        obtain rfl := Option.some.inj H
        exact HQ.fin (vs := [_]) Try.results107 (a83, c84) ⟨rfl, trivial⟩ rfl [12] ⟨rfl, trivial⟩ rfl
      · exact fun r h a w hf => hf.elim

end Go.Proofs.Sx
