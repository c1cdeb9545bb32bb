import Derived.Test.YtkhommmhkeohbaaQdF3
import Derived.KernelRfl
namespace Go.Proofs.Sx
open Go.RowKit
set_option linter.unusedVariables false
set_option linter.unusedSimpArgs false
set_option maxRecDepth 20000
set_option maxHeartbeats 1000000
/-! spec.NodeOk -/
theorem spec_NodeOk_c {w : World} {k : Nat} {p0 : TNode} {a_0 : Option Addr} {c_0 : Nat} (hb_0 : BorS kTEntry a_0 c_0 p0.L w.heap (Lt w Nil)) {r : Bool} (H : spec_NodeOk k p0 = some r) :
    Calls Try.prog 105 #[.agg #[.bool p0.Leaf, .slice a_0 (List.length p0.L) c_0]] w (Rt w Nil (fun _ : Unit => .bool r) (fun _ => [])) := by
  rw [spec_NodeOk] at H
  refine Calls.enter0 (N := 65) (us := [_]) Try.func105 rfl rfl rfl ?_
  refine HQ.rseq ?_
  refine HQ.op [] [1] (OT.box (cs := [.bool p0.Leaf, .slice a_0 (List.length p0.L) c_0]) rfl) ⟨rfl, trivial⟩ trivial rfl rfl rfl rfl (fun _ => rfl) fun b1 => ?_
  refine HQ.pu Pu.assign ⟨rfl, trivial⟩ rfl rfl rfl ?_
  refine HQ.done ?_
  refine HQ.keep [(1, _), (2, _)] ⟨rfl, rfl, trivial⟩ ?_
  refine HQ.seq ?_
  refine HQ.rseq ?_
  refine HQ.pu Pu.assign ⟨rfl, trivial⟩ rfl rfl rfl ?_
  refine HQ.done ?_
  refine HQ.keep [(1, _), (2, _), (3, _)] ⟨rfl, rfl, rfl, trivial⟩ ?_
  refine HQ.block ?_
  obtain ⟨o78, h82, H⟩ := bnd H
  refine HQ.loop h82 0 (fun (s : Int) (g : Unit) => match s, g with | i27, () => [(1, BP b1 0), (2, .bool false), (3, .int .i64 i27)]) (fun (s : Int) (g : Unit) => match s, g with | i27, () => [(1, Box b1 [.bool p0.Leaf, .slice a_0 (List.length p0.L) c_0])]) (fun r => bodyPost Try.prog Try.f105 (Rt w Nil (fun _ : Unit => .bool r) (fun _ => [])) .ret) () ⟨rfl, rfl, rfl, trivial⟩ ⟨rfl, trivial⟩ rfl ?_ ?_ ?_
  · clear H h82
    rintro i27 _ o H
    rw [spec_NodeOk_b0] at H
    refine HQ.keep [(1, _), (2, _), (3, _)] ⟨rfl, rfl, rfl, trivial⟩ ?_
    refine HQ.keepR [(1, _)] ⟨rfl, trivial⟩ rfl ?_
    refine HQ.seq ?_
    refine HQ.rseq ?_
    refine HQ.pu Pu.move ⟨rfl, trivial⟩ rfl rfl rfl ?_
    refine HQ.pu (Pu.fieldB fo47_1 rfl) ⟨rfl, trivial⟩ rfl rfl rfl ?_
    refine HQ.op [1] [1] (OT.loadB sc45 rfl) ⟨rfl, trivial⟩ ⟨rfl, trivial⟩ rfl rfl rfl rfl (fun _ => rfl) fun _ => ?_
    refine HQ.pu (Pu.len ul45) ⟨rfl, trivial⟩ rfl rfl rfl ?_
    refine HQ.pu Pu.lss ⟨rfl, rfl, trivial⟩ rfl rfl rfl ?_
    refine HQ.done ?_
    refine HQ.keep [(1, _), (2, _), (3, _), (9, _)] ⟨rfl, rfl, rfl, rfl, trivial⟩ ?_
    rcases brk H with ⟨hc, H⟩ | ⟨hc, H⟩
    · refine HQ.condT rfl hc ?_
      clear hc
      refine HQ.skipThen ?_
      refine HQ.seq ?_
      refine HQ.block ?_
      refine HQ.rseq ?_
      refine HQ.pu (Pu.fieldB fo47_1 rfl) ⟨rfl, trivial⟩ rfl rfl rfl ?_
      refine HQ.op [1] [1] (OT.loadB sc45 rfl) ⟨rfl, trivial⟩ ⟨rfl, trivial⟩ rfl rfl rfl rfl (fun _ => rfl) fun _ => ?_
      refine HQ.pu Pu.move ⟨rfl, trivial⟩ rfl rfl rfl ?_
      obtain ⟨h53, H⟩ := asr H
      refine HQ.op [] [] (OT.indexB ul45 sz134 hb_0 h53) ⟨rfl, rfl, trivial⟩ trivial rfl rfl rfl rfl (fun _ => rfl) fun _ => ?_
      refine HQ.op [] [] (OT.loadFA (vs := [.int .i64 ((gt p0.L i27).N), .int .i64 ((gt p0.L i27).R.X0), .int .i64 ((gt p0.L i27).R.Y0), .int .i64 ((gt p0.L i27).R.X1), .int .i64 ((gt p0.L i27).R.Y1)]) ag134 sz134 hb_0 h53 rfl rfl) ⟨rfl, trivial⟩ trivial rfl rfl rfl rfl (fun _ => rfl) fun _ => ?_
      refine HQ.op [] [4] (OT.alloc zc134) trivial trivial rfl rfl rfl rfl (fun _ => rfl) fun b54 => ?_
      refine HQ.opN [4] [4] [] (OT.storeC (cs' := [.int .i64 ((gt p0.L i27).N), .int .i64 ((gt p0.L i27).R.X0), .int .i64 ((gt p0.L i27).R.Y0), .int .i64 ((gt p0.L i27).R.X1), .int .i64 ((gt p0.L i27).R.Y1)]) sz134 rfl rfl rfl rfl rfl) ⟨rfl, rfl, trivial⟩ ⟨rfl, trivial⟩ rfl rfl rfl (fun _ => rfl) fun _ => ?_
      refine HQ.done ?_
      refine HQ.keep [(1, _), (2, _), (3, _), (4, _)] ⟨rfl, rfl, rfl, rfl, trivial⟩ ?_
      refine HQ.rseq ?_
      refine HQ.pu (Pu.fieldB fo134_1 rfl) ⟨rfl, trivial⟩ rfl rfl rfl ?_
      refine HQ.op [4] [4] (OT.loadBA (vs := [.int .i64 ((gt p0.L i27).R.X0), .int .i64 ((gt p0.L i27).R.Y0), .int .i64 ((gt p0.L i27).R.X1), .int .i64 ((gt p0.L i27).R.Y1)]) ag132 sz132 rfl rfl) ⟨rfl, trivial⟩ ⟨rfl, trivial⟩ rfl rfl rfl rfl (fun _ => rfl) fun _ => ?_
      obtain ⟨t55, h56, H⟩ := bnd H
      refine HQ.op [] [] (OT.call (us := [_]) (Pre := []) [.tmp 18] Try.call128 rfl rfl fun w F hs hF hp => spec_BoxOk_c h56) ⟨rfl, rfl, trivial⟩ trivial rfl rfl rfl rfl (fun _ => rfl) fun _ => ?_
      refine HQ.pu Pu.not ⟨rfl, trivial⟩ rfl rfl rfl ?_
      refine HQ.pu Pu.move ⟨rfl, trivial⟩ rfl rfl rfl ?_
      obtain ⟨c60, h61, H⟩ := bnd H
      refine HQ.cutAt 8 [(29, .bool c60), (1, BP b1 0), (2, .bool false), (3, .int .i64 i27), (4, BP b54 0)] [(1, Box b1 [.bool p0.Leaf, .slice a_0 (List.length p0.L) c_0]), (4, Box b54 [.int .i64 ((gt p0.L i27).N), .int .i64 ((gt p0.L i27).R.X0), .int .i64 ((gt p0.L i27).R.Y0), .int .i64 ((gt p0.L i27).R.X1), .int .i64 ((gt p0.L i27).R.Y1)])] ?_ ?_
      · clear H
        have H := h61
        rcases brk H with ⟨hg57, H⟩ | ⟨hg57, H⟩
        · obtain rfl := Option.some.inj H
          refine HQ.off rfl rfl hg57 rfl ?_
          refine HQ.off rfl rfl hg57 rfl ?_
          refine HQ.off rfl rfl hg57 rfl ?_
          refine HQ.off rfl rfl hg57 rfl ?_
          refine HQ.off rfl rfl hg57 rfl ?_
          refine HQ.off rfl rfl hg57 rfl ?_
          refine HQ.off rfl rfl hg57 rfl ?_
          refine HQ.pu (Pu.pickC1 hg57) ⟨rfl, rfl, trivial⟩ rfl rfl rfl ?_
          exact HQ.mid ⟨rfl, rfl, rfl, rfl, rfl, trivial⟩ ⟨rfl, rfl, trivial⟩ rfl
        · refine HQ.on rfl rfl hg57 ?_
          refine HQ.pu (Pu.fieldB fo47_1 rfl) ⟨rfl, trivial⟩ rfl rfl rfl ?_
          refine HQ.on rfl rfl hg57 ?_
          refine HQ.op [1] [1] (OT.loadB sc45 rfl) ⟨rfl, trivial⟩ ⟨rfl, trivial⟩ rfl rfl rfl rfl (fun _ => rfl) fun _ => ?_
          refine HQ.on rfl rfl hg57 ?_
          refine HQ.pu (Pu.fieldB fo134_0 rfl) ⟨rfl, trivial⟩ rfl rfl rfl ?_
          refine HQ.on rfl rfl hg57 ?_
          refine HQ.op [4] [4] (OT.loadB sc3 rfl) ⟨rfl, trivial⟩ ⟨rfl, trivial⟩ rfl rfl rfl rfl (fun _ => rfl) fun _ => ?_
          refine HQ.on rfl rfl hg57 ?_
          obtain ⟨t58, h59, H⟩ := bnd H
          refine HQ.op [] [] (OT.call (us := [_, _]) (Pre := []) [.tmp 23, .tmp 25] Try.call129 rfl rfl fun w F hs hF hp => spec_EntryAt_c (hb_0.pass hp) h59) ⟨rfl, rfl, rfl, trivial⟩ trivial rfl rfl rfl rfl (fun _ => rfl) fun _ => ?_
          refine HQ.on rfl rfl hg57 ?_
          refine HQ.pu Pu.move ⟨rfl, trivial⟩ rfl rfl rfl ?_
          refine HQ.on rfl rfl hg57 ?_
          refine HQ.pu Pu.neq ⟨rfl, rfl, trivial⟩ rfl rfl rfl ?_
          obtain rfl := Option.some.inj H
          refine HQ.pu (Pu.pickC0 hg57) ⟨rfl, rfl, trivial⟩ rfl rfl rfl ?_
          exact HQ.mid ⟨rfl, rfl, rfl, rfl, rfl, trivial⟩ ⟨rfl, rfl, trivial⟩ rfl
      refine HQ.pu Pu.move ⟨rfl, trivial⟩ rfl rfl rfl ?_
      obtain ⟨c68, h69, H⟩ := bnd H
      refine HQ.cutAt 9 [(39, .bool c68), (1, BP b1 0), (2, .bool false), (3, .int .i64 i27), (4, BP b54 0)] [(1, Box b1 [.bool p0.Leaf, .slice a_0 (List.length p0.L) c_0]), (4, Box b54 [.int .i64 ((gt p0.L i27).N), .int .i64 ((gt p0.L i27).R.X0), .int .i64 ((gt p0.L i27).R.Y0), .int .i64 ((gt p0.L i27).R.X1), .int .i64 ((gt p0.L i27).R.Y1)])] ?_ ?_
      · clear H
        have H := h69
        rcases brk H with ⟨hg62, H⟩ | ⟨hg62, H⟩
        · obtain rfl := Option.some.inj H
          refine HQ.off rfl rfl hg62 rfl ?_
          refine HQ.off rfl rfl hg62 rfl ?_
          refine HQ.off rfl rfl hg62 rfl ?_
          refine HQ.offU rfl rfl rfl ?_
          refine HQ.offU rfl rfl rfl ?_
          refine HQ.offU rfl rfl rfl ?_
          refine HQ.offU rfl rfl rfl ?_
          refine HQ.off rfl rfl hg62 rfl ?_
          refine HQ.pu (Pu.pickC1 hg62) ⟨rfl, rfl, trivial⟩ rfl rfl rfl ?_
          exact HQ.mid ⟨rfl, rfl, rfl, rfl, rfl, trivial⟩ ⟨rfl, rfl, trivial⟩ rfl
        · refine HQ.on rfl rfl hg62 ?_
          refine HQ.pu (Pu.fieldB fo47_0 rfl) ⟨rfl, trivial⟩ rfl rfl rfl ?_
          refine HQ.on rfl rfl hg62 ?_
          refine HQ.op [1] [1] (OT.loadB sc4 rfl) ⟨rfl, trivial⟩ ⟨rfl, trivial⟩ rfl rfl rfl rfl (fun _ => rfl) fun _ => ?_
          refine HQ.on rfl rfl hg62 ?_
          refine HQ.pu Pu.move ⟨rfl, trivial⟩ rfl rfl rfl ?_
          obtain ⟨c66, h67, H⟩ := bnd H
          refine HQ.cutAt 5 [(38, .bool c66), (1, BP b1 0), (2, .bool false), (3, .int .i64 i27), (4, BP b54 0), (30, .bool c60), (31, BP b1 0), (32, .bool p0.Leaf), (33, .bool p0.Leaf)] [(1, Box b1 [.bool p0.Leaf, .slice a_0 (List.length p0.L) c_0]), (4, Box b54 [.int .i64 ((gt p0.L i27).N), .int .i64 ((gt p0.L i27).R.X0), .int .i64 ((gt p0.L i27).R.Y0), .int .i64 ((gt p0.L i27).R.X1), .int .i64 ((gt p0.L i27).R.Y1)])] ?_ ?_
          · clear H
            have H := h67
            rcases brk H with ⟨hg63, H⟩ | ⟨hg63, H⟩
            · refine HQ.on rfl rfl hg63 ?_
              refine HQ.pu (Pu.fieldB fo134_0 rfl) ⟨rfl, trivial⟩ rfl rfl rfl ?_
              refine HQ.on rfl rfl hg63 ?_
              refine HQ.op [4] [4] (OT.loadB sc3 rfl) ⟨rfl, trivial⟩ ⟨rfl, trivial⟩ rfl rfl rfl rfl (fun _ => rfl) fun _ => ?_
              refine HQ.on rfl rfl hg63 ?_
              obtain ⟨t64, h65, H⟩ := bnd H
              refine HQ.op [] [] (OT.call (us := [_, _, _]) (Pre := []) [.tmp 35, .const (.int .i64 1), .const (.int .i64 999)] Try.call89 rfl rfl fun w F hs hF hp => spec_l1In_c h65) ⟨rfl, rfl, rfl, rfl, trivial⟩ trivial rfl rfl rfl rfl (fun _ => rfl) fun _ => ?_
              refine HQ.on rfl rfl hg63 ?_
              refine HQ.pu Pu.not ⟨rfl, trivial⟩ rfl rfl rfl ?_
              obtain rfl := Option.some.inj H
              refine HQ.on rfl rfl hg62 ?_
              refine HQ.pu (Pu.pickC1 hg63) ⟨rfl, rfl, trivial⟩ rfl rfl rfl ?_
              exact HQ.mid ⟨rfl, rfl, rfl, rfl, rfl, rfl, rfl, rfl, rfl, trivial⟩ ⟨rfl, rfl, trivial⟩ rfl
            · obtain rfl := Option.some.inj H
              refine HQ.off rfl rfl hg63 rfl ?_
              refine HQ.off rfl rfl hg63 rfl ?_
              refine HQ.off rfl rfl hg63 rfl ?_
              refine HQ.off rfl rfl hg63 rfl ?_
              refine HQ.on rfl rfl hg62 ?_
              refine HQ.pu (Pu.pickC0 hg63) ⟨rfl, rfl, trivial⟩ rfl rfl rfl ?_
              exact HQ.mid ⟨rfl, rfl, rfl, rfl, rfl, rfl, rfl, rfl, rfl, trivial⟩ ⟨rfl, rfl, trivial⟩ rfl
          obtain rfl := Option.some.inj H
          refine HQ.pu (Pu.pickC0 hg62) ⟨rfl, rfl, trivial⟩ rfl rfl rfl ?_
          exact HQ.mid ⟨rfl, rfl, rfl, rfl, rfl, trivial⟩ ⟨rfl, rfl, trivial⟩ rfl
      refine HQ.pu Pu.move ⟨rfl, trivial⟩ rfl rfl rfl ?_
      obtain ⟨c76, h77, H⟩ := bnd H
      refine HQ.cutAt 10 [(50, .bool c76), (1, BP b1 0), (2, .bool false), (3, .int .i64 i27)] [(1, Box b1 [.bool p0.Leaf, .slice a_0 (List.length p0.L) c_0]), (4, Box b54 [.int .i64 ((gt p0.L i27).N), .int .i64 ((gt p0.L i27).R.X0), .int .i64 ((gt p0.L i27).R.Y0), .int .i64 ((gt p0.L i27).R.X1), .int .i64 ((gt p0.L i27).R.Y1)])] ?_ ?_
      · clear H
        have H := h77
        rcases brk H with ⟨hg70, H⟩ | ⟨hg70, H⟩
        · obtain rfl := Option.some.inj H
          refine HQ.off rfl rfl hg70 rfl ?_
          refine HQ.off rfl rfl hg70 rfl ?_
          refine HQ.off rfl rfl hg70 rfl ?_
          refine HQ.off rfl rfl hg70 rfl ?_
          refine HQ.offU rfl rfl rfl ?_
          refine HQ.offU rfl rfl rfl ?_
          refine HQ.offU rfl rfl rfl ?_
          refine HQ.offU rfl rfl rfl ?_
          refine HQ.off rfl rfl hg70 rfl ?_
          refine HQ.pu (Pu.pickC1 hg70) ⟨rfl, rfl, trivial⟩ rfl rfl rfl ?_
          exact HQ.mid ⟨rfl, rfl, rfl, rfl, trivial⟩ ⟨rfl, rfl, trivial⟩ rfl
        · refine HQ.on rfl rfl hg70 ?_
          refine HQ.pu (Pu.fieldB fo47_0 rfl) ⟨rfl, trivial⟩ rfl rfl rfl ?_
          refine HQ.on rfl rfl hg70 ?_
          refine HQ.op [1] [1] (OT.loadB sc4 rfl) ⟨rfl, trivial⟩ ⟨rfl, trivial⟩ rfl rfl rfl rfl (fun _ => rfl) fun _ => ?_
          refine HQ.on rfl rfl hg70 ?_
          refine HQ.pu Pu.not ⟨rfl, trivial⟩ rfl rfl rfl ?_
          refine HQ.on rfl rfl hg70 ?_
          refine HQ.pu Pu.move ⟨rfl, trivial⟩ rfl rfl rfl ?_
          obtain ⟨c74, h75, H⟩ := bnd H
          refine HQ.cutAt 5 [(49, .bool c74), (1, BP b1 0), (2, .bool false), (3, .int .i64 i27), (40, .bool c68), (41, BP b1 0), (42, .bool p0.Leaf), (43, .bool (!p0.Leaf)), (44, .bool (!p0.Leaf))] [(1, Box b1 [.bool p0.Leaf, .slice a_0 (List.length p0.L) c_0]), (4, Box b54 [.int .i64 ((gt p0.L i27).N), .int .i64 ((gt p0.L i27).R.X0), .int .i64 ((gt p0.L i27).R.Y0), .int .i64 ((gt p0.L i27).R.X1), .int .i64 ((gt p0.L i27).R.Y1)])] ?_ ?_
          · clear H
            have H := h75
            rcases brk H with ⟨hg71, H⟩ | ⟨hg71, H⟩
            · refine HQ.on rfl rfl hg71 ?_
              refine HQ.pu (Pu.fieldB fo134_0 rfl) ⟨rfl, trivial⟩ rfl rfl rfl ?_
              refine HQ.on rfl rfl hg71 ?_
              refine HQ.op [4] [4] (OT.loadB sc3 rfl) ⟨rfl, trivial⟩ ⟨rfl, trivial⟩ rfl rfl rfl rfl (fun _ => rfl) fun _ => ?_
              refine HQ.on rfl rfl hg71 ?_
              obtain ⟨t72, h73, H⟩ := bnd H
              refine HQ.op [] [] (OT.call (us := [_, _, _]) (Pre := []) [.tmp 46, .const (.int .i64 0), .const (.int .i64 47)] Try.call89 rfl rfl fun w F hs hF hp => spec_l1In_c h73) ⟨rfl, rfl, rfl, rfl, trivial⟩ trivial rfl rfl rfl rfl (fun _ => rfl) fun _ => ?_
              refine HQ.on rfl rfl hg71 ?_
              refine HQ.pu Pu.not ⟨rfl, trivial⟩ rfl rfl rfl ?_
              obtain rfl := Option.some.inj H
              refine HQ.on rfl rfl hg70 ?_
              refine HQ.pu (Pu.pickC1 hg71) ⟨rfl, rfl, trivial⟩ rfl rfl rfl ?_
              exact HQ.mid ⟨rfl, rfl, rfl, rfl, rfl, rfl, rfl, rfl, rfl, trivial⟩ ⟨rfl, rfl, trivial⟩ rfl
            · obtain rfl := Option.some.inj H
              refine HQ.off rfl rfl hg71 rfl ?_
              refine HQ.off rfl rfl hg71 rfl ?_
              refine HQ.off rfl rfl hg71 rfl ?_
              refine HQ.off rfl rfl hg71 rfl ?_
              refine HQ.on rfl rfl hg70 ?_
              refine HQ.pu (Pu.pickC0 hg71) ⟨rfl, rfl, trivial⟩ rfl rfl rfl ?_
              exact HQ.mid ⟨rfl, rfl, rfl, rfl, rfl, rfl, rfl, rfl, rfl, trivial⟩ ⟨rfl, rfl, trivial⟩ rfl
          obtain rfl := Option.some.inj H
          refine HQ.pu (Pu.pickC0 hg70) ⟨rfl, rfl, trivial⟩ rfl rfl rfl ?_
          exact HQ.mid ⟨rfl, rfl, rfl, rfl, trivial⟩ ⟨rfl, rfl, trivial⟩ rfl
      refine HQ.done ?_
      refine HQ.keep [(50, _), (1, _), (2, _), (3, _)] ⟨rfl, rfl, rfl, rfl, trivial⟩ ?_
      rcases brk H with ⟨hc, H⟩ | ⟨hc, H⟩
      · refine HQ.condT rfl hc ?_
        clear hc
        refine HQ.rseq ?_
        refine HQ.pu Pu.assign ⟨rfl, trivial⟩ rfl rfl rfl ?_
        refine HQ.done ?_
        refine HQ.keep [(1, _), (2, _), (3, _)] ⟨rfl, rfl, rfl, trivial⟩ ?_
        refine HQ.ret ?_
        refine HQ.blkR ?_
        refine HQ.thenR ?_
        obtain rfl := Option.some.inj H
        refine HQ.retL ?_
        exact HQ.fin (vs := [_]) Try.results105 () ⟨rfl, trivial⟩ rfl [] trivial rfl
      · refine HQ.condF rfl hc ?_
        clear hc
        refine HQ.skip ?_
        refine HQ.blkN ?_
        refine HQ.thenN ?_
        refine HQ.regionQ ?_
        refine HQ.pu Pu.move ⟨rfl, trivial⟩ rfl rfl rfl ?_
        refine HQ.pu Pu.add ⟨rfl, rfl, trivial⟩ rfl rfl rfl ?_
        refine HQ.pu Pu.assign ⟨rfl, trivial⟩ rfl rfl rfl ?_
        refine HQ.done ?_
        refine HQ.keep [(1, _), (2, _), (3, _)] ⟨rfl, rfl, rfl, trivial⟩ ?_
        obtain rfl := Option.some.inj H
        exact HQ.next () ⟨rfl, rfl, rfl, trivial⟩ ⟨rfl, trivial⟩ rfl
    · refine HQ.condF rfl hc ?_
      clear hc
      refine HQ.exit ?_
      refine HQ.thenE ?_
      obtain rfl := Option.some.inj H
      exact HQ.out () ⟨rfl, rfl, rfl, trivial⟩ ⟨rfl, trivial⟩ rfl
  · rintro i79 rfl _
    clear h82
    replace H := H
    refine HQ.keep [(1, _), (2, _), (3, _)] ⟨rfl, rfl, rfl, trivial⟩ ?_
    refine HQ.keepR [(1, _)] ⟨rfl, trivial⟩ rfl ?_
    refine HQ.blkE ?_
    refine HQ.thenN ?_
    refine HQ.rseq ?_
    refine HQ.pu (Pu.fieldB fo47_1 rfl) ⟨rfl, trivial⟩ rfl rfl rfl ?_
    refine HQ.op [1] [1] (OT.loadB sc45 rfl) ⟨rfl, trivial⟩ ⟨rfl, trivial⟩ rfl rfl rfl rfl (fun _ => rfl) fun _ => ?_
    refine HQ.pu (Pu.len ul45) ⟨rfl, trivial⟩ rfl rfl rfl ?_
    refine HQ.pu Pu.leq ⟨rfl, rfl, trivial⟩ rfl rfl rfl ?_
    refine HQ.pu Pu.move ⟨rfl, trivial⟩ rfl rfl rfl ?_
    refine HQ.cutAt 9 [(64, .bool ((decide (((List.length p0.L : Nat) : Int) ≤ 4)) && (p0.Leaf || (decide (((List.length p0.L : Nat) : Int) > 0))))), (2, .bool false)] [(1, Box b1 [.bool p0.Leaf, .slice a_0 (List.length p0.L) c_0])] ?_ ?_
    · rcases Bool.eq_false_or_eq_true (decide (((List.length p0.L : Nat) : Int) ≤ 4)) with hg80 | hg80
      · refine HQ.on rfl rfl hg80 ?_
        refine HQ.pu (Pu.fieldB fo47_0 rfl) ⟨rfl, trivial⟩ rfl rfl rfl ?_
        refine HQ.on rfl rfl hg80 ?_
        refine HQ.op [1] [1] (OT.loadB sc4 rfl) ⟨rfl, trivial⟩ ⟨rfl, trivial⟩ rfl rfl rfl rfl (fun _ => rfl) fun _ => ?_
        refine HQ.on rfl rfl hg80 ?_
        refine HQ.pu Pu.move ⟨rfl, trivial⟩ rfl rfl rfl ?_
        refine HQ.cutAt 5 [(63, .bool (p0.Leaf || (decide (((List.length p0.L : Nat) : Int) > 0)))), (2, .bool false), (55, .bool (decide (((List.length p0.L : Nat) : Int) ≤ 4)))] [(1, Box b1 [.bool p0.Leaf, .slice a_0 (List.length p0.L) c_0])] ?_ ?_
        · rcases Bool.eq_false_or_eq_true p0.Leaf with hg81 | hg81
          · refine HQ.off rfl rfl hg81 rfl ?_
            refine HQ.off rfl rfl hg81 rfl ?_
            refine HQ.off rfl rfl hg81 rfl ?_
            refine HQ.off rfl rfl hg81 rfl ?_
            refine HQ.on rfl rfl hg80 ?_
            refine HQ.pu (Pu.pickOT (u := (decide (((List.length p0.L : Nat) : Int) > 0))) hg81) ⟨rfl, rfl, trivial⟩ rfl rfl rfl ?_
            exact HQ.mid ⟨rfl, rfl, rfl, trivial⟩ ⟨rfl, trivial⟩ rfl
          · refine HQ.on rfl rfl hg81 ?_
            refine HQ.pu (Pu.fieldB fo47_1 rfl) ⟨rfl, trivial⟩ rfl rfl rfl ?_
            refine HQ.on rfl rfl hg81 ?_
            refine HQ.op [1] [1] (OT.loadB sc45 rfl) ⟨rfl, trivial⟩ ⟨rfl, trivial⟩ rfl rfl rfl rfl (fun _ => rfl) fun _ => ?_
            refine HQ.on rfl rfl hg81 ?_
            refine HQ.pu (Pu.len ul45) ⟨rfl, trivial⟩ rfl rfl rfl ?_
            refine HQ.on rfl rfl hg81 ?_
            refine HQ.pu Pu.gtr ⟨rfl, rfl, trivial⟩ rfl rfl rfl ?_
            refine HQ.on rfl rfl hg80 ?_
            refine HQ.pu (Pu.pickOF hg81) ⟨rfl, rfl, trivial⟩ rfl rfl rfl ?_
            exact HQ.mid ⟨rfl, rfl, rfl, trivial⟩ ⟨rfl, trivial⟩ rfl
        refine HQ.pu (Pu.pickAT hg80) ⟨rfl, rfl, trivial⟩ rfl rfl rfl ?_
        exact HQ.mid ⟨rfl, rfl, trivial⟩ ⟨rfl, trivial⟩ rfl
      · refine HQ.off rfl rfl hg80 rfl ?_
        refine HQ.off rfl rfl hg80 rfl ?_
        refine HQ.off rfl rfl hg80 rfl ?_
        refine HQ.offU rfl rfl rfl ?_
        refine HQ.offU rfl rfl rfl ?_
        refine HQ.offU rfl rfl rfl ?_
        refine HQ.offU rfl rfl rfl ?_
        refine HQ.off rfl rfl hg80 rfl ?_
        refine HQ.pu (Pu.pickAF (u := (p0.Leaf || (decide (((List.length p0.L : Nat) : Int) > 0)))) hg80) ⟨rfl, rfl, trivial⟩ rfl rfl rfl ?_
        exact HQ.mid ⟨rfl, rfl, trivial⟩ ⟨rfl, trivial⟩ rfl
    refine HQ.pu Pu.assign ⟨rfl, trivial⟩ rfl rfl rfl ?_
    refine HQ.done ?_
    refine HQ.keep [(2, _)] ⟨rfl, trivial⟩ ?_
    refine HQ.ret ?_
    obtain rfl := Option.some.inj H
    exact HQ.fin (vs := [_]) Try.results105 () ⟨rfl, trivial⟩ rfl [] trivial rfl
  · rintro r rfl a w hr
    obtain rfl := Option.some.inj H
    exact hr

/-! spec.TxOk -/
theorem spec_TxOk_c {w : World} {k : Nat} {p0 : TTx} {a_0 : Option Addr} {c_0 : Nat} (hb_0 : BorS kTChange a_0 c_0 p0.Puts w.heap (Lt w Nil)) {r : Bool} (H : spec_TxOk k p0 = some r) :
    Calls Try.prog 36 #[.agg #[.int .i64 p0.Seq, .int .i64 p0.Root, .int .i64 p0.Size, .slice a_0 (List.length p0.Puts) c_0]] w (Rt w Nil (fun _ : Unit => .bool r) (fun _ => [])) := by
  rw [spec_TxOk] at H
  refine Calls.enter0 (N := 67) (us := [_]) Try.func36 rfl rfl rfl ?_
  refine HQ.rseq ?_
  refine HQ.op [] [1] (OT.box (cs := [.int .i64 p0.Seq, .int .i64 p0.Root, .int .i64 p0.Size, .slice a_0 (List.length p0.Puts) c_0]) rfl) ⟨rfl, trivial⟩ trivial rfl rfl rfl rfl (fun _ => rfl) fun b1 => ?_
  refine HQ.pu Pu.assign ⟨rfl, trivial⟩ rfl rfl rfl ?_
  refine HQ.done ?_
  refine HQ.keep [(1, _), (2, _)] ⟨rfl, rfl, trivial⟩ ?_
  refine HQ.seq ?_
  refine HQ.rseq ?_
  refine HQ.pu Pu.assign ⟨rfl, trivial⟩ rfl rfl rfl ?_
  refine HQ.done ?_
  refine HQ.keep [(1, _), (2, _), (3, _)] ⟨rfl, rfl, rfl, trivial⟩ ?_
  refine HQ.block ?_
  obtain ⟨o174, h188, H⟩ := bnd H
  refine HQ.loop h188 0 (fun (s : Int) (g : Unit) => match s, g with | i59, () => [(1, BP b1 0), (2, .bool false), (3, .int .i64 i59)]) (fun (s : Int) (g : Unit) => match s, g with | i59, () => [(1, Box b1 [.int .i64 p0.Seq, .int .i64 p0.Root, .int .i64 p0.Size, .slice a_0 (List.length p0.Puts) c_0])]) (fun r => bodyPost Try.prog Try.f36 (Rt w Nil (fun _ : Unit => .bool r) (fun _ => [])) .ret) () ⟨rfl, rfl, rfl, trivial⟩ ⟨rfl, trivial⟩ rfl ?_ ?_ ?_
  · clear H h188
    rintro i59 _ o H
    rw [spec_TxOk_b2] at H
    refine HQ.keep [(1, _), (2, _), (3, _)] ⟨rfl, rfl, rfl, trivial⟩ ?_
    refine HQ.keepR [(1, _)] ⟨rfl, trivial⟩ rfl ?_
    refine HQ.seq ?_
    refine HQ.rseq ?_
    refine HQ.pu Pu.move ⟨rfl, trivial⟩ rfl rfl rfl ?_
    refine HQ.pu (Pu.fieldB fo57_3 rfl) ⟨rfl, trivial⟩ rfl rfl rfl ?_
    refine HQ.op [1] [1] (OT.loadB sc55 rfl) ⟨rfl, trivial⟩ ⟨rfl, trivial⟩ rfl rfl rfl rfl (fun _ => rfl) fun _ => ?_
    refine HQ.pu (Pu.len ul55) ⟨rfl, trivial⟩ rfl rfl rfl ?_
    refine HQ.pu Pu.lss ⟨rfl, rfl, trivial⟩ rfl rfl rfl ?_
    refine HQ.done ?_
    refine HQ.keep [(1, _), (2, _), (3, _), (9, _)] ⟨rfl, rfl, rfl, rfl, trivial⟩ ?_
    rcases brk H with ⟨hc, H⟩ | ⟨hc, H⟩
    · refine HQ.condT rfl hc ?_
      clear hc
      refine HQ.skipThen ?_
      refine HQ.seq ?_
      refine HQ.block ?_
      refine HQ.seq ?_
      refine HQ.seq ?_
      refine HQ.dStart mixd ?_
      obtain ⟨h118, H⟩ := asr H
      obtain ⟨⟨a119, c120⟩, hb121, hn122⟩ := BorS.nest hb_0 h118
      refine HQ.dPart [(1, BP b1 0), (2, .bool false), (3, .int .i64 i59)] 9 [⟨[], [], []⟩, ⟨[0], [0], [0]⟩, ⟨[], [], []⟩, ⟨[], [], [1, 2]⟩, ⟨[], [], [3]⟩, ⟨[], [], [4]⟩, ⟨[], [], []⟩, ⟨[0], [0], [6]⟩, ⟨[], [], [7]⟩] [⟨none, none⟩] (fun (g117 : Unit) => [BP b1 3, .slice a_0 (List.length p0.Puts) c_0, .int .i64 i59, EP a_0 i59 3 0, EP a_0 i59 3 0, .int .i64 ((gt p0.Puts i59).Page), BP b1 2, .int .i64 p0.Size, .int .i64 (wrap64 (p0.Size - 1))]) (fun (g117 : Unit) => [Box b1 [.int .i64 p0.Seq, .int .i64 p0.Root, .int .i64 p0.Size, .slice a_0 (List.length p0.Puts) c_0]]) () [1] [1] [] ⟨rfl, rfl, rfl, trivial⟩ ⟨rfl, trivial⟩ rfl (by kernel_rfl) (by kernel_rfl) (fun _ => rfl) (by kernel_rfl) (fun _ => rfl) rfl ⟨?_, ?_, ?_, ?_, ?_, ?_, ?_, ?_, ?_, trivial⟩ fun g117 => ?_
      · exact OpOK2.of (fun g117 => [(.tmp 1, BP b1 0)]) _ _ (fun g117 _ => g117) rfl rfl (fun _ => ⟨rfl, trivial⟩) (fun g117 => Pu.toOT (Pu.fieldB fo57_3 rfl)) (fun _ _ => ⟨rfl, rfl, ⟨rfl, trivial⟩⟩)
      · exact OpOK2.of (fun g117 => [(.tmp 12, BP b1 3)]) _ _ (fun g117 _ => g117) rfl rfl (fun _ => ⟨rfl, trivial⟩) (fun g117 => OT.loadB sc55 rfl) (fun _ _ => ⟨rfl, rfl, ⟨rfl, trivial⟩⟩)
      · exact OpOK2.of (fun g117 => [(.tmp 3, .int .i64 i59)]) _ _ (fun g117 _ => g117) rfl rfl (fun _ => ⟨rfl, trivial⟩) (fun g117 => Pu.toOT Pu.move) (fun _ _ => ⟨rfl, rfl, ⟨rfl, trivial⟩⟩)
      · exact OpOK2.of (fun g117 => [(.tmp 13, .slice a_0 (List.length p0.Puts) c_0), (.tmp 14, .int .i64 i59)]) _ _ (fun g117 _ => g117) rfl rfl (fun _ => ⟨rfl, rfl, trivial⟩) (fun g117 => OT.indexB ul55 sz49 hb_0 h118) (fun _ _ => ⟨rfl, rfl, ⟨rfl, trivial⟩⟩)
      · exact OpOK2.of (fun g117 => [(.tmp 15, EP a_0 i59 3 0)]) _ _ (fun g117 _ => g117) rfl rfl (fun _ => ⟨rfl, trivial⟩) (fun g117 => Pu.toOT (Pu.fieldE fo49_0 rfl)) (fun _ _ => ⟨rfl, rfl, ⟨rfl, trivial⟩⟩)
      · exact OpOK2.of (fun g117 => [(.tmp 16, EP a_0 i59 3 0)]) _ _ (fun g117 _ => g117) rfl rfl (fun _ => ⟨rfl, trivial⟩) (fun g117 => OT.loadN (v := .int .i64 ((gt p0.Puts i59).Page)) sc3 hn122 hlTChange rfl) (fun _ _ => ⟨rfl, rfl, ⟨rfl, trivial⟩⟩)
      · exact OpOK2.of (fun g117 => [(.tmp 1, BP b1 0)]) _ _ (fun g117 _ => g117) rfl rfl (fun _ => ⟨rfl, trivial⟩) (fun g117 => Pu.toOT (Pu.fieldB fo57_2 rfl)) (fun _ _ => ⟨rfl, rfl, ⟨rfl, trivial⟩⟩)
      · exact OpOK2.of (fun g117 => [(.tmp 18, BP b1 2)]) _ _ (fun g117 _ => g117) rfl rfl (fun _ => ⟨rfl, trivial⟩) (fun g117 => OT.loadB sc3 rfl) (fun _ _ => ⟨rfl, rfl, ⟨rfl, trivial⟩⟩)
      · exact OpOK2.of (fun g117 => [(.tmp 19, .int .i64 p0.Size), (.const (.int .i64 1), .int .i64 1)]) _ _ (fun g117 _ => g117) rfl rfl (fun _ => ⟨rfl, rfl, trivial⟩) (fun g117 => Pu.toOT Pu.sub) (fun _ _ => ⟨rfl, rfl, ⟨rfl, trivial⟩⟩)
      refine HQ.keep [(1, _), (2, _), (3, _), (17, _), (20, _)] ⟨rfl, rfl, rfl, rfl, rfl, trivial⟩ ?_
      refine HQ.keepR [(1, _)] ⟨rfl, trivial⟩ rfl ?_
      refine HQ.dRun 3 rfl rfl (by kernel_rfl) (by kernel_rfl) ?_
      obtain ⟨t123, h124, H⟩ := bnd H
      refine HQ.op [] [] (OT.call (us := [_, _, _]) (Pre := []) [.tmp 17, .const (.int .i64 0), .tmp 20] Try.call89 rfl rfl fun w F hs hF hp => spec_l1In_c h124) ⟨rfl, rfl, rfl, rfl, trivial⟩ trivial rfl rfl rfl rfl (fun _ => rfl) fun _ => ?_
      refine HQ.pu Pu.not ⟨rfl, trivial⟩ rfl rfl rfl ?_
      refine HQ.pu Pu.move ⟨rfl, trivial⟩ rfl rfl rfl ?_
      refine HQ.done ?_
      obtain ⟨c135, h136, H⟩ := bnd H
      refine HQ.dMid (m' := 21) [(32, .bool c135), (1, BP b1 0), (2, .bool false), (3, .int .i64 i59)] [(1, Box b1 [.int .i64 p0.Seq, .int .i64 p0.Root, .int .i64 p0.Size, .slice a_0 (List.length p0.Puts) c_0])] (fun hmid => ?_) ?_
      · clear H
        have H := h136
        rcases brk H with ⟨hg125, H⟩ | ⟨hg125, H⟩
        · obtain rfl := Option.some.inj H
          refine HQ.dPart [(1, BP b1 0), (2, .bool false), (3, .int .i64 i59), (23, .bool (!t123))] 15 [⟨[], [], []⟩, ⟨[], [], []⟩, ⟨[], [], []⟩, ⟨[], [], []⟩, ⟨[], [], []⟩, ⟨[], [], []⟩, ⟨[], [], []⟩, ⟨[], [], []⟩, ⟨[], [], []⟩, ⟨[], [], []⟩, ⟨[], [], []⟩, ⟨[], [], []⟩, ⟨[], [], []⟩, ⟨[], [], []⟩, ⟨[], [], []⟩] [] (fun (g134 : Unit) => [undef, undef, undef, undef, undef, undef, undef, undef, undef, undef, undef, undef, undef, undef, undef]) (fun (g134 : Unit) => []) () [] [] [] ⟨rfl, rfl, rfl, rfl, trivial⟩ trivial rfl (by kernel_rfl) (by kernel_rfl) (fun _ => rfl) (by kernel_rfl) (fun _ => rfl) rfl ⟨?_, ?_, ?_, trivial⟩ fun g134 => ?_
          · exact OpOK2.off rfl rfl rfl hg125 rfl rfl (fun _ => ⟨rfl, trivial⟩)
          · exact OpOK2.off rfl rfl rfl hg125 rfl rfl (fun _ => ⟨rfl, trivial⟩)
          · exact OpOK2.off rfl rfl rfl hg125 rfl rfl (fun _ => ⟨rfl, trivial⟩)
          refine HQ.keep [(1, _), (2, _), (3, _), (23, _), (24, _), (25, _), (26, _)] ⟨rfl, rfl, rfl, rfl, rfl, rfl, rfl, trivial⟩ ?_
          refine HQ.keepR [(1, _)] ⟨rfl, trivial⟩ rfl ?_
          refine HQ.dRun 5 rfl rfl (by kernel_rfl) (by kernel_rfl) ?_
          refine HQ.off rfl rfl hg125 rfl ?_
          refine HQ.off rfl rfl hg125 rfl ?_
          refine HQ.off rfl rfl hg125 rfl ?_
          refine HQ.off rfl rfl hg125 rfl ?_
          refine HQ.off rfl rfl hg125 rfl ?_
          refine HQ.done ?_
          refine HQ.dRun 1 rfl rfl (by kernel_rfl) (by kernel_rfl) ?_
          refine HQ.pu (Pu.pickC1 hg125) ⟨rfl, rfl, trivial⟩ rfl rfl rfl ?_
          refine HQ.done ?_
          exact HQ.dUse hmid ⟨rfl, rfl, rfl, rfl, trivial⟩ ⟨rfl, trivial⟩ rfl
        · refine HQ.dPart [(1, BP b1 0), (2, .bool false), (3, .int .i64 i59), (23, .bool (!t123))] 15 [⟨[], [], []⟩, ⟨[], [], []⟩, ⟨[], [], []⟩, ⟨[], [], []⟩, ⟨[], [], []⟩, ⟨[], [], []⟩, ⟨[], [], []⟩, ⟨[], [], []⟩, ⟨[], [], []⟩, ⟨[], [], []⟩, ⟨[], [], []⟩, ⟨[], [], []⟩, ⟨[], [], []⟩, ⟨[0], [0], [12]⟩, ⟨[], [], []⟩] [⟨none, none⟩] (fun (g126 : Unit) => [undef, undef, undef, undef, undef, undef, undef, undef, undef, undef, undef, undef, BP b1 3, .slice a_0 (List.length p0.Puts) c_0, .int .i64 i59]) (fun (g126 : Unit) => [Box b1 [.int .i64 p0.Seq, .int .i64 p0.Root, .int .i64 p0.Size, .slice a_0 (List.length p0.Puts) c_0]]) () [1] [1] [] ⟨rfl, rfl, rfl, rfl, trivial⟩ ⟨rfl, trivial⟩ rfl (by kernel_rfl) (by kernel_rfl) (fun _ => rfl) (by kernel_rfl) (fun _ => rfl) rfl ⟨?_, ?_, ?_, trivial⟩ fun g126 => ?_
          · exact OpOK2.on (fun g126 => [(.tmp 1, BP b1 0)]) _ _ (fun g126 _ => g126) rfl rfl rfl hg125 (fun _ => ⟨rfl, trivial⟩) (fun g126 => Pu.toOT (Pu.fieldB fo57_3 rfl)) (fun _ _ => ⟨rfl, rfl, ⟨rfl, trivial⟩⟩)
          · exact OpOK2.on (fun g126 => [(.tmp 24, BP b1 3)]) _ _ (fun g126 _ => g126) rfl rfl rfl hg125 (fun _ => ⟨rfl, trivial⟩) (fun g126 => OT.loadB sc55 rfl) (fun _ _ => ⟨rfl, rfl, ⟨rfl, trivial⟩⟩)
          · exact OpOK2.on (fun g126 => [(.tmp 3, .int .i64 i59)]) _ _ (fun g126 _ => g126) rfl rfl rfl hg125 (fun _ => ⟨rfl, trivial⟩) (fun g126 => Pu.toOT Pu.move) (fun _ _ => ⟨rfl, rfl, ⟨rfl, trivial⟩⟩)
          refine HQ.keep [(1, _), (2, _), (3, _), (23, _), (24, _), (25, _), (26, _)] ⟨rfl, rfl, rfl, rfl, rfl, rfl, rfl, trivial⟩ ?_
          refine HQ.keepR [(1, _)] ⟨rfl, trivial⟩ rfl ?_
          refine HQ.dRun 5 rfl rfl (by kernel_rfl) (by kernel_rfl) ?_
          refine HQ.on rfl rfl hg125 ?_
          obtain ⟨h127, H⟩ := asr H
          refine HQ.op [] [] (OT.indexB ul55 sz49 hb_0 h127) ⟨rfl, rfl, trivial⟩ trivial rfl rfl rfl rfl (fun _ => rfl) fun _ => ?_
          refine HQ.on rfl rfl hg125 ?_
          refine HQ.pu (Pu.fieldE fo49_1 rfl) ⟨rfl, trivial⟩ rfl rfl rfl ?_
          refine HQ.on rfl rfl hg125 ?_
          obtain ⟨⟨a128, c129⟩, hb130, hn131⟩ := BorS.nest hb_0 h127
          refine HQ.op [] [] (OT.loadNA (vs := [.bool ((gt p0.Puts i59).N.Leaf), .slice a128 (List.length ((gt p0.Puts i59).N.L)) c129]) ag47 sz47 hn131 hlTChange rfl rfl) ⟨rfl, trivial⟩ trivial rfl rfl rfl rfl (fun _ => rfl) fun _ => ?_
          refine HQ.on rfl rfl hg125 ?_
          obtain ⟨t132, h133, H⟩ := bnd H
          refine HQ.op [] [] (OT.call (us := [_]) (Pre := []) [.tmp 29] Try.call105 rfl rfl fun w F hs hF hp => spec_NodeOk_c (hb130.pass hp) h133) ⟨rfl, rfl, trivial⟩ trivial rfl rfl rfl rfl (fun _ => rfl) fun _ => ?_
          refine HQ.on rfl rfl hg125 ?_
          refine HQ.pu Pu.not ⟨rfl, trivial⟩ rfl rfl rfl ?_
          refine HQ.done ?_
          obtain rfl := Option.some.inj H
          refine HQ.dRun 1 rfl rfl (by kernel_rfl) (by kernel_rfl) ?_
          refine HQ.pu (Pu.pickC0 hg125) ⟨rfl, rfl, trivial⟩ rfl rfl rfl ?_
          refine HQ.done ?_
          exact HQ.dUse hmid ⟨rfl, rfl, rfl, rfl, trivial⟩ ⟨rfl, trivial⟩ rfl
      refine HQ.dEnd rfl ?_
      refine HQ.thenN ?_
      refine HQ.keep [(32, _), (1, _), (2, _), (3, _)] ⟨rfl, rfl, rfl, rfl, trivial⟩ ?_
      rcases brk H with ⟨hc, H⟩ | ⟨hc, H⟩
      · refine HQ.condT rfl hc ?_
        clear hc
        refine HQ.rseq ?_
        refine HQ.pu Pu.assign ⟨rfl, trivial⟩ rfl rfl rfl ?_
        refine HQ.done ?_
        refine HQ.keep [(1, _), (2, _), (3, _)] ⟨rfl, rfl, rfl, trivial⟩ ?_
        refine HQ.ret ?_
        refine HQ.thenR ?_
        refine HQ.blkR ?_
        refine HQ.thenR ?_
        obtain rfl := Option.some.inj H
        refine HQ.retL ?_
        exact HQ.fin (vs := [_]) Try.results36 () ⟨rfl, trivial⟩ rfl [] trivial rfl
      · refine HQ.condF rfl hc ?_
        clear hc
        refine HQ.skipThen ?_
        refine HQ.rseq ?_
        refine HQ.pu Pu.assign ⟨rfl, trivial⟩ rfl rfl rfl ?_
        refine HQ.done ?_
        refine HQ.keep [(1, _), (2, _), (3, _), (4, _)] ⟨rfl, rfl, rfl, rfl, trivial⟩ ?_
        refine HQ.block ?_
        obtain ⟨o171, h173, H⟩ := bnd H
        refine HQ.loop h173 2 (fun (s : Int) (g : Unit) => match s, g with | i148, () => [(1, BP b1 0), (2, .bool false), (3, .int .i64 i59), (4, .int .i64 i148)]) (fun (s : Int) (g : Unit) => match s, g with | i148, () => [(1, Box b1 [.int .i64 p0.Seq, .int .i64 p0.Root, .int .i64 p0.Size, .slice a_0 (List.length p0.Puts) c_0])]) (fun r => bodyPost Try.prog Try.f36 (Rt w Nil (fun _ : Unit => .bool r) (fun _ => [])) .ret) () ⟨rfl, rfl, rfl, rfl, trivial⟩ ⟨rfl, trivial⟩ rfl ?_ ?_ ?_
        · clear H h173
          rintro i148 _ o H
          rw [spec_TxOk_b3] at H
          refine HQ.keep [(1, _), (2, _), (3, _), (4, _)] ⟨rfl, rfl, rfl, rfl, trivial⟩ ?_
          refine HQ.keepR [(1, _)] ⟨rfl, trivial⟩ rfl ?_
          refine HQ.seq ?_
          refine HQ.rseq ?_
          refine HQ.pu Pu.move ⟨rfl, trivial⟩ rfl rfl rfl ?_
          refine HQ.pu Pu.move ⟨rfl, trivial⟩ rfl rfl rfl ?_
          refine HQ.pu Pu.lss ⟨rfl, rfl, trivial⟩ rfl rfl rfl ?_
          refine HQ.done ?_
          refine HQ.keep [(1, _), (2, _), (3, _), (4, _), (35, _)] ⟨rfl, rfl, rfl, rfl, rfl, trivial⟩ ?_
          rcases brk H with ⟨hc, H⟩ | ⟨hc, H⟩
          · refine HQ.condT rfl hc ?_
            clear hc
            refine HQ.skipThen ?_
            refine HQ.seq ?_
            refine HQ.block ?_
            obtain ⟨h161, H⟩ := asr H
            obtain ⟨h166, H⟩ := asr H
            obtain ⟨⟨a162, c163⟩, hb164, hn165⟩ := BorS.nest hb_0 h161
            obtain ⟨⟨a167, c168⟩, hb169, hn170⟩ := BorS.nest hb_0 h166
            refine HQ.drawS mixd [(1, BP b1 0), (2, .bool false), (3, .int .i64 i59), (4, .int .i64 i148)] 12 [⟨[], [], []⟩, ⟨[0], [0], [0]⟩, ⟨[], [], []⟩, ⟨[], [], [1, 2]⟩, ⟨[], [], [3]⟩, ⟨[], [], [4]⟩, ⟨[], [], []⟩, ⟨[0], [0], [6]⟩, ⟨[], [], []⟩, ⟨[], [], [7, 8]⟩, ⟨[], [], [9]⟩, ⟨[], [], [10]⟩] [⟨none, none⟩] (fun (g160 : Unit) => [BP b1 3, .slice a_0 (List.length p0.Puts) c_0, .int .i64 i148, EP a_0 i148 3 0, EP a_0 i148 3 0, .int .i64 ((gt p0.Puts i148).Page), BP b1 3, .slice a_0 (List.length p0.Puts) c_0, .int .i64 i59, EP a_0 i59 3 0, EP a_0 i59 3 0, .int .i64 ((gt p0.Puts i59).Page)]) (fun (g160 : Unit) => [Box b1 [.int .i64 p0.Seq, .int .i64 p0.Root, .int .i64 p0.Size, .slice a_0 (List.length p0.Puts) c_0]]) () [1] [1] [] ⟨rfl, rfl, rfl, rfl, trivial⟩ ⟨rfl, trivial⟩ rfl (by kernel_rfl) (fun _ => rfl) (by kernel_rfl) (fun _ => rfl) ⟨?_, ?_, ?_, ?_, ?_, ?_, ?_, ?_, ?_, ?_, ?_, ?_, trivial⟩ fun g160 => ?_
            · exact OpOK.of (fun g160 => [(.tmp 1, BP b1 0)]) _ _ (fun g160 _ => g160) rfl rfl (fun _ => ⟨rfl, trivial⟩) (fun g160 => Pu.toOT (Pu.fieldB fo57_3 rfl)) (fun _ _ => ⟨rfl, rfl, ⟨rfl, trivial⟩⟩)
            · exact OpOK.of (fun g160 => [(.tmp 38, BP b1 3)]) _ _ (fun g160 _ => g160) rfl rfl (fun _ => ⟨rfl, trivial⟩) (fun g160 => OT.loadB sc55 rfl) (fun _ _ => ⟨rfl, rfl, ⟨rfl, trivial⟩⟩)
            · exact OpOK.of (fun g160 => [(.tmp 4, .int .i64 i148)]) _ _ (fun g160 _ => g160) rfl rfl (fun _ => ⟨rfl, trivial⟩) (fun g160 => Pu.toOT Pu.move) (fun _ _ => ⟨rfl, rfl, ⟨rfl, trivial⟩⟩)
            · exact OpOK.of (fun g160 => [(.tmp 39, .slice a_0 (List.length p0.Puts) c_0), (.tmp 40, .int .i64 i148)]) _ _ (fun g160 _ => g160) rfl rfl (fun _ => ⟨rfl, rfl, trivial⟩) (fun g160 => OT.indexB ul55 sz49 hb_0 h161) (fun _ _ => ⟨rfl, rfl, ⟨rfl, trivial⟩⟩)
            · exact OpOK.of (fun g160 => [(.tmp 41, EP a_0 i148 3 0)]) _ _ (fun g160 _ => g160) rfl rfl (fun _ => ⟨rfl, trivial⟩) (fun g160 => Pu.toOT (Pu.fieldE fo49_0 rfl)) (fun _ _ => ⟨rfl, rfl, ⟨rfl, trivial⟩⟩)
            · exact OpOK.of (fun g160 => [(.tmp 42, EP a_0 i148 3 0)]) _ _ (fun g160 _ => g160) rfl rfl (fun _ => ⟨rfl, trivial⟩) (fun g160 => OT.loadN (v := .int .i64 ((gt p0.Puts i148).Page)) sc3 hn165 hlTChange rfl) (fun _ _ => ⟨rfl, rfl, ⟨rfl, trivial⟩⟩)
            · exact OpOK.of (fun g160 => [(.tmp 1, BP b1 0)]) _ _ (fun g160 _ => g160) rfl rfl (fun _ => ⟨rfl, trivial⟩) (fun g160 => Pu.toOT (Pu.fieldB fo57_3 rfl)) (fun _ _ => ⟨rfl, rfl, ⟨rfl, trivial⟩⟩)
            · exact OpOK.of (fun g160 => [(.tmp 44, BP b1 3)]) _ _ (fun g160 _ => g160) rfl rfl (fun _ => ⟨rfl, trivial⟩) (fun g160 => OT.loadB sc55 rfl) (fun _ _ => ⟨rfl, rfl, ⟨rfl, trivial⟩⟩)
            · exact OpOK.of (fun g160 => [(.tmp 3, .int .i64 i59)]) _ _ (fun g160 _ => g160) rfl rfl (fun _ => ⟨rfl, trivial⟩) (fun g160 => Pu.toOT Pu.move) (fun _ _ => ⟨rfl, rfl, ⟨rfl, trivial⟩⟩)
            · exact OpOK.of (fun g160 => [(.tmp 45, .slice a_0 (List.length p0.Puts) c_0), (.tmp 46, .int .i64 i59)]) _ _ (fun g160 _ => g160) rfl rfl (fun _ => ⟨rfl, rfl, trivial⟩) (fun g160 => OT.indexB ul55 sz49 hb_0 h166) (fun _ _ => ⟨rfl, rfl, ⟨rfl, trivial⟩⟩)
            · exact OpOK.of (fun g160 => [(.tmp 47, EP a_0 i59 3 0)]) _ _ (fun g160 _ => g160) rfl rfl (fun _ => ⟨rfl, trivial⟩) (fun g160 => Pu.toOT (Pu.fieldE fo49_0 rfl)) (fun _ _ => ⟨rfl, rfl, ⟨rfl, trivial⟩⟩)
            · exact OpOK.of (fun g160 => [(.tmp 48, EP a_0 i59 3 0)]) _ _ (fun g160 _ => g160) rfl rfl (fun _ => ⟨rfl, trivial⟩) (fun g160 => OT.loadN (v := .int .i64 ((gt p0.Puts i59).Page)) sc3 hn170 hlTChange rfl) (fun _ _ => ⟨rfl, rfl, ⟨rfl, trivial⟩⟩)
            refine HQ.keep [(1, _), (2, _), (3, _), (4, _), (43, _), (49, _)] ⟨rfl, rfl, rfl, rfl, rfl, rfl, trivial⟩ ?_
            refine HQ.keepR [(1, _)] ⟨rfl, trivial⟩ rfl ?_
            refine HQ.pu Pu.eql ⟨rfl, rfl, trivial⟩ rfl rfl rfl ?_
            refine HQ.done ?_
            refine HQ.keep [(1, _), (2, _), (3, _), (4, _), (50, _)] ⟨rfl, rfl, rfl, rfl, rfl, trivial⟩ ?_
            rcases brk H with ⟨hc, H⟩ | ⟨hc, H⟩
            · refine HQ.condT rfl hc ?_
              clear hc
              refine HQ.rseq ?_
              refine HQ.pu Pu.assign ⟨rfl, trivial⟩ rfl rfl rfl ?_
              refine HQ.done ?_
              refine HQ.keep [(1, _), (2, _), (3, _), (4, _)] ⟨rfl, rfl, rfl, rfl, trivial⟩ ?_
              refine HQ.ret ?_
              refine HQ.blkR ?_
              refine HQ.thenR ?_
              obtain rfl := Option.some.inj H
              refine HQ.retL ?_
              exact HQ.fin (vs := [_]) Try.results36 () ⟨rfl, trivial⟩ rfl [] trivial rfl
            · refine HQ.condF rfl hc ?_
              clear hc
              refine HQ.skip ?_
              refine HQ.blkN ?_
              refine HQ.thenN ?_
              refine HQ.regionQ ?_
              refine HQ.pu Pu.move ⟨rfl, trivial⟩ rfl rfl rfl ?_
              refine HQ.pu Pu.add ⟨rfl, rfl, trivial⟩ rfl rfl rfl ?_
              refine HQ.pu Pu.assign ⟨rfl, trivial⟩ rfl rfl rfl ?_
              refine HQ.done ?_
              refine HQ.keep [(1, _), (2, _), (3, _), (4, _)] ⟨rfl, rfl, rfl, rfl, trivial⟩ ?_
              obtain rfl := Option.some.inj H
              exact HQ.next () ⟨rfl, rfl, rfl, rfl, trivial⟩ ⟨rfl, trivial⟩ rfl
          · refine HQ.condF rfl hc ?_
            clear hc
            refine HQ.exit ?_
            refine HQ.thenE ?_
            obtain rfl := Option.some.inj H
            exact HQ.out () ⟨rfl, rfl, rfl, rfl, trivial⟩ ⟨rfl, trivial⟩ rfl
        · rintro i172 rfl _
          clear h173
          replace H := H
          refine HQ.keep [(1, _), (2, _), (3, _), (4, _)] ⟨rfl, rfl, rfl, rfl, trivial⟩ ?_
          refine HQ.keepR [(1, _)] ⟨rfl, trivial⟩ rfl ?_
          refine HQ.blkE ?_
          refine HQ.blkN ?_
          refine HQ.thenN ?_
          refine HQ.regionQ ?_
          refine HQ.pu Pu.move ⟨rfl, trivial⟩ rfl rfl rfl ?_
          refine HQ.pu Pu.add ⟨rfl, rfl, trivial⟩ rfl rfl rfl ?_
          refine HQ.pu Pu.assign ⟨rfl, trivial⟩ rfl rfl rfl ?_
          refine HQ.done ?_
          refine HQ.keep [(1, _), (2, _), (3, _)] ⟨rfl, rfl, rfl, trivial⟩ ?_
          obtain rfl := Option.some.inj H
          exact HQ.next () ⟨rfl, rfl, rfl, trivial⟩ ⟨rfl, trivial⟩ rfl
        · rintro r rfl a w hr
          obtain rfl := Option.some.inj H
          exact ⟨rfl, hr⟩
    · refine HQ.condF rfl hc ?_
      clear hc
      refine HQ.exit ?_
      refine HQ.thenE ?_
      obtain rfl := Option.some.inj H
      exact HQ.out () ⟨rfl, rfl, rfl, trivial⟩ ⟨rfl, trivial⟩ rfl
  · rintro i175 rfl _
    clear h188
    replace H := H
    refine HQ.keep [(1, _), (2, _), (3, _)] ⟨rfl, rfl, rfl, trivial⟩ ?_
    refine HQ.keepR [(1, _)] ⟨rfl, trivial⟩ rfl ?_
    refine HQ.blkE ?_
    refine HQ.thenN ?_
    refine HQ.rseq ?_
    refine HQ.pu (Pu.fieldB fo57_0 rfl) ⟨rfl, trivial⟩ rfl rfl rfl ?_
    refine HQ.op [1] [1] (OT.loadB sc3 rfl) ⟨rfl, trivial⟩ ⟨rfl, trivial⟩ rfl rfl rfl rfl (fun _ => rfl) fun _ => ?_
    obtain ⟨t176, h177, H⟩ := bnd H
    refine HQ.op [] [] (OT.call (us := [_, _, _]) (Pre := []) [.tmp 52, .const (.int .i64 1), .const (.int .i64 65535)] Try.call89 rfl rfl fun w F hs hF hp => spec_l1In_c h177) ⟨rfl, rfl, rfl, rfl, trivial⟩ trivial rfl rfl rfl rfl (fun _ => rfl) fun _ => ?_
    refine HQ.pu Pu.move ⟨rfl, trivial⟩ rfl rfl rfl ?_
    obtain ⟨c181, h182, H⟩ := bnd H
    refine HQ.cutAt 4 [(58, .bool c181), (1, BP b1 0), (2, .bool false)] [(1, Box b1 [.int .i64 p0.Seq, .int .i64 p0.Root, .int .i64 p0.Size, .slice a_0 (List.length p0.Puts) c_0])] ?_ ?_
    · clear H
      have H := h182
      rcases brk H with ⟨hg178, H⟩ | ⟨hg178, H⟩
      · refine HQ.on rfl rfl hg178 ?_
        refine HQ.pu (Pu.fieldB fo57_2 rfl) ⟨rfl, trivial⟩ rfl rfl rfl ?_
        refine HQ.on rfl rfl hg178 ?_
        refine HQ.op [1] [1] (OT.loadB sc3 rfl) ⟨rfl, trivial⟩ ⟨rfl, trivial⟩ rfl rfl rfl rfl (fun _ => rfl) fun _ => ?_
        refine HQ.on rfl rfl hg178 ?_
        obtain ⟨t179, h180, H⟩ := bnd H
        refine HQ.op [] [] (OT.call (us := [_, _, _]) (Pre := []) [.tmp 56, .const (.int .i64 1), .const (.int .i64 48)] Try.call89 rfl rfl fun w F hs hF hp => spec_l1In_c h180) ⟨rfl, rfl, rfl, rfl, trivial⟩ trivial rfl rfl rfl rfl (fun _ => rfl) fun _ => ?_
        obtain rfl := Option.some.inj H
        refine HQ.pu (Pu.pickC1 hg178) ⟨rfl, rfl, trivial⟩ rfl rfl rfl ?_
        exact HQ.mid ⟨rfl, rfl, rfl, trivial⟩ ⟨rfl, trivial⟩ rfl
      · obtain rfl := Option.some.inj H
        refine HQ.off rfl rfl hg178 rfl ?_
        refine HQ.off rfl rfl hg178 rfl ?_
        refine HQ.off rfl rfl hg178 rfl ?_
        refine HQ.pu (Pu.pickC0 hg178) ⟨rfl, rfl, trivial⟩ rfl rfl rfl ?_
        exact HQ.mid ⟨rfl, rfl, rfl, trivial⟩ ⟨rfl, trivial⟩ rfl
    refine HQ.pu Pu.move ⟨rfl, trivial⟩ rfl rfl rfl ?_
    obtain ⟨c186, h187, H⟩ := bnd H
    refine HQ.cutAt 7 [(66, .bool c186), (2, .bool false)] [(1, Box b1 [.int .i64 p0.Seq, .int .i64 p0.Root, .int .i64 p0.Size, .slice a_0 (List.length p0.Puts) c_0])] ?_ ?_
    · clear H
      have H := h187
      rcases brk H with ⟨hg183, H⟩ | ⟨hg183, H⟩
      · refine HQ.on rfl rfl hg183 ?_
        refine HQ.pu (Pu.fieldB fo57_1 rfl) ⟨rfl, trivial⟩ rfl rfl rfl ?_
        refine HQ.on rfl rfl hg183 ?_
        refine HQ.op [1] [1] (OT.loadB sc3 rfl) ⟨rfl, trivial⟩ ⟨rfl, trivial⟩ rfl rfl rfl rfl (fun _ => rfl) fun _ => ?_
        refine HQ.on rfl rfl hg183 ?_
        refine HQ.pu (Pu.fieldB fo57_2 rfl) ⟨rfl, trivial⟩ rfl rfl rfl ?_
        refine HQ.on rfl rfl hg183 ?_
        refine HQ.op [1] [1] (OT.loadB sc3 rfl) ⟨rfl, trivial⟩ ⟨rfl, trivial⟩ rfl rfl rfl rfl (fun _ => rfl) fun _ => ?_
        refine HQ.on rfl rfl hg183 ?_
        refine HQ.pu Pu.sub ⟨rfl, rfl, trivial⟩ rfl rfl rfl ?_
        refine HQ.on rfl rfl hg183 ?_
        obtain ⟨t184, h185, H⟩ := bnd H
        refine HQ.op [] [] (OT.call (us := [_, _, _]) (Pre := []) [.tmp 61, .const (.int .i64 0), .tmp 64] Try.call89 rfl rfl fun w F hs hF hp => spec_l1In_c h185) ⟨rfl, rfl, rfl, rfl, trivial⟩ trivial rfl rfl rfl rfl (fun _ => rfl) fun _ => ?_
        obtain rfl := Option.some.inj H
        refine HQ.pu (Pu.pickC1 hg183) ⟨rfl, rfl, trivial⟩ rfl rfl rfl ?_
        exact HQ.mid ⟨rfl, rfl, trivial⟩ ⟨rfl, trivial⟩ rfl
      · obtain rfl := Option.some.inj H
        refine HQ.off rfl rfl hg183 rfl ?_
        refine HQ.off rfl rfl hg183 rfl ?_
        refine HQ.off rfl rfl hg183 rfl ?_
        refine HQ.off rfl rfl hg183 rfl ?_
        refine HQ.off rfl rfl hg183 rfl ?_
        refine HQ.off rfl rfl hg183 rfl ?_
        refine HQ.pu (Pu.pickC0 hg183) ⟨rfl, rfl, trivial⟩ rfl rfl rfl ?_
        exact HQ.mid ⟨rfl, rfl, trivial⟩ ⟨rfl, trivial⟩ rfl
    refine HQ.pu Pu.assign ⟨rfl, trivial⟩ rfl rfl rfl ?_
    refine HQ.done ?_
    refine HQ.keep [(2, _)] ⟨rfl, trivial⟩ ?_
    refine HQ.ret ?_
    obtain rfl := Option.some.inj H
    exact HQ.fin (vs := [_]) Try.results36 () ⟨rfl, trivial⟩ rfl [] trivial rfl
  · rintro r rfl a w hr
    obtain rfl := Option.some.inj H
    exact hr

/-! spec.Put2 -/
theorem spec_Put2_c {w : World} {p0 : (List Int)} {p1 : Int} {a_0 : Option Addr} {c_0 : Nat} (hb_0 : BorS kU8 a_0 c_0 p0 w.heap (Lt w Nil)) {r : (List Int)} (H : spec_Put2 p0 p1 = some r) :
    Calls Try.prog 106 #[.slice a_0 (List.length p0) c_0, .int .i64 p1] w (Rt w Nil (fun g : Option Addr × Nat => .slice g.1 (List.length r) g.2) (fun g => [OwnS kU8 g.1 g.2 r])) := by
  rw [spec_Put2] at H
  refine Calls.enter0 (N := 22) (us := [_, _]) Try.func106 rfl rfl rfl ?_
  refine HQ.rseq ?_
  refine HQ.pu Pu.assign ⟨rfl, trivial⟩ rfl rfl rfl ?_
  refine HQ.done ?_
  refine HQ.keep [(0, _), (1, _), (4, _)] ⟨rfl, rfl, rfl, trivial⟩ ?_
  refine HQ.rseq ?_
  refine HQ.op [] [1] (OT.buildF (us := []) (ys := ([] : (List Int))) (enc := (encI .u8)) (hl := fun _ => ⟨rfl, rfl⟩) [] sl22.ul sl22.szE sl22.zc rfl rfl rfl rfl rfl) trivial trivial rfl rfl rfl rfl (fun _ => rfl) fun ⟨a1, c2⟩ => ?_
  refine HQ.pu Pu.move ⟨rfl, trivial⟩ rfl rfl rfl ?_
  obtain ⟨h5, H⟩ := asr H
  refine HQ.op [1] [1] (OT.appendF (enc := (encI .u8)) (hl := fun _ => ⟨rfl, rfl⟩) sl22 ul22 hb_0 h5) ⟨rfl, rfl, trivial⟩ ⟨rfl, trivial⟩ rfl rfl rfl rfl (fun _ => rfl) fun ⟨a3, c4⟩ => ?_
  refine HQ.pu Pu.assign ⟨rfl, trivial⟩ rfl rfl rfl ?_
  refine HQ.done ?_
  refine HQ.keep [(1, _), (4, _), (5, _)] ⟨rfl, rfl, rfl, trivial⟩ ?_
  refine HQ.seq ?_
  refine HQ.rseq ?_
  refine HQ.pu Pu.move ⟨rfl, trivial⟩ rfl rfl rfl ?_
  obtain ⟨t6, h7, H⟩ := bnd H
  refine HQ.op [] [] (OT.call (us := [_, _, _]) (Pre := []) [.tmp 9, .const (.int .i64 0), .const (.int .i64 65535)] Try.call89 rfl rfl fun w F hs hF hp => spec_l1In_c h7) ⟨rfl, rfl, rfl, rfl, trivial⟩ trivial rfl rfl rfl rfl (fun _ => rfl) fun _ => ?_
  refine HQ.pu Pu.not ⟨rfl, trivial⟩ rfl rfl rfl ?_
  refine HQ.done ?_
  refine HQ.keep [(1, _), (4, _), (5, _), (11, _)] ⟨rfl, rfl, rfl, rfl, trivial⟩ ?_
  rcases brk H with ⟨hc, H⟩ | ⟨hc, H⟩
  · refine HQ.condT rfl hc ?_
    clear hc
    refine HQ.rseq ?_
    refine HQ.pu Pu.move ⟨rfl, trivial⟩ rfl rfl rfl ?_
    refine HQ.pu Pu.assign ⟨rfl, trivial⟩ rfl rfl rfl ?_
    refine HQ.done ?_
    refine HQ.keep [(1, _), (4, _), (5, _)] ⟨rfl, rfl, rfl, trivial⟩ ?_
    refine HQ.ret ?_
    refine HQ.thenR ?_
    obtain rfl := Option.some.inj H
    exact HQ.fin (vs := [_]) Try.results106 (a3, c4) ⟨rfl, trivial⟩ rfl [1] ⟨rfl, trivial⟩ rfl
  · refine HQ.condF rfl hc ?_
    clear hc
    refine HQ.skipThen ?_
    refine HQ.rseq ?_
    refine HQ.pu Pu.move ⟨rfl, trivial⟩ rfl rfl rfl ?_
    refine HQ.pu Pu.move ⟨rfl, trivial⟩ rfl rfl rfl ?_
    refine HQ.pu (Pu.quo (by decide)) ⟨rfl, rfl, trivial⟩ rfl rfl rfl ?_
    refine HQ.pu (Pu.conv ul3 ul5) ⟨rfl, trivial⟩ rfl rfl rfl ?_
    refine HQ.pu Pu.move ⟨rfl, trivial⟩ rfl rfl rfl ?_
    refine HQ.pu (Pu.rem (by decide)) ⟨rfl, rfl, trivial⟩ rfl rfl rfl ?_
    refine HQ.pu (Pu.conv ul3 ul5) ⟨rfl, trivial⟩ rfl rfl rfl ?_
    refine HQ.op [] [2] (OT.buildF (us := [.int .u8 (IntKind.u8.wrap (wrap64 (Int.tdiv p1 256))), .int .u8 (IntKind.u8.wrap (Int.tmod p1 256))]) (ys := ([(IntKind.u8.wrap (wrap64 (Int.tdiv p1 256))), (IntKind.u8.wrap (Int.tmod p1 256))] : (List Int))) (enc := (encI .u8)) (hl := fun _ => ⟨rfl, rfl⟩) [.tmp 16, .tmp 19] sl22.ul sl22.szE sl22.zc rfl rfl rfl rfl rfl) ⟨rfl, rfl, trivial⟩ trivial rfl rfl rfl rfl (fun _ => rfl) fun ⟨a8, c9⟩ => ?_
    obtain ⟨h12, H⟩ := asr H
    refine HQ.op [1, 2] [1, 2] (OT.appendG (enc := (encI .u8)) (hl := fun _ => ⟨rfl, rfl⟩) sl22 ul22 h12) ⟨rfl, rfl, trivial⟩ ⟨rfl, rfl, trivial⟩ rfl rfl rfl rfl (fun _ => rfl) fun ⟨a10, c11⟩ => ?_
    refine HQ.pu Pu.assign ⟨rfl, trivial⟩ rfl rfl rfl ?_
    refine HQ.done ?_
    refine HQ.keep [(4, _)] ⟨rfl, trivial⟩ ?_
    refine HQ.ret ?_
    obtain rfl := Option.some.inj H
    exact HQ.fin (vs := [_]) Try.results106 (a10, c11) ⟨rfl, trivial⟩ rfl [1] ⟨rfl, trivial⟩ rfl

/-! spec.EndCell -/
theorem spec_EndCell_c {w : World} {k : Nat} {p0 : Int} {p1 : TTx} {a_0 : Option Addr} {c_0 : Nat} (hb_0 : BorS kTChange a_0 c_0 p1.Puts w.heap (Lt w Nil)) {r : (List Int)} (H : spec_EndCell k p0 p1 = some r) :
    Calls Try.prog 34 #[.int .i64 p0, .agg #[.int .i64 p1.Seq, .int .i64 p1.Root, .int .i64 p1.Size, .slice a_0 (List.length p1.Puts) c_0]] w (Rt w Nil (fun g : Option Addr × Nat => .slice g.1 (List.length r) g.2) (fun g => [OwnS kU8 g.1 g.2 r])) := by
  rw [spec_EndCell] at H
  refine Calls.enter0 (N := 32) (us := [_, _]) Try.func34 rfl rfl rfl ?_
  refine HQ.rseq ?_
  refine HQ.op [] [1] (OT.box (cs := [.int .i64 p1.Seq, .int .i64 p1.Root, .int .i64 p1.Size, .slice a_0 (List.length p1.Puts) c_0]) rfl) ⟨rfl, trivial⟩ trivial rfl rfl rfl rfl (fun _ => rfl) fun b1 => ?_
  refine HQ.pu Pu.assign ⟨rfl, trivial⟩ rfl rfl rfl ?_
  refine HQ.done ?_
  refine HQ.keep [(0, _), (3, _), (4, _)] ⟨rfl, rfl, rfl, trivial⟩ ?_
  refine HQ.seq ?_
  refine HQ.rseq ?_
  refine HQ.pu Pu.move ⟨rfl, trivial⟩ rfl rfl rfl ?_
  obtain ⟨t2, h3, H⟩ := bnd H
  refine HQ.op [] [] (OT.call (us := [_, _, _]) (Pre := []) [.tmp 5, .const (.int .i64 0), .const (.int .i64 65535)] Try.call89 rfl rfl fun w F hs hF hp => spec_l1In_c h3) ⟨rfl, rfl, rfl, rfl, trivial⟩ trivial rfl rfl rfl rfl (fun _ => rfl) fun _ => ?_
  refine HQ.pu Pu.not ⟨rfl, trivial⟩ rfl rfl rfl ?_
  refine HQ.pu Pu.move ⟨rfl, trivial⟩ rfl rfl rfl ?_
  obtain ⟨c7, h8, H⟩ := bnd H
  refine HQ.cutAt 4 [(12, .bool c7), (0, .int .i64 p0), (3, BP b1 0), (4, .slice none 0 0)] [(1, Box b1 [.int .i64 p1.Seq, .int .i64 p1.Root, .int .i64 p1.Size, .slice a_0 (List.length p1.Puts) c_0])] ?_ ?_
  · clear H
    have H := h8
    rcases brk H with ⟨hg4, H⟩ | ⟨hg4, H⟩
    · obtain rfl := Option.some.inj H
      refine HQ.off rfl rfl hg4 rfl ?_
      refine HQ.off rfl rfl hg4 rfl ?_
      refine HQ.off rfl rfl hg4 rfl ?_
      refine HQ.pu (Pu.pickC1 hg4) ⟨rfl, rfl, trivial⟩ rfl rfl rfl ?_
      exact HQ.mid ⟨rfl, rfl, rfl, rfl, trivial⟩ ⟨rfl, trivial⟩ rfl
    · refine HQ.on rfl rfl hg4 ?_
      refine HQ.op [1] [1] (OT.loadBA (vs := [.int .i64 p1.Seq, .int .i64 p1.Root, .int .i64 p1.Size, .slice a_0 (List.length p1.Puts) c_0]) ag57 sz57 rfl rfl) ⟨rfl, trivial⟩ ⟨rfl, trivial⟩ rfl rfl rfl rfl (fun _ => rfl) fun _ => ?_
      refine HQ.on rfl rfl hg4 ?_
      obtain ⟨t5, h6, H⟩ := bnd H
      refine HQ.op [] [] (OT.call (us := [_]) (Pre := []) [.tmp 9] Try.call36 rfl rfl fun w F hs hF hp => spec_TxOk_c (hb_0.pass hp) h6) ⟨rfl, rfl, trivial⟩ trivial rfl rfl rfl rfl (fun _ => rfl) fun _ => ?_
      refine HQ.on rfl rfl hg4 ?_
      refine HQ.pu Pu.not ⟨rfl, trivial⟩ rfl rfl rfl ?_
      obtain rfl := Option.some.inj H
      refine HQ.pu (Pu.pickC0 hg4) ⟨rfl, rfl, trivial⟩ rfl rfl rfl ?_
      exact HQ.mid ⟨rfl, rfl, rfl, rfl, trivial⟩ ⟨rfl, trivial⟩ rfl
  refine HQ.done ?_
  refine HQ.keep [(12, _), (0, _), (3, _), (4, _)] ⟨rfl, rfl, rfl, rfl, trivial⟩ ?_
  rcases brk H with ⟨hc, H⟩ | ⟨hc, H⟩
  · refine HQ.condT rfl hc ?_
    clear hc
    refine HQ.rseq ?_
    refine HQ.op [] [2] (OT.buildF (us := []) (ys := ([] : (List Int))) (enc := (encI .u8)) (hl := fun _ => ⟨rfl, rfl⟩) [] sl22.ul sl22.szE sl22.zc rfl rfl rfl rfl rfl) trivial trivial rfl rfl rfl rfl (fun _ => rfl) fun ⟨a9, c10⟩ => ?_
    refine HQ.pu Pu.assign ⟨rfl, trivial⟩ rfl rfl rfl ?_
    refine HQ.done ?_
    refine HQ.keep [(0, _), (3, _), (4, _)] ⟨rfl, rfl, rfl, trivial⟩ ?_
    refine HQ.ret ?_
    refine HQ.thenR ?_
    obtain rfl := Option.some.inj H
    exact HQ.fin (vs := [_]) Try.results34 (a9, c10) ⟨rfl, trivial⟩ rfl [2] ⟨rfl, trivial⟩ rfl
  · refine HQ.condF rfl hc ?_
    clear hc
    refine HQ.skipThen ?_
    obtain ⟨t14, h15, H⟩ := bnd H
    obtain ⟨t18, h19, H⟩ := bnd H
    refine HQ.drawS mixd [(0, .int .i64 p0), (3, BP b1 0), (4, .slice none 0 0)] 17 [⟨[], [0], []⟩, ⟨[], [], []⟩, ⟨[0], [1, 0], [0, 1]⟩, ⟨[], [], []⟩, ⟨[2], [2], [3]⟩, ⟨[1], [3, 1], [2, 4]⟩, ⟨[], [], []⟩, ⟨[2], [2], [6]⟩, ⟨[], [], [7]⟩, ⟨[], [], []⟩, ⟨[2], [2], [9]⟩, ⟨[], [], [10]⟩, ⟨[], [], []⟩, ⟨[2], [2], [12]⟩, ⟨[], [], [13]⟩, ⟨[], [], [14]⟩, ⟨[], [4], [8, 11, 15]⟩] [⟨some 0, none⟩, ⟨some 2, none⟩, ⟨none, none⟩, ⟨some 5, none⟩, ⟨some 16, none⟩] (fun (g11 : (Option Addr × Nat) × (Option Addr × Nat) × (Option Addr × Nat) × (Option Addr × Nat)) => [.slice g11.1.1 (List.length ([2] : (List Int))) g11.1.2, .int .i64 p0, .slice g11.2.1.1 (List.length t14) g11.2.1.2, BP b1 0, .int .i64 p1.Seq, .slice g11.2.2.1.1 (List.length t18) g11.2.2.1.2, BP b1 1, .int .i64 p1.Root, .int .u8 (IntKind.u8.wrap p1.Root), BP b1 2, .int .i64 p1.Size, .int .u8 (IntKind.u8.wrap p1.Size), BP b1 3, .slice a_0 (List.length p1.Puts) c_0, .int .i64 ((List.length p1.Puts : Nat) : Int), .int .u8 (IntKind.u8.wrap ((List.length p1.Puts : Nat) : Int)), .slice g11.2.2.2.1 (List.length ([(IntKind.u8.wrap p1.Root), (IntKind.u8.wrap p1.Size), (IntKind.u8.wrap ((List.length p1.Puts : Nat) : Int))] : (List Int))) g11.2.2.2.2]) (fun (g11 : (Option Addr × Nat) × (Option Addr × Nat) × (Option Addr × Nat) × (Option Addr × Nat)) => [OwnS kU8 g11.1.1 g11.1.2 ([2] : (List Int)), OwnS kU8 g11.2.1.1 g11.2.1.2 t14, Box b1 [.int .i64 p1.Seq, .int .i64 p1.Root, .int .i64 p1.Size, .slice a_0 (List.length p1.Puts) c_0], OwnS kU8 g11.2.2.1.1 g11.2.2.1.2 t18, OwnS kU8 g11.2.2.2.1 g11.2.2.2.2 ([(IntKind.u8.wrap p1.Root), (IntKind.u8.wrap p1.Size), (IntKind.u8.wrap ((List.length p1.Puts : Nat) : Int))] : (List Int))]) ((none, 0), (none, 0), (none, 0), (none, 0)) [1] [3, 4, 1, 5, 6] [] ⟨rfl, rfl, rfl, trivial⟩ ⟨rfl, trivial⟩ rfl (by kernel_rfl) (fun _ => rfl) (by kernel_rfl) (fun _ => rfl) ⟨?_, ?_, ?_, ?_, ?_, ?_, ?_, ?_, ?_, ?_, ?_, ?_, ?_, ?_, ?_, ?_, ?_, trivial⟩ fun g11 => ?_
    · exact OpOK.of (fun g11 => [(.const (.int .u8 2), .int .u8 2)]) _ _ (fun g11 x => (x, g11.2.1, g11.2.2.1, g11.2.2.2)) rfl rfl (fun _ => ⟨rfl, trivial⟩) (fun g11 => OT.buildF (us := [.int .u8 2]) (ys := ([2] : (List Int))) (enc := (encI .u8)) (hl := fun _ => ⟨rfl, rfl⟩) [.const (.int .u8 2)] sl22.ul sl22.szE sl22.zc rfl rfl rfl rfl rfl) (fun _ _ => ⟨rfl, rfl, ⟨rfl, rfl, rfl, rfl, rfl, trivial⟩⟩)
    · exact OpOK.of (fun g11 => [(.tmp 0, .int .i64 p0)]) _ _ (fun g11 _ => g11) rfl rfl (fun _ => ⟨rfl, trivial⟩) (fun g11 => Pu.toOT Pu.move) (fun _ _ => ⟨rfl, rfl, ⟨rfl, rfl, rfl, rfl, rfl, trivial⟩⟩)
    · exact OpOK.of (fun g11 => [(.func 106, .func (.func 106) #[] #[]), (.tmp 14, .slice g11.1.1 (List.length ([2] : (List Int))) g11.1.2), (.tmp 15, .int .i64 p0)]) _ _ (fun g11 x => (g11.1, x, g11.2.2.1, g11.2.2.2)) rfl rfl (fun _ => ⟨rfl, rfl, rfl, trivial⟩) (fun g11 => OT.call (us := [_, _]) (Pre := [OwnS kU8 g11.1.1 g11.1.2 ([2] : (List Int))]) [.tmp 14, .tmp 15] Try.call106 rfl rfl fun w F hs hF hp => spec_Put2_c (hs.lend hF 0 rfl) h15) (fun _ _ => ⟨rfl, rfl, ⟨rfl, rfl, rfl, rfl, rfl, trivial⟩⟩)
    · exact OpOK.of (fun g11 => [(.tmp 3, BP b1 0)]) _ _ (fun g11 _ => g11) rfl rfl (fun _ => ⟨rfl, trivial⟩) (fun g11 => Pu.toOT (Pu.fieldB fo57_0 rfl)) (fun _ _ => ⟨rfl, rfl, ⟨rfl, rfl, rfl, rfl, rfl, trivial⟩⟩)
    · exact OpOK.of (fun g11 => [(.tmp 17, BP b1 0)]) _ _ (fun g11 _ => g11) rfl rfl (fun _ => ⟨rfl, trivial⟩) (fun g11 => OT.loadB sc3 rfl) (fun _ _ => ⟨rfl, rfl, ⟨rfl, rfl, rfl, rfl, rfl, trivial⟩⟩)
    · exact OpOK.of (fun g11 => [(.func 106, .func (.func 106) #[] #[]), (.tmp 16, .slice g11.2.1.1 (List.length t14) g11.2.1.2), (.tmp 18, .int .i64 p1.Seq)]) _ _ (fun g11 x => (g11.1, g11.2.1, x, g11.2.2.2)) rfl rfl (fun _ => ⟨rfl, rfl, rfl, trivial⟩) (fun g11 => OT.call (us := [_, _]) (Pre := [OwnS kU8 g11.2.1.1 g11.2.1.2 t14]) [.tmp 16, .tmp 18] Try.call106 rfl rfl fun w F hs hF hp => spec_Put2_c (hs.lend hF 0 rfl) h19) (fun _ _ => ⟨rfl, rfl, ⟨rfl, rfl, rfl, rfl, rfl, trivial⟩⟩)
    · exact OpOK.of (fun g11 => [(.tmp 3, BP b1 0)]) _ _ (fun g11 _ => g11) rfl rfl (fun _ => ⟨rfl, trivial⟩) (fun g11 => Pu.toOT (Pu.fieldB fo57_1 rfl)) (fun _ _ => ⟨rfl, rfl, ⟨rfl, rfl, rfl, rfl, rfl, trivial⟩⟩)
    · exact OpOK.of (fun g11 => [(.tmp 20, BP b1 1)]) _ _ (fun g11 _ => g11) rfl rfl (fun _ => ⟨rfl, trivial⟩) (fun g11 => OT.loadB sc3 rfl) (fun _ _ => ⟨rfl, rfl, ⟨rfl, rfl, rfl, rfl, rfl, trivial⟩⟩)
    · exact OpOK.of (fun g11 => [(.tmp 21, .int .i64 p1.Root)]) _ _ (fun g11 _ => g11) rfl rfl (fun _ => ⟨rfl, trivial⟩) (fun g11 => Pu.toOT (Pu.conv ul3 ul5)) (fun _ _ => ⟨rfl, rfl, ⟨rfl, rfl, rfl, rfl, rfl, trivial⟩⟩)
    · exact OpOK.of (fun g11 => [(.tmp 3, BP b1 0)]) _ _ (fun g11 _ => g11) rfl rfl (fun _ => ⟨rfl, trivial⟩) (fun g11 => Pu.toOT (Pu.fieldB fo57_2 rfl)) (fun _ _ => ⟨rfl, rfl, ⟨rfl, rfl, rfl, rfl, rfl, trivial⟩⟩)
    · exact OpOK.of (fun g11 => [(.tmp 23, BP b1 2)]) _ _ (fun g11 _ => g11) rfl rfl (fun _ => ⟨rfl, trivial⟩) (fun g11 => OT.loadB sc3 rfl) (fun _ _ => ⟨rfl, rfl, ⟨rfl, rfl, rfl, rfl, rfl, trivial⟩⟩)
    · exact OpOK.of (fun g11 => [(.tmp 24, .int .i64 p1.Size)]) _ _ (fun g11 _ => g11) rfl rfl (fun _ => ⟨rfl, trivial⟩) (fun g11 => Pu.toOT (Pu.conv ul3 ul5)) (fun _ _ => ⟨rfl, rfl, ⟨rfl, rfl, rfl, rfl, rfl, trivial⟩⟩)
    · exact OpOK.of (fun g11 => [(.tmp 3, BP b1 0)]) _ _ (fun g11 _ => g11) rfl rfl (fun _ => ⟨rfl, trivial⟩) (fun g11 => Pu.toOT (Pu.fieldB fo57_3 rfl)) (fun _ _ => ⟨rfl, rfl, ⟨rfl, rfl, rfl, rfl, rfl, trivial⟩⟩)
    · exact OpOK.of (fun g11 => [(.tmp 26, BP b1 3)]) _ _ (fun g11 _ => g11) rfl rfl (fun _ => ⟨rfl, trivial⟩) (fun g11 => OT.loadB sc55 rfl) (fun _ _ => ⟨rfl, rfl, ⟨rfl, rfl, rfl, rfl, rfl, trivial⟩⟩)
    · exact OpOK.of (fun g11 => [(.tmp 27, .slice a_0 (List.length p1.Puts) c_0)]) _ _ (fun g11 _ => g11) rfl rfl (fun _ => ⟨rfl, trivial⟩) (fun g11 => Pu.toOT (Pu.len ul55)) (fun _ _ => ⟨rfl, rfl, ⟨rfl, rfl, rfl, rfl, rfl, trivial⟩⟩)
    · exact OpOK.of (fun g11 => [(.tmp 28, .int .i64 ((List.length p1.Puts : Nat) : Int))]) _ _ (fun g11 _ => g11) rfl rfl (fun _ => ⟨rfl, trivial⟩) (fun g11 => Pu.toOT (Pu.conv ul3 ul5)) (fun _ _ => ⟨rfl, rfl, ⟨rfl, rfl, rfl, rfl, rfl, trivial⟩⟩)
    · exact OpOK.of (fun g11 => [(.tmp 22, .int .u8 (IntKind.u8.wrap p1.Root)), (.tmp 25, .int .u8 (IntKind.u8.wrap p1.Size)), (.tmp 29, .int .u8 (IntKind.u8.wrap ((List.length p1.Puts : Nat) : Int)))]) _ _ (fun g11 x => (g11.1, g11.2.1, g11.2.2.1, x)) rfl rfl (fun _ => ⟨rfl, rfl, rfl, trivial⟩) (fun g11 => OT.buildF (us := [.int .u8 (IntKind.u8.wrap p1.Root), .int .u8 (IntKind.u8.wrap p1.Size), .int .u8 (IntKind.u8.wrap ((List.length p1.Puts : Nat) : Int))]) (ys := ([(IntKind.u8.wrap p1.Root), (IntKind.u8.wrap p1.Size), (IntKind.u8.wrap ((List.length p1.Puts : Nat) : Int))] : (List Int))) (enc := (encI .u8)) (hl := fun _ => ⟨rfl, rfl⟩) [.tmp 22, .tmp 25, .tmp 29] sl22.ul sl22.szE sl22.zc rfl rfl rfl rfl rfl) (fun _ _ => ⟨rfl, rfl, ⟨rfl, rfl, rfl, rfl, rfl, trivial⟩⟩)
    refine HQ.keep [(4, _), (19, _), (30, _)] ⟨rfl, rfl, rfl, trivial⟩ ?_
    refine HQ.keepR [(1, _), (3, _), (4, _), (5, _), (6, _)] ⟨rfl, rfl, rfl, rfl, rfl, trivial⟩ rfl ?_
    obtain ⟨h26, H⟩ := asr H
    refine HQ.op [5, 6] [5, 6] (OT.appendG (enc := (encI .u8)) (hl := fun _ => ⟨rfl, rfl⟩) sl22 ul22 h26) ⟨rfl, rfl, trivial⟩ ⟨rfl, rfl, trivial⟩ rfl rfl rfl rfl (fun _ => rfl) fun ⟨a24, c25⟩ => ?_
    refine HQ.pu Pu.assign ⟨rfl, trivial⟩ rfl rfl rfl ?_
    refine HQ.done ?_
    refine HQ.keep [(4, _)] ⟨rfl, trivial⟩ ?_
    refine HQ.ret ?_
    obtain rfl := Option.some.inj H
    exact HQ.fin (vs := [_]) Try.results34 (a24, c25) ⟨rfl, trivial⟩ rfl [5] ⟨rfl, trivial⟩ rfl

end Go.Proofs.Sx
