import Derived.Test.YtkhommmhkeohbaaQbF3
import Derived.KernelRfl
namespace Go.Proofs.Sx
open Go.RowKit
set_option linter.unusedVariables false
set_option linter.unusedSimpArgs false
set_option maxRecDepth 20000
set_option maxHeartbeats 1000000
/-! impl.NodeOk -/
theorem impl_NodeOk_c {w : World} {k : Nat} {p0 : TNode} {a_0 : Option Addr} {c_0 : Nat} (hb_0 : BorS kTEntry a_0 c_0 p0.L w.heap (Lt w Nil)) {r : Bool} (H : impl_NodeOk k p0 = some r) :
    Calls Try.prog 38 #[.agg #[.bool p0.Leaf, .slice a_0 (List.length p0.L) c_0]] w (Rt w Nil (fun _ : Unit => .bool r) (fun _ => [])) := by
  rw [impl_NodeOk] at H
  refine Calls.enter0 (N := 63) (us := [_]) Try.func38 rfl rfl rfl ?_
  refine HQ.rseq ?_
  refine HQ.op [] [1] (OT.box (cs := [.bool p0.Leaf, .slice a_0 (List.length p0.L) c_0]) rfl) ⟨rfl, trivial⟩ trivial rfl rfl rfl rfl (fun _ => rfl) fun b1 => ?_
  refine HQ.pu Pu.assign ⟨rfl, trivial⟩ rfl rfl rfl ?_
  refine HQ.done ?_
  refine HQ.keep [(1, _), (2, _)] ⟨rfl, rfl, trivial⟩ ?_
  refine HQ.seq ?_
  refine HQ.rseq ?_
  refine HQ.pu (Pu.fieldB fo47_1 rfl) ⟨rfl, trivial⟩ rfl rfl rfl ?_
  refine HQ.op [1] [1] (OT.loadB sc45 rfl) ⟨rfl, trivial⟩ ⟨rfl, trivial⟩ rfl rfl rfl rfl (fun _ => rfl) fun _ => ?_
  refine HQ.pu (Pu.len ul45) ⟨rfl, trivial⟩ rfl rfl rfl ?_
  refine HQ.pu Pu.gtr ⟨rfl, rfl, trivial⟩ rfl rfl rfl ?_
  refine HQ.pu Pu.move ⟨rfl, trivial⟩ rfl rfl rfl ?_
  refine HQ.cutAt 10 [(19, .bool ((decide (((List.length p0.L : Nat) : Int) > 4)) || ((!p0.Leaf) && (decide (((List.length p0.L : Nat) : Int) = 0))))), (1, BP b1 0), (2, .bool false)] [(1, Box b1 [.bool p0.Leaf, .slice a_0 (List.length p0.L) c_0])] ?_ ?_
  · rcases Bool.eq_false_or_eq_true (decide (((List.length p0.L : Nat) : Int) > 4)) with hg2 | hg2
    · refine HQ.off rfl rfl hg2 rfl ?_
      refine HQ.off rfl rfl hg2 rfl ?_
      refine HQ.off rfl rfl hg2 rfl ?_
      refine HQ.off rfl rfl hg2 rfl ?_
      refine HQ.offU rfl rfl rfl ?_
      refine HQ.offU rfl rfl rfl ?_
      refine HQ.offU rfl rfl rfl ?_
      refine HQ.offU rfl rfl rfl ?_
      refine HQ.off rfl rfl hg2 rfl ?_
      refine HQ.pu (Pu.pickOT (u := ((!p0.Leaf) && (decide (((List.length p0.L : Nat) : Int) = 0)))) hg2) ⟨rfl, rfl, trivial⟩ rfl rfl rfl ?_
      exact HQ.mid ⟨rfl, rfl, rfl, trivial⟩ ⟨rfl, trivial⟩ rfl
    · refine HQ.on rfl rfl hg2 ?_
      refine HQ.pu (Pu.fieldB fo47_0 rfl) ⟨rfl, trivial⟩ rfl rfl rfl ?_
      refine HQ.on rfl rfl hg2 ?_
      refine HQ.op [1] [1] (OT.loadB sc4 rfl) ⟨rfl, trivial⟩ ⟨rfl, trivial⟩ rfl rfl rfl rfl (fun _ => rfl) fun _ => ?_
      refine HQ.on rfl rfl hg2 ?_
      refine HQ.pu Pu.not ⟨rfl, trivial⟩ rfl rfl rfl ?_
      refine HQ.on rfl rfl hg2 ?_
      refine HQ.pu Pu.move ⟨rfl, trivial⟩ rfl rfl rfl ?_
      refine HQ.cutAt 5 [(18, .bool ((!p0.Leaf) && (decide (((List.length p0.L : Nat) : Int) = 0)))), (1, BP b1 0), (2, .bool false), (9, .bool (decide (((List.length p0.L : Nat) : Int) > 4)))] [(1, Box b1 [.bool p0.Leaf, .slice a_0 (List.length p0.L) c_0])] ?_ ?_
      · rcases Bool.eq_false_or_eq_true (!p0.Leaf) with hg3 | hg3
        · refine HQ.on rfl rfl hg3 ?_
          refine HQ.pu (Pu.fieldB fo47_1 rfl) ⟨rfl, trivial⟩ rfl rfl rfl ?_
          refine HQ.on rfl rfl hg3 ?_
          refine HQ.op [1] [1] (OT.loadB sc45 rfl) ⟨rfl, trivial⟩ ⟨rfl, trivial⟩ rfl rfl rfl rfl (fun _ => rfl) fun _ => ?_
          refine HQ.on rfl rfl hg3 ?_
          refine HQ.pu (Pu.len ul45) ⟨rfl, trivial⟩ rfl rfl rfl ?_
          refine HQ.on rfl rfl hg3 ?_
          refine HQ.pu Pu.eql ⟨rfl, rfl, trivial⟩ rfl rfl rfl ?_
          refine HQ.on rfl rfl hg2 ?_
          refine HQ.pu (Pu.pickAT hg3) ⟨rfl, rfl, trivial⟩ rfl rfl rfl ?_
          exact HQ.mid ⟨rfl, rfl, rfl, rfl, trivial⟩ ⟨rfl, trivial⟩ rfl
        · refine HQ.off rfl rfl hg3 rfl ?_
          refine HQ.off rfl rfl hg3 rfl ?_
          refine HQ.off rfl rfl hg3 rfl ?_
          refine HQ.off rfl rfl hg3 rfl ?_
          refine HQ.on rfl rfl hg2 ?_
          refine HQ.pu (Pu.pickAF (u := (decide (((List.length p0.L : Nat) : Int) = 0))) hg3) ⟨rfl, rfl, trivial⟩ rfl rfl rfl ?_
          exact HQ.mid ⟨rfl, rfl, rfl, rfl, trivial⟩ ⟨rfl, trivial⟩ rfl
      refine HQ.pu (Pu.pickOF hg2) ⟨rfl, rfl, trivial⟩ rfl rfl rfl ?_
      exact HQ.mid ⟨rfl, rfl, rfl, trivial⟩ ⟨rfl, trivial⟩ rfl
  refine HQ.done ?_
  refine HQ.keep [(19, _), (1, _), (2, _)] ⟨rfl, rfl, rfl, trivial⟩ ?_
  rcases brk H with ⟨hc, H⟩ | ⟨hc, H⟩
  · refine HQ.condT rfl hc ?_
    clear hc
    refine HQ.rseq ?_
    refine HQ.pu Pu.assign ⟨rfl, trivial⟩ rfl rfl rfl ?_
    refine HQ.done ?_
    refine HQ.keep [(1, _), (2, _)] ⟨rfl, rfl, trivial⟩ ?_
    refine HQ.ret ?_
    refine HQ.thenR ?_
    obtain rfl := Option.some.inj H
    exact HQ.fin (vs := [_]) Try.results38 () ⟨rfl, trivial⟩ rfl [] trivial rfl
  · refine HQ.condF rfl hc ?_
    clear hc
    refine HQ.skipThen ?_
    refine HQ.seq ?_
    refine HQ.rseq ?_
    refine HQ.pu (Pu.fieldB fo47_1 rfl) ⟨rfl, trivial⟩ rfl rfl rfl ?_
    refine HQ.op [1] [1] (OT.loadB sc45 rfl) ⟨rfl, trivial⟩ ⟨rfl, trivial⟩ rfl rfl rfl rfl (fun _ => rfl) fun _ => ?_
    refine HQ.pu (Pu.len ul45) ⟨rfl, trivial⟩ rfl rfl rfl ?_
    refine HQ.pu Pu.move ⟨rfl, trivial⟩ rfl rfl rfl ?_
    refine HQ.done ?_
    refine HQ.keep [(1, _), (2, _), (21, _), (22, _), (23, _)] ⟨rfl, rfl, rfl, rfl, rfl, trivial⟩ ?_
    refine HQ.block ?_
    obtain ⟨o80, h82, H⟩ := bnd H
    refine HQ.loop h82 0 (fun (s : Int) (g : Unit) => match s, g with | i29, () => [(1, BP b1 0), (2, .bool false), (21, .slice a_0 (List.length p0.L) c_0), (22, .int .i64 ((List.length p0.L : Nat) : Int)), (23, .int .i64 i29)]) (fun (s : Int) (g : Unit) => match s, g with | i29, () => [(1, Box b1 [.bool p0.Leaf, .slice a_0 (List.length p0.L) c_0])]) (fun r => bodyPost Try.prog Try.f38 (Rt w Nil (fun _ : Unit => .bool r) (fun _ => [])) .ret) () ⟨rfl, rfl, rfl, rfl, rfl, trivial⟩ ⟨rfl, trivial⟩ rfl ?_ ?_ ?_
    · clear H h82
      rintro i29 _ o H
      rw [impl_NodeOk_b0] at H
      refine HQ.keep [(1, _), (2, _), (21, _), (22, _), (23, _)] ⟨rfl, rfl, rfl, rfl, rfl, trivial⟩ ?_
      refine HQ.keepR [(1, _)] ⟨rfl, trivial⟩ rfl ?_
      refine HQ.rseq ?_
      refine HQ.pu Pu.lss ⟨rfl, rfl, trivial⟩ rfl rfl rfl ?_
      refine HQ.done ?_
      refine HQ.keep [(1, _), (2, _), (21, _), (22, _), (23, _), (24, _)] ⟨rfl, rfl, rfl, rfl, rfl, rfl, trivial⟩ ?_
      refine HQ.seq ?_
      rcases brk H with ⟨hc, H⟩ | ⟨hc, H⟩
      · refine HQ.condT rfl hc ?_
        clear hc
        refine HQ.skipThen ?_
        refine HQ.seq ?_
        refine HQ.block ?_
        refine HQ.rseq ?_
        refine HQ.pu Pu.move ⟨rfl, trivial⟩ rfl rfl rfl ?_
        obtain ⟨h55, H⟩ := asr H
        refine HQ.op [] [] (OT.indexB ul45 sz134 hb_0 h55) ⟨rfl, rfl, trivial⟩ trivial rfl rfl rfl rfl (fun _ => rfl) fun _ => ?_
        refine HQ.op [] [] (OT.loadFA (vs := [.int .i64 ((gt p0.L i29).N), .int .i64 ((gt p0.L i29).R.X0), .int .i64 ((gt p0.L i29).R.Y0), .int .i64 ((gt p0.L i29).R.X1), .int .i64 ((gt p0.L i29).R.Y1)]) ag134 sz134 hb_0 h55 rfl rfl) ⟨rfl, trivial⟩ trivial rfl rfl rfl rfl (fun _ => rfl) fun _ => ?_
        refine HQ.op [] [4] (OT.alloc zc134) trivial trivial rfl rfl rfl rfl (fun _ => rfl) fun b56 => ?_
        refine HQ.pu Pu.assign ⟨rfl, trivial⟩ rfl rfl rfl ?_
        refine HQ.opN [4] [4] [] (OT.storeC (cs' := [.int .i64 ((gt p0.L i29).N), .int .i64 ((gt p0.L i29).R.X0), .int .i64 ((gt p0.L i29).R.Y0), .int .i64 ((gt p0.L i29).R.X1), .int .i64 ((gt p0.L i29).R.Y1)]) sz134 rfl rfl rfl rfl rfl) ⟨rfl, rfl, trivial⟩ ⟨rfl, trivial⟩ rfl rfl rfl (fun _ => rfl) fun _ => ?_
        refine HQ.done ?_
        refine HQ.keep [(1, _), (2, _), (21, _), (22, _), (23, _), (4, _), (3, _)] ⟨rfl, rfl, rfl, rfl, rfl, rfl, rfl, trivial⟩ ?_
        refine HQ.rseq ?_
        refine HQ.pu (Pu.fieldB fo47_0 rfl) ⟨rfl, trivial⟩ rfl rfl rfl ?_
        refine HQ.op [1] [1] (OT.loadB sc4 rfl) ⟨rfl, trivial⟩ ⟨rfl, trivial⟩ rfl rfl rfl rfl (fun _ => rfl) fun _ => ?_
        refine HQ.pu Pu.move ⟨rfl, trivial⟩ rfl rfl rfl ?_
        obtain ⟨c60, h61, H⟩ := bnd H
        refine HQ.cutAt 5 [(35, .bool c60), (1, BP b1 0), (2, .bool false), (21, .slice a_0 (List.length p0.L) c_0), (22, .int .i64 ((List.length p0.L : Nat) : Int)), (23, .int .i64 i29), (4, BP b56 0), (3, .int .i64 i29)] [(1, Box b1 [.bool p0.Leaf, .slice a_0 (List.length p0.L) c_0]), (4, Box b56 [.int .i64 ((gt p0.L i29).N), .int .i64 ((gt p0.L i29).R.X0), .int .i64 ((gt p0.L i29).R.Y0), .int .i64 ((gt p0.L i29).R.X1), .int .i64 ((gt p0.L i29).R.Y1)])] ?_ ?_
        · clear H
          have H := h61
          rcases brk H with ⟨hg57, H⟩ | ⟨hg57, H⟩
          · refine HQ.on rfl rfl hg57 ?_
            refine HQ.pu (Pu.fieldB fo134_0 rfl) ⟨rfl, trivial⟩ rfl rfl rfl ?_
            refine HQ.on rfl rfl hg57 ?_
            refine HQ.op [4] [4] (OT.loadB sc3 rfl) ⟨rfl, trivial⟩ ⟨rfl, trivial⟩ rfl rfl rfl rfl (fun _ => rfl) fun _ => ?_
            refine HQ.on rfl rfl hg57 ?_
            obtain ⟨t58, h59, H⟩ := bnd H
            refine HQ.op [] [] (OT.call (us := [_, _, _]) (Pre := []) [.tmp 32, .const (.int .i64 1), .const (.int .i64 999)] Try.call83 rfl rfl fun w F hs hF hp => impl_in_c h59) ⟨rfl, rfl, rfl, rfl, trivial⟩ trivial rfl rfl rfl rfl (fun _ => rfl) fun _ => ?_
            refine HQ.on rfl rfl hg57 ?_
            refine HQ.pu Pu.not ⟨rfl, trivial⟩ rfl rfl rfl ?_
            obtain rfl := Option.some.inj H
            refine HQ.pu (Pu.pickC1 hg57) ⟨rfl, rfl, trivial⟩ rfl rfl rfl ?_
            exact HQ.mid ⟨rfl, rfl, rfl, rfl, rfl, rfl, rfl, rfl, trivial⟩ ⟨rfl, rfl, trivial⟩ rfl
          · obtain rfl := Option.some.inj H
            refine HQ.off rfl rfl hg57 rfl ?_
            refine HQ.off rfl rfl hg57 rfl ?_
            refine HQ.off rfl rfl hg57 rfl ?_
            refine HQ.off rfl rfl hg57 rfl ?_
            refine HQ.pu (Pu.pickC0 hg57) ⟨rfl, rfl, trivial⟩ rfl rfl rfl ?_
            exact HQ.mid ⟨rfl, rfl, rfl, rfl, rfl, rfl, rfl, rfl, trivial⟩ ⟨rfl, rfl, trivial⟩ rfl
        refine HQ.pu Pu.move ⟨rfl, trivial⟩ rfl rfl rfl ?_
        obtain ⟨c68, h69, H⟩ := bnd H
        refine HQ.cutAt 10 [(46, .bool c68), (1, BP b1 0), (2, .bool false), (21, .slice a_0 (List.length p0.L) c_0), (22, .int .i64 ((List.length p0.L : Nat) : Int)), (23, .int .i64 i29), (4, BP b56 0), (3, .int .i64 i29)] [(1, Box b1 [.bool p0.Leaf, .slice a_0 (List.length p0.L) c_0]), (4, Box b56 [.int .i64 ((gt p0.L i29).N), .int .i64 ((gt p0.L i29).R.X0), .int .i64 ((gt p0.L i29).R.Y0), .int .i64 ((gt p0.L i29).R.X1), .int .i64 ((gt p0.L i29).R.Y1)])] ?_ ?_
        · clear H
          have H := h69
          rcases brk H with ⟨hg62, H⟩ | ⟨hg62, H⟩
          · obtain rfl := Option.some.inj H
            refine HQ.off rfl rfl hg62 rfl ?_
            refine HQ.off rfl rfl hg62 rfl ?_
            refine HQ.off rfl rfl hg62 rfl ?_
            refine HQ.off rfl rfl hg62 rfl ?_
            refine HQ.offU rfl rfl rfl ?_
            refine HQ.offU rfl rfl rfl ?_
            refine HQ.offU rfl rfl rfl ?_
            refine HQ.offU rfl rfl rfl ?_
            refine HQ.off rfl rfl hg62 rfl ?_
            refine HQ.pu (Pu.pickC1 hg62) ⟨rfl, rfl, trivial⟩ rfl rfl rfl ?_
            exact HQ.mid ⟨rfl, rfl, rfl, rfl, rfl, rfl, rfl, rfl, trivial⟩ ⟨rfl, rfl, trivial⟩ rfl
          · refine HQ.on rfl rfl hg62 ?_
            refine HQ.pu (Pu.fieldB fo47_0 rfl) ⟨rfl, trivial⟩ rfl rfl rfl ?_
            refine HQ.on rfl rfl hg62 ?_
            refine HQ.op [1] [1] (OT.loadB sc4 rfl) ⟨rfl, trivial⟩ ⟨rfl, trivial⟩ rfl rfl rfl rfl (fun _ => rfl) fun _ => ?_
            refine HQ.on rfl rfl hg62 ?_
            refine HQ.pu Pu.not ⟨rfl, trivial⟩ rfl rfl rfl ?_
            refine HQ.on rfl rfl hg62 ?_
            refine HQ.pu Pu.move ⟨rfl, trivial⟩ rfl rfl rfl ?_
            obtain ⟨c66, h67, H⟩ := bnd H
            refine HQ.cutAt 5 [(45, .bool c66), (1, BP b1 0), (2, .bool false), (21, .slice a_0 (List.length p0.L) c_0), (22, .int .i64 ((List.length p0.L : Nat) : Int)), (23, .int .i64 i29), (4, BP b56 0), (3, .int .i64 i29), (36, .bool c60), (37, BP b1 0), (38, .bool p0.Leaf), (39, .bool (!p0.Leaf)), (40, .bool (!p0.Leaf))] [(1, Box b1 [.bool p0.Leaf, .slice a_0 (List.length p0.L) c_0]), (4, Box b56 [.int .i64 ((gt p0.L i29).N), .int .i64 ((gt p0.L i29).R.X0), .int .i64 ((gt p0.L i29).R.Y0), .int .i64 ((gt p0.L i29).R.X1), .int .i64 ((gt p0.L i29).R.Y1)])] ?_ ?_
            · clear H
              have H := h67
              rcases brk H with ⟨hg63, H⟩ | ⟨hg63, H⟩
              · refine HQ.on rfl rfl hg63 ?_
                refine HQ.pu (Pu.fieldB fo134_0 rfl) ⟨rfl, trivial⟩ rfl rfl rfl ?_
                refine HQ.on rfl rfl hg63 ?_
                refine HQ.op [4] [4] (OT.loadB sc3 rfl) ⟨rfl, trivial⟩ ⟨rfl, trivial⟩ rfl rfl rfl rfl (fun _ => rfl) fun _ => ?_
                refine HQ.on rfl rfl hg63 ?_
                obtain ⟨t64, h65, H⟩ := bnd H
                refine HQ.op [] [] (OT.call (us := [_, _, _]) (Pre := []) [.tmp 42, .const (.int .i64 0), .const (.int .i64 47)] Try.call83 rfl rfl fun w F hs hF hp => impl_in_c h65) ⟨rfl, rfl, rfl, rfl, trivial⟩ trivial rfl rfl rfl rfl (fun _ => rfl) fun _ => ?_
                refine HQ.on rfl rfl hg63 ?_
                refine HQ.pu Pu.not ⟨rfl, trivial⟩ rfl rfl rfl ?_
                obtain rfl := Option.some.inj H
                refine HQ.on rfl rfl hg62 ?_
                refine HQ.pu (Pu.pickC1 hg63) ⟨rfl, rfl, trivial⟩ rfl rfl rfl ?_
                exact HQ.mid ⟨rfl, rfl, rfl, rfl, rfl, rfl, rfl, rfl, rfl, rfl, rfl, rfl, rfl, trivial⟩ ⟨rfl, rfl, trivial⟩ rfl
              · obtain rfl := Option.some.inj H
                refine HQ.off rfl rfl hg63 rfl ?_
                refine HQ.off rfl rfl hg63 rfl ?_
                refine HQ.off rfl rfl hg63 rfl ?_
                refine HQ.off rfl rfl hg63 rfl ?_
                refine HQ.on rfl rfl hg62 ?_
                refine HQ.pu (Pu.pickC0 hg63) ⟨rfl, rfl, trivial⟩ rfl rfl rfl ?_
                exact HQ.mid ⟨rfl, rfl, rfl, rfl, rfl, rfl, rfl, rfl, rfl, rfl, rfl, rfl, rfl, trivial⟩ ⟨rfl, rfl, trivial⟩ rfl
            obtain rfl := Option.some.inj H
            refine HQ.pu (Pu.pickC0 hg62) ⟨rfl, rfl, trivial⟩ rfl rfl rfl ?_
            exact HQ.mid ⟨rfl, rfl, rfl, rfl, rfl, rfl, rfl, rfl, trivial⟩ ⟨rfl, rfl, trivial⟩ rfl
        refine HQ.pu Pu.move ⟨rfl, trivial⟩ rfl rfl rfl ?_
        obtain ⟨c73, h74, H⟩ := bnd H
        refine HQ.cutAt 5 [(52, .bool c73), (1, BP b1 0), (2, .bool false), (21, .slice a_0 (List.length p0.L) c_0), (22, .int .i64 ((List.length p0.L : Nat) : Int)), (23, .int .i64 i29), (4, BP b56 0), (3, .int .i64 i29)] [(1, Box b1 [.bool p0.Leaf, .slice a_0 (List.length p0.L) c_0]), (4, Box b56 [.int .i64 ((gt p0.L i29).N), .int .i64 ((gt p0.L i29).R.X0), .int .i64 ((gt p0.L i29).R.Y0), .int .i64 ((gt p0.L i29).R.X1), .int .i64 ((gt p0.L i29).R.Y1)])] ?_ ?_
        · clear H
          have H := h74
          rcases brk H with ⟨hg70, H⟩ | ⟨hg70, H⟩
          · obtain rfl := Option.some.inj H
            refine HQ.off rfl rfl hg70 rfl ?_
            refine HQ.off rfl rfl hg70 rfl ?_
            refine HQ.off rfl rfl hg70 rfl ?_
            refine HQ.off rfl rfl hg70 rfl ?_
            refine HQ.pu (Pu.pickC1 hg70) ⟨rfl, rfl, trivial⟩ rfl rfl rfl ?_
            exact HQ.mid ⟨rfl, rfl, rfl, rfl, rfl, rfl, rfl, rfl, trivial⟩ ⟨rfl, rfl, trivial⟩ rfl
          · refine HQ.on rfl rfl hg70 ?_
            refine HQ.pu (Pu.fieldB fo134_1 rfl) ⟨rfl, trivial⟩ rfl rfl rfl ?_
            refine HQ.on rfl rfl hg70 ?_
            refine HQ.op [4] [4] (OT.loadBA (vs := [.int .i64 ((gt p0.L i29).R.X0), .int .i64 ((gt p0.L i29).R.Y0), .int .i64 ((gt p0.L i29).R.X1), .int .i64 ((gt p0.L i29).R.Y1)]) ag132 sz132 rfl rfl) ⟨rfl, trivial⟩ ⟨rfl, trivial⟩ rfl rfl rfl rfl (fun _ => rfl) fun _ => ?_
            refine HQ.on rfl rfl hg70 ?_
            obtain ⟨t71, h72, H⟩ := bnd H
            refine HQ.op [] [] (OT.call (us := [_]) (Pre := []) [.tmp 49] Try.call109 rfl rfl fun w F hs hF hp => impl_BoxOk_c h72) ⟨rfl, rfl, trivial⟩ trivial rfl rfl rfl rfl (fun _ => rfl) fun _ => ?_
            refine HQ.on rfl rfl hg70 ?_
            refine HQ.pu Pu.not ⟨rfl, trivial⟩ rfl rfl rfl ?_
            obtain rfl := Option.some.inj H
            refine HQ.pu (Pu.pickC0 hg70) ⟨rfl, rfl, trivial⟩ rfl rfl rfl ?_
            exact HQ.mid ⟨rfl, rfl, rfl, rfl, rfl, rfl, rfl, rfl, trivial⟩ ⟨rfl, rfl, trivial⟩ rfl
        refine HQ.pu Pu.move ⟨rfl, trivial⟩ rfl rfl rfl ?_
        obtain ⟨c78, h79, H⟩ := bnd H
        refine HQ.cutAt 8 [(61, .bool c78), (1, BP b1 0), (2, .bool false), (21, .slice a_0 (List.length p0.L) c_0), (22, .int .i64 ((List.length p0.L : Nat) : Int)), (23, .int .i64 i29)] [(1, Box b1 [.bool p0.Leaf, .slice a_0 (List.length p0.L) c_0]), (4, Box b56 [.int .i64 ((gt p0.L i29).N), .int .i64 ((gt p0.L i29).R.X0), .int .i64 ((gt p0.L i29).R.Y0), .int .i64 ((gt p0.L i29).R.X1), .int .i64 ((gt p0.L i29).R.Y1)])] ?_ ?_
        · clear H
          have H := h79
          rcases brk H with ⟨hg75, H⟩ | ⟨hg75, H⟩
          · obtain rfl := Option.some.inj H
            refine HQ.off rfl rfl hg75 rfl ?_
            refine HQ.off rfl rfl hg75 rfl ?_
            refine HQ.off rfl rfl hg75 rfl ?_
            refine HQ.off rfl rfl hg75 rfl ?_
            refine HQ.off rfl rfl hg75 rfl ?_
            refine HQ.off rfl rfl hg75 rfl ?_
            refine HQ.off rfl rfl hg75 rfl ?_
            refine HQ.pu (Pu.pickC1 hg75) ⟨rfl, rfl, trivial⟩ rfl rfl rfl ?_
            exact HQ.mid ⟨rfl, rfl, rfl, rfl, rfl, rfl, trivial⟩ ⟨rfl, rfl, trivial⟩ rfl
          · refine HQ.on rfl rfl hg75 ?_
            refine HQ.pu (Pu.fieldB fo47_1 rfl) ⟨rfl, trivial⟩ rfl rfl rfl ?_
            refine HQ.on rfl rfl hg75 ?_
            refine HQ.op [1] [1] (OT.loadB sc45 rfl) ⟨rfl, trivial⟩ ⟨rfl, trivial⟩ rfl rfl rfl rfl (fun _ => rfl) fun _ => ?_
            refine HQ.on rfl rfl hg75 ?_
            refine HQ.pu (Pu.fieldB fo134_0 rfl) ⟨rfl, trivial⟩ rfl rfl rfl ?_
            refine HQ.on rfl rfl hg75 ?_
            refine HQ.op [4] [4] (OT.loadB sc3 rfl) ⟨rfl, trivial⟩ ⟨rfl, trivial⟩ rfl rfl rfl rfl (fun _ => rfl) fun _ => ?_
            refine HQ.on rfl rfl hg75 ?_
            obtain ⟨t76, h77, H⟩ := bnd H
            refine HQ.op [] [] (OT.call (us := [_, _]) (Pre := []) [.tmp 55, .tmp 57] Try.call110 rfl rfl fun w F hs hF hp => impl_EntryAt_c (hb_0.pass hp) h77) ⟨rfl, rfl, rfl, trivial⟩ trivial rfl rfl rfl rfl (fun _ => rfl) fun _ => ?_
            refine HQ.on rfl rfl hg75 ?_
            refine HQ.pu Pu.move ⟨rfl, trivial⟩ rfl rfl rfl ?_
            refine HQ.on rfl rfl hg75 ?_
            refine HQ.pu Pu.neq ⟨rfl, rfl, trivial⟩ rfl rfl rfl ?_
            obtain rfl := Option.some.inj H
            refine HQ.pu (Pu.pickC0 hg75) ⟨rfl, rfl, trivial⟩ rfl rfl rfl ?_
            exact HQ.mid ⟨rfl, rfl, rfl, rfl, rfl, rfl, trivial⟩ ⟨rfl, rfl, trivial⟩ rfl
        refine HQ.done ?_
        refine HQ.keep [(61, _), (1, _), (2, _), (21, _), (22, _), (23, _)] ⟨rfl, rfl, rfl, rfl, rfl, rfl, trivial⟩ ?_
        rcases brk H with ⟨hc, H⟩ | ⟨hc, H⟩
        · refine HQ.condT rfl hc ?_
          clear hc
          refine HQ.rseq ?_
          refine HQ.pu Pu.assign ⟨rfl, trivial⟩ rfl rfl rfl ?_
          refine HQ.done ?_
          refine HQ.keep [(1, _), (2, _), (21, _), (22, _), (23, _)] ⟨rfl, rfl, rfl, rfl, rfl, trivial⟩ ?_
          refine HQ.ret ?_
          refine HQ.blkR ?_
          refine HQ.thenR ?_
          obtain rfl := Option.some.inj H
          refine HQ.retL ?_
          exact HQ.fin (vs := [_]) Try.results38 () ⟨rfl, trivial⟩ rfl [] trivial rfl
        · refine HQ.condF rfl hc ?_
          clear hc
          refine HQ.skip ?_
          refine HQ.blkN ?_
          refine HQ.thenN ?_
          refine HQ.regionQ ?_
          refine HQ.pu Pu.add ⟨rfl, rfl, trivial⟩ rfl rfl rfl ?_
          refine HQ.pu Pu.move ⟨rfl, trivial⟩ rfl rfl rfl ?_
          refine HQ.done ?_
          refine HQ.keep [(1, _), (2, _), (21, _), (22, _), (23, _)] ⟨rfl, rfl, rfl, rfl, rfl, trivial⟩ ?_
          obtain rfl := Option.some.inj H
          exact HQ.next () ⟨rfl, rfl, rfl, rfl, rfl, trivial⟩ ⟨rfl, trivial⟩ rfl
      · refine HQ.condF rfl hc ?_
        clear hc
        refine HQ.exit ?_
        refine HQ.thenE ?_
        obtain rfl := Option.some.inj H
        exact HQ.out () ⟨rfl, rfl, rfl, rfl, rfl, trivial⟩ ⟨rfl, trivial⟩ rfl
    · rintro i81 rfl _
      clear h82
      replace H := H
      refine HQ.keep [(1, _), (2, _), (21, _), (22, _), (23, _)] ⟨rfl, rfl, rfl, rfl, rfl, trivial⟩ ?_
      refine HQ.keepR [(1, _)] ⟨rfl, trivial⟩ rfl ?_
      refine HQ.blkE ?_
      refine HQ.thenN ?_
      refine HQ.rseq ?_
      refine HQ.pu Pu.assign ⟨rfl, trivial⟩ rfl rfl rfl ?_
      refine HQ.done ?_
      refine HQ.keep [(2, _)] ⟨rfl, trivial⟩ ?_
      refine HQ.ret ?_
      obtain rfl := Option.some.inj H
      exact HQ.fin (vs := [_]) Try.results38 () ⟨rfl, trivial⟩ rfl [] trivial rfl
    · rintro r rfl a w hr
      obtain rfl := Option.some.inj H
      exact hr

/-! slices.Clone(()byte,byte) -/
theorem slices_Clone_byte_byte_c {w : World} {p0 : (List Int)} {a_0 : Option Addr} {c_0 : Nat} (hb_0 : BorS kU8 a_0 c_0 p0 w.heap (Lt w Nil)) {r : (List Int)} (H : slices_Clone_byte_byte p0 = some r) :
    Calls Try.prog 88 #[.slice a_0 (List.length p0) c_0] w (Rt w Nil (fun g : Option Addr × Nat => .slice g.1 (List.length r) g.2) (fun g => [OwnS kU8 g.1 g.2 r])) := by
  rw [slices_Clone_byte_byte] at H
  obtain ⟨h5, H⟩ := asr H
  obtain rfl := Option.some.inj H
  refine Calls.enter0 (N := 8) (us := [_]) Try.func88 rfl rfl rfl ?_
  refine HQ.rseq ?_
  refine HQ.pu Pu.assign ⟨rfl, trivial⟩ rfl rfl rfl ?_
  refine HQ.done ?_
  refine HQ.seq ?_
  refine HQ.rseq ?_
  refine HQ.pu Pu.move ⟨rfl, trivial⟩ rfl rfl rfl ?_
  refine HQ.pu (Pu.eqlNil ul22) ⟨rfl, rfl, trivial⟩ rfl rfl rfl ?_
  refine HQ.done ?_
  cases a_0 with
  | none =>
    refine HQ.condT rfl rfl ?_
    have hp : p0 = [] := by
      rcases hb_0.2 with h | ⟨b, off, cs, ty, fz, h, _⟩
      · exact h
      · cases h
    subst hp
    refine HQ.rseq ?_
    refine HQ.pu Pu.assign ⟨rfl, trivial⟩ rfl rfl rfl ?_
    refine HQ.done ?_
    refine HQ.ret ?_
    refine HQ.thenR ?_
    refine HQ.nil kU8 1 rfl ?_
    exact HQ.fin (vs := [_]) Try.results88 (none, 0) ⟨rfl, trivial⟩ rfl [1] ⟨rfl, trivial⟩ rfl
  | some a =>
    refine HQ.condF rfl rfl ?_
    refine HQ.skipThen ?_
    refine HQ.rseq ?_
    refine HQ.op [] [1] (OT.buildF (us := []) (ys := ([] : (List Int))) (enc := (encI .u8)) (hl := fun _ => ⟨rfl, rfl⟩) [] sl22.ul sl22.szE sl22.zc rfl rfl rfl rfl rfl) trivial trivial rfl rfl rfl rfl (fun _ => rfl) fun ⟨a1, c2⟩ => ?_
    refine HQ.pu Pu.move ⟨rfl, trivial⟩ rfl rfl rfl ?_
    refine HQ.op [1] [1] (OT.appendF (enc := (encI .u8)) (hl := fun _ => ⟨rfl, rfl⟩) sl22 ul22 hb_0 (by simpa using h5)) ⟨rfl, rfl, trivial⟩ ⟨rfl, trivial⟩ rfl rfl rfl rfl (fun _ => rfl) fun ⟨a3, c4⟩ => ?_
    refine HQ.pu Pu.assign ⟨rfl, trivial⟩ rfl rfl rfl ?_
    refine HQ.done ?_
    refine HQ.ret ?_
    exact HQ.fin (vs := [_]) Try.results88 (a3, c4) ⟨rfl, trivial⟩ rfl [1] ⟨rfl, trivial⟩ rfl

/-! impl.Put2 -/
theorem impl_Put2_c {w : World} {p0 : (List Int)} {p1 : Int} {a_0 : Option Addr} {c_0 : Nat} (hb_0 : BorS kU8 a_0 c_0 p0 w.heap (Lt w Nil)) {r : (List Int)} (H : impl_Put2 p0 p1 = some r) :
    Calls Try.prog 97 #[.slice a_0 (List.length p0) c_0, .int .i64 p1] w (Rt w Nil (fun g : Option Addr × Nat => .slice g.1 (List.length r) g.2) (fun g => [OwnS kU8 g.1 g.2 r])) := by
  rw [impl_Put2] at H
  refine Calls.enter0 (N := 20) (us := [_, _]) Try.func97 rfl rfl rfl ?_
  refine HQ.rseq ?_
  refine HQ.pu Pu.assign ⟨rfl, trivial⟩ rfl rfl rfl ?_
  refine HQ.done ?_
  refine HQ.keep [(0, _), (1, _), (4, _)] ⟨rfl, rfl, rfl, trivial⟩ ?_
  refine HQ.rseq ?_
  refine HQ.pu Pu.move ⟨rfl, trivial⟩ rfl rfl rfl ?_
  obtain ⟨t1, h2, H⟩ := bnd H
  refine HQ.op [] [1] (OT.call (us := [_]) (Pre := []) [.tmp 6] Try.call88 rfl rfl fun w F hs hF hp => slices_Clone_byte_byte_c (hb_0.pass hp) h2) ⟨rfl, rfl, trivial⟩ trivial rfl rfl rfl rfl (fun _ => rfl) fun ⟨a3, c4⟩ => ?_
  refine HQ.pu Pu.assign ⟨rfl, trivial⟩ rfl rfl rfl ?_
  refine HQ.done ?_
  refine HQ.keep [(1, _), (4, _), (5, _)] ⟨rfl, rfl, rfl, trivial⟩ ?_
  refine HQ.seq ?_
  refine HQ.rseq ?_
  refine HQ.pu Pu.move ⟨rfl, trivial⟩ rfl rfl rfl ?_
  obtain ⟨t5, h6, H⟩ := bnd H
  refine HQ.op [] [] (OT.call (us := [_, _, _]) (Pre := []) [.tmp 8, .const (.int .i64 0), .const (.int .i64 65535)] Try.call83 rfl rfl fun w F hs hF hp => impl_in_c h6) ⟨rfl, rfl, rfl, rfl, trivial⟩ trivial rfl rfl rfl rfl (fun _ => rfl) fun _ => ?_
  refine HQ.pu Pu.not ⟨rfl, trivial⟩ rfl rfl rfl ?_
  refine HQ.done ?_
  refine HQ.keep [(1, _), (4, _), (5, _), (10, _)] ⟨rfl, rfl, rfl, rfl, trivial⟩ ?_
  rcases brk H with ⟨hc, H⟩ | ⟨hc, H⟩
  · refine HQ.condT rfl hc ?_
    clear hc
    refine HQ.rseq ?_
    refine HQ.pu Pu.move ⟨rfl, trivial⟩ rfl rfl rfl ?_
    refine HQ.pu Pu.assign ⟨rfl, trivial⟩ rfl rfl rfl ?_
    refine HQ.done ?_
    refine HQ.keep [(1, _), (4, _), (5, _)] ⟨rfl, rfl, rfl, trivial⟩ ?_
    refine HQ.ret ?_
    refine HQ.thenR ?_
    obtain rfl := Option.some.inj H
    exact HQ.fin (vs := [_]) Try.results97 (a3, c4) ⟨rfl, trivial⟩ rfl [1] ⟨rfl, trivial⟩ rfl
  · refine HQ.condF rfl hc ?_
    clear hc
    refine HQ.skipThen ?_
    refine HQ.rseq ?_
    refine HQ.pu Pu.move ⟨rfl, trivial⟩ rfl rfl rfl ?_
    refine HQ.pu Pu.move ⟨rfl, trivial⟩ rfl rfl rfl ?_
    refine HQ.pu (Pu.shr (by decide)) ⟨rfl, rfl, trivial⟩ rfl rfl rfl ?_
    refine HQ.pu (Pu.conv ul3 ul5) ⟨rfl, trivial⟩ rfl rfl rfl ?_
    refine HQ.pu Pu.move ⟨rfl, trivial⟩ rfl rfl rfl ?_
    refine HQ.pu (Pu.conv ul3 ul5) ⟨rfl, trivial⟩ rfl rfl rfl ?_
    refine HQ.op [] [2] (OT.buildF (us := [.int .u8 (IntKind.u8.wrap (Int.fdiv p1 (2 ^ (min (Int.toNat 8) 64)))), .int .u8 (IntKind.u8.wrap p1)]) (ys := ([(IntKind.u8.wrap (Int.fdiv p1 (2 ^ (min (Int.toNat 8) 64)))), (IntKind.u8.wrap p1)] : (List Int))) (enc := (encI .u8)) (hl := fun _ => ⟨rfl, rfl⟩) [.tmp 15, .tmp 17] sl22.ul sl22.szE sl22.zc rfl rfl rfl rfl rfl) ⟨rfl, rfl, trivial⟩ trivial rfl rfl rfl rfl (fun _ => rfl) fun ⟨a7, c8⟩ => ?_
    obtain ⟨h11, H⟩ := asr H
    refine HQ.op [1, 2] [1, 2] (OT.appendG (enc := (encI .u8)) (hl := fun _ => ⟨rfl, rfl⟩) sl22 ul22 h11) ⟨rfl, rfl, trivial⟩ ⟨rfl, rfl, trivial⟩ rfl rfl rfl rfl (fun _ => rfl) fun ⟨a9, c10⟩ => ?_
    refine HQ.pu Pu.assign ⟨rfl, trivial⟩ rfl rfl rfl ?_
    refine HQ.done ?_
    refine HQ.keep [(4, _)] ⟨rfl, trivial⟩ ?_
    refine HQ.ret ?_
    obtain rfl := Option.some.inj H
    exact HQ.fin (vs := [_]) Try.results97 (a9, c10) ⟨rfl, trivial⟩ rfl [1] ⟨rfl, trivial⟩ rfl

/-! impl.PutEntry -/
theorem impl_PutEntry_c {w : World} {p0 : TEntry}   {r : (List Int)} (H : impl_PutEntry p0 = some r) :
    Calls Try.prog 126 #[.agg #[.int .i64 p0.N, .int .i64 p0.R.X0, .int .i64 p0.R.Y0, .int .i64 p0.R.X1, .int .i64 p0.R.Y1]] w (Rt w Nil (fun g : Option Addr × Nat => .slice g.1 (List.length r) g.2) (fun g => [OwnS kU8 g.1 g.2 r])) := by
  rw [impl_PutEntry] at H
  refine Calls.enter0 (N := 34) (us := [_]) Try.func126 rfl rfl rfl ?_
  refine HQ.rseq ?_
  refine HQ.op [] [1] (OT.box (cs := [.int .i64 p0.N, .int .i64 p0.R.X0, .int .i64 p0.R.Y0, .int .i64 p0.R.X1, .int .i64 p0.R.Y1]) rfl) ⟨rfl, trivial⟩ trivial rfl rfl rfl rfl (fun _ => rfl) fun b1 => ?_
  refine HQ.pu Pu.assign ⟨rfl, trivial⟩ rfl rfl rfl ?_
  refine HQ.done ?_
  refine HQ.keep [(1, _), (2, _)] ⟨rfl, rfl, trivial⟩ ?_
  refine HQ.seq ?_
  refine HQ.rseq ?_
  refine HQ.pu (Pu.fieldB fo134_0 rfl) ⟨rfl, trivial⟩ rfl rfl rfl ?_
  refine HQ.op [1] [1] (OT.loadB sc3 rfl) ⟨rfl, trivial⟩ ⟨rfl, trivial⟩ rfl rfl rfl rfl (fun _ => rfl) fun _ => ?_
  obtain ⟨t2, h3, H⟩ := bnd H
  refine HQ.op [] [] (OT.call (us := [_, _, _]) (Pre := []) [.tmp 4, .const (.int .i64 0), .const (.int .i64 65535)] Try.call83 rfl rfl fun w F hs hF hp => impl_in_c h3) ⟨rfl, rfl, rfl, rfl, trivial⟩ trivial rfl rfl rfl rfl (fun _ => rfl) fun _ => ?_
  refine HQ.pu Pu.not ⟨rfl, trivial⟩ rfl rfl rfl ?_
  refine HQ.pu Pu.move ⟨rfl, trivial⟩ rfl rfl rfl ?_
  obtain ⟨c7, h8, H⟩ := bnd H
  refine HQ.cutAt 5 [(12, .bool c7), (1, BP b1 0), (2, .slice none 0 0)] [(1, Box b1 [.int .i64 p0.N, .int .i64 p0.R.X0, .int .i64 p0.R.Y0, .int .i64 p0.R.X1, .int .i64 p0.R.Y1])] ?_ ?_
  · clear H
    have H := h8
    rcases brk H with ⟨hg4, H⟩ | ⟨hg4, H⟩
    · obtain rfl := Option.some.inj H
      refine HQ.off rfl rfl hg4 rfl ?_
      refine HQ.off rfl rfl hg4 rfl ?_
      refine HQ.off rfl rfl hg4 rfl ?_
      refine HQ.off rfl rfl hg4 rfl ?_
      refine HQ.pu (Pu.pickC1 hg4) ⟨rfl, rfl, trivial⟩ rfl rfl rfl ?_
      exact HQ.mid ⟨rfl, rfl, rfl, trivial⟩ ⟨rfl, trivial⟩ rfl
    · refine HQ.on rfl rfl hg4 ?_
      refine HQ.pu (Pu.fieldB fo134_1 rfl) ⟨rfl, trivial⟩ rfl rfl rfl ?_
      refine HQ.on rfl rfl hg4 ?_
      refine HQ.op [1] [1] (OT.loadBA (vs := [.int .i64 p0.R.X0, .int .i64 p0.R.Y0, .int .i64 p0.R.X1, .int .i64 p0.R.Y1]) ag132 sz132 rfl rfl) ⟨rfl, trivial⟩ ⟨rfl, trivial⟩ rfl rfl rfl rfl (fun _ => rfl) fun _ => ?_
      refine HQ.on rfl rfl hg4 ?_
      obtain ⟨t5, h6, H⟩ := bnd H
      refine HQ.op [] [] (OT.call (us := [_]) (Pre := []) [.tmp 9] Try.call109 rfl rfl fun w F hs hF hp => impl_BoxOk_c h6) ⟨rfl, rfl, trivial⟩ trivial rfl rfl rfl rfl (fun _ => rfl) fun _ => ?_
      refine HQ.on rfl rfl hg4 ?_
      refine HQ.pu Pu.not ⟨rfl, trivial⟩ rfl rfl rfl ?_
      obtain rfl := Option.some.inj H
      refine HQ.pu (Pu.pickC0 hg4) ⟨rfl, rfl, trivial⟩ rfl rfl rfl ?_
      exact HQ.mid ⟨rfl, rfl, rfl, trivial⟩ ⟨rfl, trivial⟩ rfl
  refine HQ.done ?_
  refine HQ.keep [(12, _), (1, _), (2, _)] ⟨rfl, rfl, rfl, trivial⟩ ?_
  rcases brk H with ⟨hc, H⟩ | ⟨hc, H⟩
  · refine HQ.condT rfl hc ?_
    clear hc
    refine HQ.rseq ?_
    refine HQ.pu Pu.assign ⟨rfl, trivial⟩ rfl rfl rfl ?_
    refine HQ.done ?_
    refine HQ.keep [(1, _), (2, _)] ⟨rfl, rfl, trivial⟩ ?_
    refine HQ.ret ?_
    refine HQ.thenR ?_
    obtain rfl := Option.some.inj H
    refine HQ.nil kU8 2 rfl ?_
    exact HQ.fin (vs := [_]) Try.results126 (none, 0) ⟨rfl, trivial⟩ rfl [2] ⟨rfl, trivial⟩ rfl
  · refine HQ.condF rfl hc ?_
    clear hc
    refine HQ.skipThen ?_
    obtain ⟨t10, h11, H⟩ := bnd H
    refine HQ.drawS mixd [(1, BP b1 0), (2, .slice none 0 0)] 20 [⟨[], [], []⟩, ⟨[0], [0], [0]⟩, ⟨[], [1], [1]⟩, ⟨[], [], []⟩, ⟨[], [], [3]⟩, ⟨[0], [0], [4]⟩, ⟨[], [], [5]⟩, ⟨[], [], []⟩, ⟨[], [], [7]⟩, ⟨[0], [0], [8]⟩, ⟨[], [], [9]⟩, ⟨[], [], []⟩, ⟨[], [], [11]⟩, ⟨[0], [0], [12]⟩, ⟨[], [], [13]⟩, ⟨[], [], []⟩, ⟨[], [], [15]⟩, ⟨[0], [0], [16]⟩, ⟨[], [], [17]⟩, ⟨[], [2], [6, 10, 14, 18]⟩] [⟨none, none⟩, ⟨some 2, none⟩, ⟨some 19, none⟩] (fun (g9 : (Option Addr × Nat) × (Option Addr × Nat)) => [BP b1 0, .int .i64 p0.N, .slice g9.1.1 (List.length t10) g9.1.2, BP b1 1, BP b1 1, .int .i64 p0.R.X0, .int .u8 (IntKind.u8.wrap p0.R.X0), BP b1 1, BP b1 2, .int .i64 p0.R.Y0, .int .u8 (IntKind.u8.wrap p0.R.Y0), BP b1 1, BP b1 3, .int .i64 p0.R.X1, .int .u8 (IntKind.u8.wrap p0.R.X1), BP b1 1, BP b1 4, .int .i64 p0.R.Y1, .int .u8 (IntKind.u8.wrap p0.R.Y1), .slice g9.2.1 (List.length ([(IntKind.u8.wrap p0.R.X0), (IntKind.u8.wrap p0.R.Y0), (IntKind.u8.wrap p0.R.X1), (IntKind.u8.wrap p0.R.Y1)] : (List Int))) g9.2.2]) (fun (g9 : (Option Addr × Nat) × (Option Addr × Nat)) => [Box b1 [.int .i64 p0.N, .int .i64 p0.R.X0, .int .i64 p0.R.Y0, .int .i64 p0.R.X1, .int .i64 p0.R.Y1], OwnS kU8 g9.1.1 g9.1.2 t10, OwnS kU8 g9.2.1 g9.2.2 ([(IntKind.u8.wrap p0.R.X0), (IntKind.u8.wrap p0.R.Y0), (IntKind.u8.wrap p0.R.X1), (IntKind.u8.wrap p0.R.Y1)] : (List Int))]) ((none, 0), (none, 0)) [1] [1, 3, 4] [] ⟨rfl, rfl, trivial⟩ ⟨rfl, trivial⟩ rfl (by kernel_rfl) (fun _ => rfl) (by kernel_rfl) (fun _ => rfl) ⟨?_, ?_, ?_, ?_, ?_, ?_, ?_, ?_, ?_, ?_, ?_, ?_, ?_, ?_, ?_, ?_, ?_, ?_, ?_, ?_, trivial⟩ fun g9 => ?_
    · exact OpOK.of (fun g9 => [(.tmp 1, BP b1 0)]) _ _ (fun g9 _ => g9) rfl rfl (fun _ => ⟨rfl, trivial⟩) (fun g9 => Pu.toOT (Pu.fieldB fo134_0 rfl)) (fun _ _ => ⟨rfl, rfl, ⟨rfl, rfl, rfl, trivial⟩⟩)
    · exact OpOK.of (fun g9 => [(.tmp 13, BP b1 0)]) _ _ (fun g9 _ => g9) rfl rfl (fun _ => ⟨rfl, trivial⟩) (fun g9 => OT.loadB sc3 rfl) (fun _ _ => ⟨rfl, rfl, ⟨rfl, rfl, rfl, trivial⟩⟩)
    · exact OpOK.of (fun g9 => [(.func 97, .func (.func 97) #[] #[]), (.const (.slice none 0 0), .slice none 0 0), (.tmp 14, .int .i64 p0.N)]) _ _ (fun g9 x => (x, g9.2)) rfl rfl (fun _ => ⟨rfl, rfl, rfl, trivial⟩) (fun g9 => OT.call (us := [_, _]) (Pre := []) [.const (.slice none 0 0), .tmp 14] Try.call97 rfl rfl fun w F hs hF hp => impl_Put2_c (p0 := ([] : (List Int))) (p1 := p0.N) nilB h11) (fun _ _ => ⟨rfl, rfl, ⟨rfl, rfl, rfl, trivial⟩⟩)
    · exact OpOK.of (fun g9 => [(.tmp 1, BP b1 0)]) _ _ (fun g9 _ => g9) rfl rfl (fun _ => ⟨rfl, trivial⟩) (fun g9 => Pu.toOT (Pu.fieldB fo134_1 rfl)) (fun _ _ => ⟨rfl, rfl, ⟨rfl, rfl, rfl, trivial⟩⟩)
    · exact OpOK.of (fun g9 => [(.tmp 16, BP b1 1)]) _ _ (fun g9 _ => g9) rfl rfl (fun _ => ⟨rfl, trivial⟩) (fun g9 => Pu.toOT (Pu.fieldB fo132_0 rfl)) (fun _ _ => ⟨rfl, rfl, ⟨rfl, rfl, rfl, trivial⟩⟩)
    · exact OpOK.of (fun g9 => [(.tmp 17, BP b1 1)]) _ _ (fun g9 _ => g9) rfl rfl (fun _ => ⟨rfl, trivial⟩) (fun g9 => OT.loadB sc3 rfl) (fun _ _ => ⟨rfl, rfl, ⟨rfl, rfl, rfl, trivial⟩⟩)
    · exact OpOK.of (fun g9 => [(.tmp 18, .int .i64 p0.R.X0)]) _ _ (fun g9 _ => g9) rfl rfl (fun _ => ⟨rfl, trivial⟩) (fun g9 => Pu.toOT (Pu.conv ul3 ul5)) (fun _ _ => ⟨rfl, rfl, ⟨rfl, rfl, rfl, trivial⟩⟩)
    · exact OpOK.of (fun g9 => [(.tmp 1, BP b1 0)]) _ _ (fun g9 _ => g9) rfl rfl (fun _ => ⟨rfl, trivial⟩) (fun g9 => Pu.toOT (Pu.fieldB fo134_1 rfl)) (fun _ _ => ⟨rfl, rfl, ⟨rfl, rfl, rfl, trivial⟩⟩)
    · exact OpOK.of (fun g9 => [(.tmp 20, BP b1 1)]) _ _ (fun g9 _ => g9) rfl rfl (fun _ => ⟨rfl, trivial⟩) (fun g9 => Pu.toOT (Pu.fieldB fo132_1 rfl)) (fun _ _ => ⟨rfl, rfl, ⟨rfl, rfl, rfl, trivial⟩⟩)
    · exact OpOK.of (fun g9 => [(.tmp 21, BP b1 2)]) _ _ (fun g9 _ => g9) rfl rfl (fun _ => ⟨rfl, trivial⟩) (fun g9 => OT.loadB sc3 rfl) (fun _ _ => ⟨rfl, rfl, ⟨rfl, rfl, rfl, trivial⟩⟩)
    · exact OpOK.of (fun g9 => [(.tmp 22, .int .i64 p0.R.Y0)]) _ _ (fun g9 _ => g9) rfl rfl (fun _ => ⟨rfl, trivial⟩) (fun g9 => Pu.toOT (Pu.conv ul3 ul5)) (fun _ _ => ⟨rfl, rfl, ⟨rfl, rfl, rfl, trivial⟩⟩)
    · exact OpOK.of (fun g9 => [(.tmp 1, BP b1 0)]) _ _ (fun g9 _ => g9) rfl rfl (fun _ => ⟨rfl, trivial⟩) (fun g9 => Pu.toOT (Pu.fieldB fo134_1 rfl)) (fun _ _ => ⟨rfl, rfl, ⟨rfl, rfl, rfl, trivial⟩⟩)
    · exact OpOK.of (fun g9 => [(.tmp 24, BP b1 1)]) _ _ (fun g9 _ => g9) rfl rfl (fun _ => ⟨rfl, trivial⟩) (fun g9 => Pu.toOT (Pu.fieldB fo132_2 rfl)) (fun _ _ => ⟨rfl, rfl, ⟨rfl, rfl, rfl, trivial⟩⟩)
    · exact OpOK.of (fun g9 => [(.tmp 25, BP b1 3)]) _ _ (fun g9 _ => g9) rfl rfl (fun _ => ⟨rfl, trivial⟩) (fun g9 => OT.loadB sc3 rfl) (fun _ _ => ⟨rfl, rfl, ⟨rfl, rfl, rfl, trivial⟩⟩)
    · exact OpOK.of (fun g9 => [(.tmp 26, .int .i64 p0.R.X1)]) _ _ (fun g9 _ => g9) rfl rfl (fun _ => ⟨rfl, trivial⟩) (fun g9 => Pu.toOT (Pu.conv ul3 ul5)) (fun _ _ => ⟨rfl, rfl, ⟨rfl, rfl, rfl, trivial⟩⟩)
    · exact OpOK.of (fun g9 => [(.tmp 1, BP b1 0)]) _ _ (fun g9 _ => g9) rfl rfl (fun _ => ⟨rfl, trivial⟩) (fun g9 => Pu.toOT (Pu.fieldB fo134_1 rfl)) (fun _ _ => ⟨rfl, rfl, ⟨rfl, rfl, rfl, trivial⟩⟩)
    · exact OpOK.of (fun g9 => [(.tmp 28, BP b1 1)]) _ _ (fun g9 _ => g9) rfl rfl (fun _ => ⟨rfl, trivial⟩) (fun g9 => Pu.toOT (Pu.fieldB fo132_3 rfl)) (fun _ _ => ⟨rfl, rfl, ⟨rfl, rfl, rfl, trivial⟩⟩)
    · exact OpOK.of (fun g9 => [(.tmp 29, BP b1 4)]) _ _ (fun g9 _ => g9) rfl rfl (fun _ => ⟨rfl, trivial⟩) (fun g9 => OT.loadB sc3 rfl) (fun _ _ => ⟨rfl, rfl, ⟨rfl, rfl, rfl, trivial⟩⟩)
    · exact OpOK.of (fun g9 => [(.tmp 30, .int .i64 p0.R.Y1)]) _ _ (fun g9 _ => g9) rfl rfl (fun _ => ⟨rfl, trivial⟩) (fun g9 => Pu.toOT (Pu.conv ul3 ul5)) (fun _ _ => ⟨rfl, rfl, ⟨rfl, rfl, rfl, trivial⟩⟩)
    · exact OpOK.of (fun g9 => [(.tmp 19, .int .u8 (IntKind.u8.wrap p0.R.X0)), (.tmp 23, .int .u8 (IntKind.u8.wrap p0.R.Y0)), (.tmp 27, .int .u8 (IntKind.u8.wrap p0.R.X1)), (.tmp 31, .int .u8 (IntKind.u8.wrap p0.R.Y1))]) _ _ (fun g9 x => (g9.1, x)) rfl rfl (fun _ => ⟨rfl, rfl, rfl, rfl, trivial⟩) (fun g9 => OT.buildF (us := [.int .u8 (IntKind.u8.wrap p0.R.X0), .int .u8 (IntKind.u8.wrap p0.R.Y0), .int .u8 (IntKind.u8.wrap p0.R.X1), .int .u8 (IntKind.u8.wrap p0.R.Y1)]) (ys := ([(IntKind.u8.wrap p0.R.X0), (IntKind.u8.wrap p0.R.Y0), (IntKind.u8.wrap p0.R.X1), (IntKind.u8.wrap p0.R.Y1)] : (List Int))) (enc := (encI .u8)) (hl := fun _ => ⟨rfl, rfl⟩) [.tmp 19, .tmp 23, .tmp 27, .tmp 31] sl22.ul sl22.szE sl22.zc rfl rfl rfl rfl rfl) (fun _ _ => ⟨rfl, rfl, ⟨rfl, rfl, rfl, trivial⟩⟩)
    refine HQ.keep [(2, _), (15, _), (32, _)] ⟨rfl, rfl, rfl, trivial⟩ ?_
    refine HQ.keepR [(1, _), (3, _), (4, _)] ⟨rfl, rfl, rfl, trivial⟩ rfl ?_
    obtain ⟨h18, H⟩ := asr H
    refine HQ.op [3, 4] [3, 4] (OT.appendG (enc := (encI .u8)) (hl := fun _ => ⟨rfl, rfl⟩) sl22 ul22 h18) ⟨rfl, rfl, trivial⟩ ⟨rfl, rfl, trivial⟩ rfl rfl rfl rfl (fun _ => rfl) fun ⟨a16, c17⟩ => ?_
    refine HQ.pu Pu.assign ⟨rfl, trivial⟩ rfl rfl rfl ?_
    refine HQ.done ?_
    refine HQ.keep [(2, _)] ⟨rfl, trivial⟩ ?_
    refine HQ.ret ?_
    obtain rfl := Option.some.inj H
    exact HQ.fin (vs := [_]) Try.results126 (a16, c17) ⟨rfl, trivial⟩ rfl [3] ⟨rfl, trivial⟩ rfl

/-! impl.Pad -/
theorem impl_Pad_c {w : World} {k : Nat} {p0 : (List Int)} {p1 : Int} {a_0 : Option Addr} {c_0 : Nat} (hb_0 : BorS kU8 a_0 c_0 p0 w.heap (Lt w Nil)) {r : (List Int)} (H : impl_Pad k p0 p1 = some r) :
    Calls Try.prog 24 #[.slice a_0 (List.length p0) c_0, .int .i64 p1] w (Rt w Nil (fun g : Option Addr × Nat => .slice g.1 (List.length r) g.2) (fun g => [OwnS kU8 g.1 g.2 r])) := by
  rw [impl_Pad] at H
  refine Calls.enter0 (N := 19) (us := [_, _]) Try.func24 rfl rfl rfl ?_
  refine HQ.rseq ?_
  refine HQ.pu Pu.assign ⟨rfl, trivial⟩ rfl rfl rfl ?_
  refine HQ.done ?_
  refine HQ.keep [(0, _), (1, _), (4, _)] ⟨rfl, rfl, rfl, trivial⟩ ?_
  refine HQ.rseq ?_
  refine HQ.pu Pu.move ⟨rfl, trivial⟩ rfl rfl rfl ?_
  obtain ⟨t1, h2, H⟩ := bnd H
  refine HQ.op [] [1] (OT.call (us := [_]) (Pre := []) [.tmp 6] Try.call88 rfl rfl fun w F hs hF hp => slices_Clone_byte_byte_c (hb_0.pass hp) h2) ⟨rfl, rfl, trivial⟩ trivial rfl rfl rfl rfl (fun _ => rfl) fun ⟨a3, c4⟩ => ?_
  refine HQ.pu Pu.assign ⟨rfl, trivial⟩ rfl rfl rfl ?_
  refine HQ.done ?_
  refine HQ.keep [(1, _), (4, _), (5, _)] ⟨rfl, rfl, rfl, trivial⟩ ?_
  refine HQ.seq ?_
  refine HQ.rseq ?_
  refine HQ.pu Pu.move ⟨rfl, trivial⟩ rfl rfl rfl ?_
  refine HQ.pu Pu.gtr ⟨rfl, rfl, trivial⟩ rfl rfl rfl ?_
  refine HQ.done ?_
  refine HQ.keep [(1, _), (4, _), (5, _), (9, _)] ⟨rfl, rfl, rfl, rfl, trivial⟩ ?_
  rcases brk H with ⟨hc, H⟩ | ⟨hc, H⟩
  · refine HQ.condT rfl hc ?_
    clear hc
    refine HQ.rseq ?_
    refine HQ.pu Pu.move ⟨rfl, trivial⟩ rfl rfl rfl ?_
    refine HQ.pu Pu.assign ⟨rfl, trivial⟩ rfl rfl rfl ?_
    refine HQ.done ?_
    refine HQ.keep [(1, _), (4, _), (5, _)] ⟨rfl, rfl, rfl, trivial⟩ ?_
    refine HQ.ret ?_
    refine HQ.thenR ?_
    obtain rfl := Option.some.inj H
    exact HQ.fin (vs := [_]) Try.results24 (a3, c4) ⟨rfl, trivial⟩ rfl [1] ⟨rfl, trivial⟩ rfl
  · refine HQ.condF rfl hc ?_
    clear hc
    refine HQ.skipThen ?_
    refine HQ.seq ?_
    refine HQ.block ?_
    obtain ⟨o23, h27, H⟩ := bnd H
    refine HQ.loop h27 0 (fun (s : (List Int)) (g : Option Addr × Nat) => match s, g with | l10, (a11, c12) => [(1, .int .i64 p1), (4, .slice none 0 0), (5, .slice a11 (List.length l10) c12)]) (fun (s : (List Int)) (g : Option Addr × Nat) => match s, g with | l10, (a11, c12) => [(1, OwnS kU8 a11 c12 l10)]) (fun _ _ _ => False) (a3, c4) ⟨rfl, rfl, rfl, trivial⟩ ⟨rfl, trivial⟩ rfl ?_ ?_ ?_
    · clear H h27
      rintro l10 ⟨a11, c12⟩ o H
      rw [impl_Pad_b0] at H
      refine HQ.keep [(1, _), (4, _), (5, _)] ⟨rfl, rfl, rfl, trivial⟩ ?_
      refine HQ.keepR [(1, _)] ⟨rfl, trivial⟩ rfl ?_
      refine HQ.seq ?_
      refine HQ.rseq ?_
      refine HQ.pu Pu.move ⟨rfl, trivial⟩ rfl rfl rfl ?_
      refine HQ.pu (Pu.len ul22) ⟨rfl, trivial⟩ rfl rfl rfl ?_
      refine HQ.pu Pu.move ⟨rfl, trivial⟩ rfl rfl rfl ?_
      refine HQ.pu Pu.lss ⟨rfl, rfl, trivial⟩ rfl rfl rfl ?_
      refine HQ.done ?_
      refine HQ.keep [(1, _), (4, _), (5, _), (14, _)] ⟨rfl, rfl, rfl, rfl, trivial⟩ ?_
      rcases brk H with ⟨hc, H⟩ | ⟨hc, H⟩
      · refine HQ.condT rfl hc ?_
        clear hc
        refine HQ.skipThen ?_
        refine HQ.block ?_
        refine HQ.regionQ ?_
        refine HQ.pu Pu.move ⟨rfl, trivial⟩ rfl rfl rfl ?_
        refine HQ.op [] [4] (OT.buildF (us := [.int .u8 0]) (ys := ([0] : (List Int))) (enc := (encI .u8)) (hl := fun _ => ⟨rfl, rfl⟩) [.const (.int .u8 0)] sl22.ul sl22.szE sl22.zc rfl rfl rfl rfl rfl) ⟨rfl, trivial⟩ trivial rfl rfl rfl rfl (fun _ => rfl) fun ⟨a18, c19⟩ => ?_
        obtain ⟨h22, H⟩ := asr H
        refine HQ.op [1, 4] [1, 4] (OT.appendG (enc := (encI .u8)) (hl := fun _ => ⟨rfl, rfl⟩) sl22 ul22 h22) ⟨rfl, rfl, trivial⟩ ⟨rfl, rfl, trivial⟩ rfl rfl rfl rfl (fun _ => rfl) fun ⟨a20, c21⟩ => ?_
        refine HQ.pu Pu.assign ⟨rfl, trivial⟩ rfl rfl rfl ?_
        refine HQ.done ?_
        refine HQ.keep [(1, _), (4, _), (5, _)] ⟨rfl, rfl, rfl, trivial⟩ ?_
        refine HQ.blkN ?_
        obtain rfl := Option.some.inj H
        exact HQ.next (a20, c21) ⟨rfl, rfl, rfl, trivial⟩ ⟨rfl, trivial⟩ rfl
      · refine HQ.condF rfl hc ?_
        clear hc
        refine HQ.exit ?_
        refine HQ.thenE ?_
        obtain rfl := Option.some.inj H
        exact HQ.out (a11, c12) ⟨rfl, rfl, rfl, trivial⟩ ⟨rfl, trivial⟩ rfl
    · rintro l24 rfl ⟨a25, c26⟩
      clear h27
      replace H := H
      refine HQ.keep [(1, _), (4, _), (5, _)] ⟨rfl, rfl, rfl, trivial⟩ ?_
      refine HQ.keepR [(1, _)] ⟨rfl, trivial⟩ rfl ?_
      refine HQ.blkE ?_
      refine HQ.thenN ?_
      refine HQ.rseq ?_
      refine HQ.pu Pu.move ⟨rfl, trivial⟩ rfl rfl rfl ?_
      refine HQ.pu Pu.assign ⟨rfl, trivial⟩ rfl rfl rfl ?_
      refine HQ.done ?_
      refine HQ.keep [(4, _)] ⟨rfl, trivial⟩ ?_
      refine HQ.ret ?_
      obtain rfl := Option.some.inj H
      exact HQ.fin (vs := [_]) Try.results24 (a25, c26) ⟨rfl, trivial⟩ rfl [1] ⟨rfl, trivial⟩ rfl
    · exact fun r h a w hf => hf.elim

/-! impl.PutNode -/
theorem impl_PutNode_c {w : World} {k : Nat} {p0 : TNode} {a_0 : Option Addr} {c_0 : Nat} (hb_0 : BorS kTEntry a_0 c_0 p0.L w.heap (Lt w Nil)) {r : (List Int)} (H : impl_PutNode k p0 = some r) :
    Calls Try.prog 98 #[.agg #[.bool p0.Leaf, .slice a_0 (List.length p0.L) c_0]] w (Rt w Nil (fun g : Option Addr × Nat => .slice g.1 (List.length r) g.2) (fun g => [OwnS kU8 g.1 g.2 r])) := by
  rw [impl_PutNode] at H
  refine Calls.enter0 (N := 34) (us := [_]) Try.func98 rfl rfl rfl ?_
  refine HQ.rseq ?_
  refine HQ.op [] [1] (OT.box (cs := [.bool p0.Leaf, .slice a_0 (List.length p0.L) c_0]) rfl) ⟨rfl, trivial⟩ trivial rfl rfl rfl rfl (fun _ => rfl) fun b1 => ?_
  refine HQ.pu Pu.assign ⟨rfl, trivial⟩ rfl rfl rfl ?_
  refine HQ.done ?_
  refine HQ.keep [(1, _), (2, _)] ⟨rfl, rfl, trivial⟩ ?_
  refine HQ.seq ?_
  refine HQ.rseq ?_
  refine HQ.op [1] [1] (OT.loadBA (vs := [.bool p0.Leaf, .slice a_0 (List.length p0.L) c_0]) ag47 sz47 rfl rfl) ⟨rfl, trivial⟩ ⟨rfl, trivial⟩ rfl rfl rfl rfl (fun _ => rfl) fun _ => ?_
  obtain ⟨t2, h3, H⟩ := bnd H
  refine HQ.op [] [] (OT.call (us := [_]) (Pre := []) [.tmp 7] Try.call38 rfl rfl fun w F hs hF hp => impl_NodeOk_c (hb_0.pass hp) h3) ⟨rfl, rfl, trivial⟩ trivial rfl rfl rfl rfl (fun _ => rfl) fun _ => ?_
  refine HQ.pu Pu.not ⟨rfl, trivial⟩ rfl rfl rfl ?_
  refine HQ.done ?_
  refine HQ.keep [(1, _), (2, _), (9, _)] ⟨rfl, rfl, rfl, trivial⟩ ?_
  rcases brk H with ⟨hc, H⟩ | ⟨hc, H⟩
  · refine HQ.condT rfl hc ?_
    clear hc
    refine HQ.rseq ?_
    refine HQ.pu Pu.assign ⟨rfl, trivial⟩ rfl rfl rfl ?_
    refine HQ.done ?_
    refine HQ.keep [(1, _), (2, _)] ⟨rfl, rfl, trivial⟩ ?_
    refine HQ.ret ?_
    refine HQ.thenR ?_
    obtain rfl := Option.some.inj H
    refine HQ.nil kU8 2 rfl ?_
    exact HQ.fin (vs := [_]) Try.results98 (none, 0) ⟨rfl, trivial⟩ rfl [2] ⟨rfl, trivial⟩ rfl
  · refine HQ.condF rfl hc ?_
    clear hc
    refine HQ.skipThen ?_
    refine HQ.rseq ?_
    refine HQ.pu (Pu.fieldB fo47_1 rfl) ⟨rfl, trivial⟩ rfl rfl rfl ?_
    refine HQ.op [1] [1] (OT.loadB sc45 rfl) ⟨rfl, trivial⟩ ⟨rfl, trivial⟩ rfl rfl rfl rfl (fun _ => rfl) fun _ => ?_
    refine HQ.pu (Pu.len ul45) ⟨rfl, trivial⟩ rfl rfl rfl ?_
    refine HQ.pu Pu.assign ⟨rfl, trivial⟩ rfl rfl rfl ?_
    refine HQ.done ?_
    refine HQ.keep [(1, _), (2, _), (3, _)] ⟨rfl, rfl, rfl, trivial⟩ ?_
    refine HQ.seq ?_
    refine HQ.rseq ?_
    refine HQ.pu (Pu.fieldB fo47_0 rfl) ⟨rfl, trivial⟩ rfl rfl rfl ?_
    refine HQ.op [1] [1] (OT.loadB sc4 rfl) ⟨rfl, trivial⟩ ⟨rfl, trivial⟩ rfl rfl rfl rfl (fun _ => rfl) fun _ => ?_
    refine HQ.done ?_
    refine HQ.keep [(1, _), (2, _), (3, _), (14, _)] ⟨rfl, rfl, rfl, rfl, trivial⟩ ?_
    rcases brk H with ⟨hc, H⟩ | ⟨hc, H⟩
    · refine HQ.condT rfl hc ?_
      clear hc
      refine HQ.region ?_
      refine HQ.pu Pu.move ⟨rfl, trivial⟩ rfl rfl rfl ?_
      refine HQ.pu Pu.add ⟨rfl, rfl, trivial⟩ rfl rfl rfl ?_
      refine HQ.pu Pu.assign ⟨rfl, trivial⟩ rfl rfl rfl ?_
      refine HQ.done ?_
      refine HQ.keep [(1, _), (2, _), (3, _)] ⟨rfl, rfl, rfl, trivial⟩ ?_
      refine HQ.rseq ?_
      refine HQ.pu Pu.move ⟨rfl, trivial⟩ rfl rfl rfl ?_
      refine HQ.pu (Pu.conv ul3 ul5) ⟨rfl, trivial⟩ rfl rfl rfl ?_
      refine HQ.op [] [3] (OT.buildF (us := [.int .u8 (IntKind.u8.wrap (wrap64 (((List.length p0.L : Nat) : Int) + 16)))]) (ys := ([(IntKind.u8.wrap (wrap64 (((List.length p0.L : Nat) : Int) + 16)))] : (List Int))) (enc := (encI .u8)) (hl := fun _ => ⟨rfl, rfl⟩) [.tmp 18] sl22.ul sl22.szE sl22.zc rfl rfl rfl rfl rfl) ⟨rfl, trivial⟩ trivial rfl rfl rfl rfl (fun _ => rfl) fun ⟨a4, c5⟩ => ?_
      refine HQ.pu Pu.assign ⟨rfl, trivial⟩ rfl rfl rfl ?_
      refine HQ.done ?_
      refine HQ.keep [(1, _), (2, _), (4, _)] ⟨rfl, rfl, rfl, trivial⟩ ?_
      refine HQ.seq ?_
      refine HQ.rseq ?_
      refine HQ.pu (Pu.fieldB fo47_1 rfl) ⟨rfl, trivial⟩ rfl rfl rfl ?_
      refine HQ.op [1] [1] (OT.loadB sc45 rfl) ⟨rfl, trivial⟩ ⟨rfl, trivial⟩ rfl rfl rfl rfl (fun _ => rfl) fun _ => ?_
      refine HQ.pu (Pu.len ul45) ⟨rfl, trivial⟩ rfl rfl rfl ?_
      refine HQ.pu Pu.move ⟨rfl, trivial⟩ rfl rfl rfl ?_
      refine HQ.done ?_
      refine HQ.keep [(2, _), (4, _), (21, _), (22, _), (23, _)] ⟨rfl, rfl, rfl, rfl, rfl, trivial⟩ ?_
      refine HQ.block ?_
      obtain ⟨o37, h46, H⟩ := bnd H
      refine HQ.loop h46 0 (fun (s : (List Int) × Int) (g : Option Addr × Nat) => match s, g with | (l15, i18), (a16, c17) => [(2, .slice none 0 0), (4, .slice a16 (List.length l15) c17), (21, .slice a_0 (List.length p0.L) c_0), (22, .int .i64 ((List.length p0.L : Nat) : Int)), (23, .int .i64 i18)]) (fun (s : (List Int) × Int) (g : Option Addr × Nat) => match s, g with | (l15, i18), (a16, c17) => [(3, OwnS kU8 a16 c17 l15)]) (fun _ _ _ => False) (a4, c5) ⟨rfl, rfl, rfl, rfl, rfl, trivial⟩ ⟨rfl, trivial⟩ rfl ?_ ?_ ?_
      · clear H h46
        rintro ⟨l15, i18⟩ ⟨a16, c17⟩ o H
        rw [impl_PutNode_b0] at H
        refine HQ.keep [(2, _), (4, _), (21, _), (22, _), (23, _)] ⟨rfl, rfl, rfl, rfl, rfl, trivial⟩ ?_
        refine HQ.keepR [(3, _)] ⟨rfl, trivial⟩ rfl ?_
        refine HQ.rseq ?_
        refine HQ.pu Pu.lss ⟨rfl, rfl, trivial⟩ rfl rfl rfl ?_
        refine HQ.done ?_
        refine HQ.keep [(2, _), (4, _), (21, _), (22, _), (23, _), (24, _)] ⟨rfl, rfl, rfl, rfl, rfl, rfl, trivial⟩ ?_
        refine HQ.seq ?_
        rcases brk H with ⟨hc, H⟩ | ⟨hc, H⟩
        · refine HQ.condT rfl hc ?_
          clear hc
          refine HQ.skipThen ?_
          refine HQ.seq ?_
          refine HQ.block ?_
          refine HQ.rseq ?_
          obtain ⟨h28, H⟩ := asr H
          refine HQ.op [] [] (OT.indexB ul45 sz134 hb_0 h28) ⟨rfl, rfl, trivial⟩ trivial rfl rfl rfl rfl (fun _ => rfl) fun _ => ?_
          refine HQ.op [] [] (OT.loadFA (vs := [.int .i64 ((gt p0.L i18).N), .int .i64 ((gt p0.L i18).R.X0), .int .i64 ((gt p0.L i18).R.Y0), .int .i64 ((gt p0.L i18).R.X1), .int .i64 ((gt p0.L i18).R.Y1)]) ag134 sz134 hb_0 h28 rfl rfl) ⟨rfl, trivial⟩ trivial rfl rfl rfl rfl (fun _ => rfl) fun _ => ?_
          refine HQ.op [] [8] (OT.alloc zc134) trivial trivial rfl rfl rfl rfl (fun _ => rfl) fun b29 => ?_
          refine HQ.opN [8] [8] [] (OT.storeC (cs' := [.int .i64 ((gt p0.L i18).N), .int .i64 ((gt p0.L i18).R.X0), .int .i64 ((gt p0.L i18).R.Y0), .int .i64 ((gt p0.L i18).R.X1), .int .i64 ((gt p0.L i18).R.Y1)]) sz134 rfl rfl rfl rfl rfl) ⟨rfl, rfl, trivial⟩ ⟨rfl, trivial⟩ rfl rfl rfl (fun _ => rfl) fun _ => ?_
          refine HQ.done ?_
          refine HQ.keep [(2, _), (4, _), (21, _), (22, _), (23, _), (6, _)] ⟨rfl, rfl, rfl, rfl, rfl, rfl, trivial⟩ ?_
          refine HQ.regionQ ?_
          refine HQ.pu Pu.move ⟨rfl, trivial⟩ rfl rfl rfl ?_
          refine HQ.op [8] [8] (OT.loadBA (vs := [.int .i64 ((gt p0.L i18).N), .int .i64 ((gt p0.L i18).R.X0), .int .i64 ((gt p0.L i18).R.Y0), .int .i64 ((gt p0.L i18).R.X1), .int .i64 ((gt p0.L i18).R.Y1)]) ag134 sz134 rfl rfl) ⟨rfl, trivial⟩ ⟨rfl, trivial⟩ rfl rfl rfl rfl (fun _ => rfl) fun _ => ?_
          obtain ⟨t30, h31, H⟩ := bnd H
          refine HQ.op [] [9] (OT.call (us := [_]) (Pre := []) [.tmp 28] Try.call126 rfl rfl fun w F hs hF hp => impl_PutEntry_c h31) ⟨rfl, rfl, trivial⟩ trivial rfl rfl rfl rfl (fun _ => rfl) fun ⟨a32, c33⟩ => ?_
          obtain ⟨h36, H⟩ := asr H
          refine HQ.op [3, 9] [3, 9] (OT.appendG (enc := (encI .u8)) (hl := fun _ => ⟨rfl, rfl⟩) sl22 ul22 h36) ⟨rfl, rfl, trivial⟩ ⟨rfl, rfl, trivial⟩ rfl rfl rfl rfl (fun _ => rfl) fun ⟨a34, c35⟩ => ?_
          refine HQ.pu Pu.assign ⟨rfl, trivial⟩ rfl rfl rfl ?_
          refine HQ.done ?_
          refine HQ.keep [(2, _), (4, _), (21, _), (22, _), (23, _)] ⟨rfl, rfl, rfl, rfl, rfl, trivial⟩ ?_
          refine HQ.blkN ?_
          refine HQ.thenN ?_
          refine HQ.regionQ ?_
          refine HQ.pu Pu.add ⟨rfl, rfl, trivial⟩ rfl rfl rfl ?_
          refine HQ.pu Pu.move ⟨rfl, trivial⟩ rfl rfl rfl ?_
          refine HQ.done ?_
          refine HQ.keep [(2, _), (4, _), (21, _), (22, _), (23, _)] ⟨rfl, rfl, rfl, rfl, rfl, trivial⟩ ?_
          obtain rfl := Option.some.inj H
          exact HQ.next (a34, c35) ⟨rfl, rfl, rfl, rfl, rfl, trivial⟩ ⟨rfl, trivial⟩ rfl
        · refine HQ.condF rfl hc ?_
          clear hc
          refine HQ.exit ?_
          refine HQ.thenE ?_
          obtain rfl := Option.some.inj H
          exact HQ.out (a16, c17) ⟨rfl, rfl, rfl, rfl, rfl, trivial⟩ ⟨rfl, trivial⟩ rfl
      · rintro ⟨l38, i41⟩ rfl ⟨a39, c40⟩
        clear h46
        replace H := H
        refine HQ.keep [(2, _), (4, _), (21, _), (22, _), (23, _)] ⟨rfl, rfl, rfl, rfl, rfl, trivial⟩ ?_
        refine HQ.keepR [(3, _)] ⟨rfl, trivial⟩ rfl ?_
        refine HQ.blkE ?_
        refine HQ.thenN ?_
        refine HQ.rseq ?_
        refine HQ.pu Pu.move ⟨rfl, trivial⟩ rfl rfl rfl ?_
        obtain ⟨t42, h43, H⟩ := bnd H
        refine HQ.op [3] [10, 3] (OT.call (us := [_, _]) (Pre := [OwnS kU8 a39 c40 l38]) [.tmp 32, .const (.int .i64 25)] Try.call24 rfl rfl fun w F hs hF hp => impl_Pad_c (hs.lend hF 0 rfl) h43) ⟨rfl, rfl, rfl, trivial⟩ ⟨rfl, trivial⟩ rfl rfl rfl rfl (fun _ => rfl) fun ⟨a44, c45⟩ => ?_
        refine HQ.pu Pu.assign ⟨rfl, trivial⟩ rfl rfl rfl ?_
        refine HQ.done ?_
        refine HQ.keep [(2, _)] ⟨rfl, trivial⟩ ?_
        refine HQ.ret ?_
        obtain rfl := Option.some.inj H
        exact HQ.fin (vs := [_]) Try.results98 (a44, c45) ⟨rfl, trivial⟩ rfl [10] ⟨rfl, trivial⟩ rfl
      · exact fun r h a w hf => hf.elim
    · refine HQ.condF rfl hc ?_
      clear hc
      refine HQ.skipThen ?_
      refine HQ.rseq ?_
      refine HQ.pu Pu.move ⟨rfl, trivial⟩ rfl rfl rfl ?_
      refine HQ.pu (Pu.conv ul3 ul5) ⟨rfl, trivial⟩ rfl rfl rfl ?_
      refine HQ.op [] [11] (OT.buildF (us := [.int .u8 (IntKind.u8.wrap ((List.length p0.L : Nat) : Int))]) (ys := ([(IntKind.u8.wrap ((List.length p0.L : Nat) : Int))] : (List Int))) (enc := (encI .u8)) (hl := fun _ => ⟨rfl, rfl⟩) [.tmp 18] sl22.ul sl22.szE sl22.zc rfl rfl rfl rfl rfl) ⟨rfl, trivial⟩ trivial rfl rfl rfl rfl (fun _ => rfl) fun ⟨a47, c48⟩ => ?_
      refine HQ.pu Pu.assign ⟨rfl, trivial⟩ rfl rfl rfl ?_
      refine HQ.done ?_
      refine HQ.keep [(1, _), (2, _), (4, _)] ⟨rfl, rfl, rfl, trivial⟩ ?_
      refine HQ.seq ?_
      refine HQ.rseq ?_
      refine HQ.pu (Pu.fieldB fo47_1 rfl) ⟨rfl, trivial⟩ rfl rfl rfl ?_
      refine HQ.op [1] [1] (OT.loadB sc45 rfl) ⟨rfl, trivial⟩ ⟨rfl, trivial⟩ rfl rfl rfl rfl (fun _ => rfl) fun _ => ?_
      refine HQ.pu (Pu.len ul45) ⟨rfl, trivial⟩ rfl rfl rfl ?_
      refine HQ.pu Pu.move ⟨rfl, trivial⟩ rfl rfl rfl ?_
      refine HQ.done ?_
      refine HQ.keep [(2, _), (4, _), (21, _), (22, _), (23, _)] ⟨rfl, rfl, rfl, rfl, rfl, trivial⟩ ?_
      refine HQ.block ?_
      obtain ⟨o80, h89, H⟩ := bnd H
      refine HQ.loop h89 0 (fun (s : (List Int) × Int) (g : Option Addr × Nat) => match s, g with | (l58, i61), (a59, c60) => [(2, .slice none 0 0), (4, .slice a59 (List.length l58) c60), (21, .slice a_0 (List.length p0.L) c_0), (22, .int .i64 ((List.length p0.L : Nat) : Int)), (23, .int .i64 i61)]) (fun (s : (List Int) × Int) (g : Option Addr × Nat) => match s, g with | (l58, i61), (a59, c60) => [(11, OwnS kU8 a59 c60 l58)]) (fun _ _ _ => False) (a47, c48) ⟨rfl, rfl, rfl, rfl, rfl, trivial⟩ ⟨rfl, trivial⟩ rfl ?_ ?_ ?_
      · clear H h89
        rintro ⟨l58, i61⟩ ⟨a59, c60⟩ o H
        rw [impl_PutNode_b1] at H
        refine HQ.keep [(2, _), (4, _), (21, _), (22, _), (23, _)] ⟨rfl, rfl, rfl, rfl, rfl, trivial⟩ ?_
        refine HQ.keepR [(11, _)] ⟨rfl, trivial⟩ rfl ?_
        refine HQ.rseq ?_
        refine HQ.pu Pu.lss ⟨rfl, rfl, trivial⟩ rfl rfl rfl ?_
        refine HQ.done ?_
        refine HQ.keep [(2, _), (4, _), (21, _), (22, _), (23, _), (24, _)] ⟨rfl, rfl, rfl, rfl, rfl, rfl, trivial⟩ ?_
        refine HQ.seq ?_
        rcases brk H with ⟨hc, H⟩ | ⟨hc, H⟩
        · refine HQ.condT rfl hc ?_
          clear hc
          refine HQ.skipThen ?_
          refine HQ.seq ?_
          refine HQ.block ?_
          refine HQ.rseq ?_
          obtain ⟨h71, H⟩ := asr H
          refine HQ.op [] [] (OT.indexB ul45 sz134 hb_0 h71) ⟨rfl, rfl, trivial⟩ trivial rfl rfl rfl rfl (fun _ => rfl) fun _ => ?_
          refine HQ.op [] [] (OT.loadFA (vs := [.int .i64 ((gt p0.L i61).N), .int .i64 ((gt p0.L i61).R.X0), .int .i64 ((gt p0.L i61).R.Y0), .int .i64 ((gt p0.L i61).R.X1), .int .i64 ((gt p0.L i61).R.Y1)]) ag134 sz134 hb_0 h71 rfl rfl) ⟨rfl, trivial⟩ trivial rfl rfl rfl rfl (fun _ => rfl) fun _ => ?_
          refine HQ.op [] [16] (OT.alloc zc134) trivial trivial rfl rfl rfl rfl (fun _ => rfl) fun b72 => ?_
          refine HQ.opN [16] [16] [] (OT.storeC (cs' := [.int .i64 ((gt p0.L i61).N), .int .i64 ((gt p0.L i61).R.X0), .int .i64 ((gt p0.L i61).R.Y0), .int .i64 ((gt p0.L i61).R.X1), .int .i64 ((gt p0.L i61).R.Y1)]) sz134 rfl rfl rfl rfl rfl) ⟨rfl, rfl, trivial⟩ ⟨rfl, trivial⟩ rfl rfl rfl (fun _ => rfl) fun _ => ?_
          refine HQ.done ?_
          refine HQ.keep [(2, _), (4, _), (21, _), (22, _), (23, _), (6, _)] ⟨rfl, rfl, rfl, rfl, rfl, rfl, trivial⟩ ?_
          refine HQ.regionQ ?_
          refine HQ.pu Pu.move ⟨rfl, trivial⟩ rfl rfl rfl ?_
          refine HQ.op [16] [16] (OT.loadBA (vs := [.int .i64 ((gt p0.L i61).N), .int .i64 ((gt p0.L i61).R.X0), .int .i64 ((gt p0.L i61).R.Y0), .int .i64 ((gt p0.L i61).R.X1), .int .i64 ((gt p0.L i61).R.Y1)]) ag134 sz134 rfl rfl) ⟨rfl, trivial⟩ ⟨rfl, trivial⟩ rfl rfl rfl rfl (fun _ => rfl) fun _ => ?_
          obtain ⟨t73, h74, H⟩ := bnd H
          refine HQ.op [] [17] (OT.call (us := [_]) (Pre := []) [.tmp 28] Try.call126 rfl rfl fun w F hs hF hp => impl_PutEntry_c h74) ⟨rfl, rfl, trivial⟩ trivial rfl rfl rfl rfl (fun _ => rfl) fun ⟨a75, c76⟩ => ?_
          obtain ⟨h79, H⟩ := asr H
          refine HQ.op [11, 17] [11, 17] (OT.appendG (enc := (encI .u8)) (hl := fun _ => ⟨rfl, rfl⟩) sl22 ul22 h79) ⟨rfl, rfl, trivial⟩ ⟨rfl, rfl, trivial⟩ rfl rfl rfl rfl (fun _ => rfl) fun ⟨a77, c78⟩ => ?_
          refine HQ.pu Pu.assign ⟨rfl, trivial⟩ rfl rfl rfl ?_
          refine HQ.done ?_
          refine HQ.keep [(2, _), (4, _), (21, _), (22, _), (23, _)] ⟨rfl, rfl, rfl, rfl, rfl, trivial⟩ ?_
          refine HQ.blkN ?_
          refine HQ.thenN ?_
          refine HQ.regionQ ?_
          refine HQ.pu Pu.add ⟨rfl, rfl, trivial⟩ rfl rfl rfl ?_
          refine HQ.pu Pu.move ⟨rfl, trivial⟩ rfl rfl rfl ?_
          refine HQ.done ?_
          refine HQ.keep [(2, _), (4, _), (21, _), (22, _), (23, _)] ⟨rfl, rfl, rfl, rfl, rfl, trivial⟩ ?_
          obtain rfl := Option.some.inj H
          exact HQ.next (a77, c78) ⟨rfl, rfl, rfl, rfl, rfl, trivial⟩ ⟨rfl, trivial⟩ rfl
        · refine HQ.condF rfl hc ?_
          clear hc
          refine HQ.exit ?_
          refine HQ.thenE ?_
          obtain rfl := Option.some.inj H
          exact HQ.out (a59, c60) ⟨rfl, rfl, rfl, rfl, rfl, trivial⟩ ⟨rfl, trivial⟩ rfl
      · rintro ⟨l81, i84⟩ rfl ⟨a82, c83⟩
        clear h89
        replace H := H
        refine HQ.keep [(2, _), (4, _), (21, _), (22, _), (23, _)] ⟨rfl, rfl, rfl, rfl, rfl, trivial⟩ ?_
        refine HQ.keepR [(11, _)] ⟨rfl, trivial⟩ rfl ?_
        refine HQ.blkE ?_
        refine HQ.thenN ?_
        refine HQ.rseq ?_
        refine HQ.pu Pu.move ⟨rfl, trivial⟩ rfl rfl rfl ?_
        obtain ⟨t85, h86, H⟩ := bnd H
        refine HQ.op [11] [18, 11] (OT.call (us := [_, _]) (Pre := [OwnS kU8 a82 c83 l81]) [.tmp 32, .const (.int .i64 25)] Try.call24 rfl rfl fun w F hs hF hp => impl_Pad_c (hs.lend hF 0 rfl) h86) ⟨rfl, rfl, rfl, trivial⟩ ⟨rfl, trivial⟩ rfl rfl rfl rfl (fun _ => rfl) fun ⟨a87, c88⟩ => ?_
        refine HQ.pu Pu.assign ⟨rfl, trivial⟩ rfl rfl rfl ?_
        refine HQ.done ?_
        refine HQ.keep [(2, _)] ⟨rfl, trivial⟩ ?_
        refine HQ.ret ?_
        obtain rfl := Option.some.inj H
        exact HQ.fin (vs := [_]) Try.results98 (a87, c88) ⟨rfl, trivial⟩ rfl [18] ⟨rfl, trivial⟩ rfl
      · exact fun r h a w hf => hf.elim

end Go.Proofs.Sx
