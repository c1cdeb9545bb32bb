import Derived.Test.YtkhommmhkeohbaaQbF4
import Derived.KernelRfl
namespace Go.Proofs.Sx
open Go.RowKit
set_option linter.unusedVariables false
set_option linter.unusedSimpArgs false
set_option maxRecDepth 20000
set_option maxHeartbeats 1000000
/-! impl.PutCell -/
theorem impl_PutCell_c {w : World} {k : Nat} {p0 : Int} {p1 : TChange} {a_0 : Option Addr} {c_0 : Nat} (hb_0 : BorS kTEntry a_0 c_0 p1.N.L w.heap (Lt w Nil)) {r : (List Int)} (H : impl_PutCell k p0 p1 = some r) :
    Calls Try.prog 27 #[.int .i64 p0, .agg #[.int .i64 p1.Page, .bool p1.N.Leaf, .slice a_0 (List.length p1.N.L) c_0]] w (Rt w Nil (fun g : Option Addr × Nat => .slice g.1 (List.length r) g.2) (fun g => [OwnS kU8 g.1 g.2 r])) := by
  rw [impl_PutCell] at H
  refine Calls.enter0 (N := 32) (us := [_, _]) Try.func27 rfl rfl rfl ?_
  refine HQ.rseq ?_
  refine HQ.op [] [1] (OT.box (cs := [.int .i64 p1.Page, .bool p1.N.Leaf, .slice a_0 (List.length p1.N.L) c_0]) rfl) ⟨rfl, trivial⟩ trivial rfl rfl rfl rfl (fun _ => rfl) fun b1 => ?_
  refine HQ.pu Pu.assign ⟨rfl, trivial⟩ rfl rfl rfl ?_
  refine HQ.done ?_
  refine HQ.keep [(0, _), (3, _), (4, _)] ⟨rfl, rfl, rfl, trivial⟩ ?_
  refine HQ.seq ?_
  refine HQ.rseq ?_
  refine HQ.pu Pu.move ⟨rfl, trivial⟩ rfl rfl rfl ?_
  obtain ⟨t2, h3, H⟩ := bnd H
  refine HQ.op [] [] (OT.call (us := [_, _, _]) (Pre := []) [.tmp 5, .const (.int .i64 0), .const (.int .i64 65535)] Try.call83 rfl rfl fun w F hs hF hp => impl_in_c h3) ⟨rfl, rfl, rfl, rfl, trivial⟩ trivial rfl rfl rfl rfl (fun _ => rfl) fun _ => ?_
  refine HQ.pu Pu.not ⟨rfl, trivial⟩ rfl rfl rfl ?_
  refine HQ.pu Pu.move ⟨rfl, trivial⟩ rfl rfl rfl ?_
  obtain ⟨c7, h8, H⟩ := bnd H
  refine HQ.cutAt 5 [(13, .bool c7), (0, .int .i64 p0), (3, BP b1 0), (4, .slice none 0 0)] [(1, Box b1 [.int .i64 p1.Page, .bool p1.N.Leaf, .slice a_0 (List.length p1.N.L) c_0])] ?_ ?_
  · clear H
    have H := h8
    rcases brk H with ⟨hg4, H⟩ | ⟨hg4, H⟩
    · obtain rfl := Option.some.inj H
      refine HQ.off rfl rfl hg4 rfl ?_
      refine HQ.off rfl rfl hg4 rfl ?_
      refine HQ.off rfl rfl hg4 rfl ?_
      refine HQ.off rfl rfl hg4 rfl ?_
      refine HQ.pu (Pu.pickC1 hg4) ⟨rfl, rfl, trivial⟩ rfl rfl rfl ?_
      exact HQ.mid ⟨rfl, rfl, rfl, rfl, trivial⟩ ⟨rfl, trivial⟩ rfl
    · refine HQ.on rfl rfl hg4 ?_
      refine HQ.pu (Pu.fieldB fo49_0 rfl) ⟨rfl, trivial⟩ rfl rfl rfl ?_
      refine HQ.on rfl rfl hg4 ?_
      refine HQ.op [1] [1] (OT.loadB sc3 rfl) ⟨rfl, trivial⟩ ⟨rfl, trivial⟩ rfl rfl rfl rfl (fun _ => rfl) fun _ => ?_
      refine HQ.on rfl rfl hg4 ?_
      obtain ⟨t5, h6, H⟩ := bnd H
      refine HQ.op [] [] (OT.call (us := [_, _, _]) (Pre := []) [.tmp 10, .const (.int .i64 0), .const (.int .i64 47)] Try.call83 rfl rfl fun w F hs hF hp => impl_in_c h6) ⟨rfl, rfl, rfl, rfl, trivial⟩ trivial rfl rfl rfl rfl (fun _ => rfl) fun _ => ?_
      refine HQ.on rfl rfl hg4 ?_
      refine HQ.pu Pu.not ⟨rfl, trivial⟩ rfl rfl rfl ?_
      obtain rfl := Option.some.inj H
      refine HQ.pu (Pu.pickC0 hg4) ⟨rfl, rfl, trivial⟩ rfl rfl rfl ?_
      exact HQ.mid ⟨rfl, rfl, rfl, rfl, trivial⟩ ⟨rfl, trivial⟩ rfl
  refine HQ.pu Pu.move ⟨rfl, trivial⟩ rfl rfl rfl ?_
  obtain ⟨c12, h13, H⟩ := bnd H
  refine HQ.cutAt 5 [(19, .bool c12), (0, .int .i64 p0), (3, BP b1 0), (4, .slice none 0 0)] [(1, Box b1 [.int .i64 p1.Page, .bool p1.N.Leaf, .slice a_0 (List.length p1.N.L) c_0])] ?_ ?_
  · clear H
    have H := h13
    rcases brk H with ⟨hg9, H⟩ | ⟨hg9, H⟩
    · obtain rfl := Option.some.inj H
      refine HQ.off rfl rfl hg9 rfl ?_
      refine HQ.off rfl rfl hg9 rfl ?_
      refine HQ.off rfl rfl hg9 rfl ?_
      refine HQ.off rfl rfl hg9 rfl ?_
      refine HQ.pu (Pu.pickC1 hg9) ⟨rfl, rfl, trivial⟩ rfl rfl rfl ?_
      exact HQ.mid ⟨rfl, rfl, rfl, rfl, trivial⟩ ⟨rfl, trivial⟩ rfl
    · refine HQ.on rfl rfl hg9 ?_
      refine HQ.pu (Pu.fieldB fo49_1 rfl) ⟨rfl, trivial⟩ rfl rfl rfl ?_
      refine HQ.on rfl rfl hg9 ?_
      refine HQ.op [1] [1] (OT.loadBA (vs := [.bool p1.N.Leaf, .slice a_0 (List.length p1.N.L) c_0]) ag47 sz47 rfl rfl) ⟨rfl, trivial⟩ ⟨rfl, trivial⟩ rfl rfl rfl rfl (fun _ => rfl) fun _ => ?_
      refine HQ.on rfl rfl hg9 ?_
      obtain ⟨t10, h11, H⟩ := bnd H
      refine HQ.op [] [] (OT.call (us := [_]) (Pre := []) [.tmp 16] Try.call38 rfl rfl fun w F hs hF hp => impl_NodeOk_c (hb_0.pass hp) h11) ⟨rfl, rfl, trivial⟩ trivial rfl rfl rfl rfl (fun _ => rfl) fun _ => ?_
      refine HQ.on rfl rfl hg9 ?_
      refine HQ.pu Pu.not ⟨rfl, trivial⟩ rfl rfl rfl ?_
      obtain rfl := Option.some.inj H
      refine HQ.pu (Pu.pickC0 hg9) ⟨rfl, rfl, trivial⟩ rfl rfl rfl ?_
      exact HQ.mid ⟨rfl, rfl, rfl, rfl, trivial⟩ ⟨rfl, trivial⟩ rfl
  refine HQ.done ?_
  refine HQ.keep [(19, _), (0, _), (3, _), (4, _)] ⟨rfl, rfl, rfl, rfl, trivial⟩ ?_
  rcases brk H with ⟨hc, H⟩ | ⟨hc, H⟩
  · refine HQ.condT rfl hc ?_
    clear hc
    refine HQ.rseq ?_
    refine HQ.pu Pu.assign ⟨rfl, trivial⟩ rfl rfl rfl ?_
    refine HQ.done ?_
    refine HQ.keep [(0, _), (3, _), (4, _)] ⟨rfl, rfl, rfl, trivial⟩ ?_
    refine HQ.ret ?_
    refine HQ.thenR ?_
    obtain rfl := Option.some.inj H
    refine HQ.nil kU8 2 rfl ?_
    exact HQ.fin (vs := [_]) Try.results27 (none, 0) ⟨rfl, trivial⟩ rfl [2] ⟨rfl, trivial⟩ rfl
  · refine HQ.condF rfl hc ?_
    clear hc
    refine HQ.skipThen ?_
    obtain ⟨t17, h18, H⟩ := bnd H
    obtain ⟨h25, H⟩ := asr H
    refine HQ.drawS mixd [(0, .int .i64 p0), (3, BP b1 0), (4, .slice none 0 0)] 10 [⟨[], [0], []⟩, ⟨[], [], []⟩, ⟨[0], [1, 0], [0, 1]⟩, ⟨[], [], []⟩, ⟨[2], [2], [3]⟩, ⟨[], [], [4]⟩, ⟨[], [3], [5]⟩, ⟨[1, 3], [4, 3], [2, 6]⟩, ⟨[], [], []⟩, ⟨[2], [2], [8]⟩] [⟨some 0, none⟩, ⟨some 2, some 7⟩, ⟨none, none⟩, ⟨some 6, none⟩, ⟨some 7, none⟩] (fun (g14 : (Option Addr × Nat) × (Option Addr × Nat) × (Option Addr × Nat) × (Option Addr × Nat)) => [.slice g14.1.1 (List.length ([1] : (List Int))) g14.1.2, .int .i64 p0, .slice g14.2.1.1 (List.length t17) g14.2.1.2, BP b1 0, .int .i64 p1.Page, .int .u8 (IntKind.u8.wrap p1.Page), .slice g14.2.2.1.1 (List.length ([(IntKind.u8.wrap p1.Page)] : (List Int))) g14.2.2.1.2, .slice g14.2.2.2.1 (List.length (t17 ++ ([(IntKind.u8.wrap p1.Page)] : (List Int)))) g14.2.2.2.2, BP b1 1, .agg #[.bool p1.N.Leaf, .slice a_0 (List.length p1.N.L) c_0]]) (fun (g14 : (Option Addr × Nat) × (Option Addr × Nat) × (Option Addr × Nat) × (Option Addr × Nat)) => [OwnS kU8 g14.1.1 g14.1.2 ([1] : (List Int)), OwnS kU8 g14.2.1.1 g14.2.1.2 t17, Box b1 [.int .i64 p1.Page, .bool p1.N.Leaf, .slice a_0 (List.length p1.N.L) c_0], OwnS kU8 g14.2.2.1.1 g14.2.2.1.2 ([(IntKind.u8.wrap p1.Page)] : (List Int)), OwnS kU8 g14.2.2.2.1 g14.2.2.2.2 (t17 ++ ([(IntKind.u8.wrap p1.Page)] : (List Int)))]) ((none, 0), (none, 0), (none, 0), (none, 0)) [1] [3, 1, 5, 4] [] ⟨rfl, rfl, rfl, trivial⟩ ⟨rfl, trivial⟩ rfl (by kernel_rfl) (fun _ => rfl) (by kernel_rfl) (fun _ => rfl) ⟨?_, ?_, ?_, ?_, ?_, ?_, ?_, ?_, ?_, ?_, trivial⟩ fun g14 => ?_
    · exact OpOK.of (fun g14 => [(.const (.int .u8 1), .int .u8 1)]) _ _ (fun g14 x => (x, g14.2.1, g14.2.2.1, g14.2.2.2)) rfl rfl (fun _ => ⟨rfl, trivial⟩) (fun g14 => OT.buildF (us := [.int .u8 1]) (ys := ([1] : (List Int))) (enc := (encI .u8)) (hl := fun _ => ⟨rfl, rfl⟩) [.const (.int .u8 1)] sl22.ul sl22.szE sl22.zc rfl rfl rfl rfl rfl) (fun _ _ => ⟨rfl, rfl, ⟨rfl, rfl, rfl, rfl, rfl, trivial⟩⟩)
    · exact OpOK.of (fun g14 => [(.tmp 0, .int .i64 p0)]) _ _ (fun g14 _ => g14) rfl rfl (fun _ => ⟨rfl, trivial⟩) (fun g14 => Pu.toOT Pu.move) (fun _ _ => ⟨rfl, rfl, ⟨rfl, rfl, rfl, rfl, rfl, trivial⟩⟩)
    · exact OpOK.of (fun g14 => [(.func 97, .func (.func 97) #[] #[]), (.tmp 20, .slice g14.1.1 (List.length ([1] : (List Int))) g14.1.2), (.tmp 21, .int .i64 p0)]) _ _ (fun g14 x => (g14.1, x, g14.2.2.1, g14.2.2.2)) rfl rfl (fun _ => ⟨rfl, rfl, rfl, trivial⟩) (fun g14 => OT.call (us := [_, _]) (Pre := [OwnS kU8 g14.1.1 g14.1.2 ([1] : (List Int))]) [.tmp 20, .tmp 21] Try.call97 rfl rfl fun w F hs hF hp => impl_Put2_c (hs.lend hF 0 rfl) h18) (fun _ _ => ⟨rfl, rfl, ⟨rfl, rfl, rfl, rfl, rfl, trivial⟩⟩)
    · exact OpOK.of (fun g14 => [(.tmp 3, BP b1 0)]) _ _ (fun g14 _ => g14) rfl rfl (fun _ => ⟨rfl, trivial⟩) (fun g14 => Pu.toOT (Pu.fieldB fo49_0 rfl)) (fun _ _ => ⟨rfl, rfl, ⟨rfl, rfl, rfl, rfl, rfl, trivial⟩⟩)
    · exact OpOK.of (fun g14 => [(.tmp 23, BP b1 0)]) _ _ (fun g14 _ => g14) rfl rfl (fun _ => ⟨rfl, trivial⟩) (fun g14 => OT.loadB sc3 rfl) (fun _ _ => ⟨rfl, rfl, ⟨rfl, rfl, rfl, rfl, rfl, trivial⟩⟩)
    · exact OpOK.of (fun g14 => [(.tmp 24, .int .i64 p1.Page)]) _ _ (fun g14 _ => g14) rfl rfl (fun _ => ⟨rfl, trivial⟩) (fun g14 => Pu.toOT (Pu.conv ul3 ul5)) (fun _ _ => ⟨rfl, rfl, ⟨rfl, rfl, rfl, rfl, rfl, trivial⟩⟩)
    · exact OpOK.of (fun g14 => [(.tmp 25, .int .u8 (IntKind.u8.wrap p1.Page))]) _ _ (fun g14 x => (g14.1, g14.2.1, x, g14.2.2.2)) rfl rfl (fun _ => ⟨rfl, trivial⟩) (fun g14 => OT.buildF (us := [.int .u8 (IntKind.u8.wrap p1.Page)]) (ys := ([(IntKind.u8.wrap p1.Page)] : (List Int))) (enc := (encI .u8)) (hl := fun _ => ⟨rfl, rfl⟩) [.tmp 25] sl22.ul sl22.szE sl22.zc rfl rfl rfl rfl rfl) (fun _ _ => ⟨rfl, rfl, ⟨rfl, rfl, rfl, rfl, rfl, trivial⟩⟩)
    · exact OpOK.of (fun g14 => [(.tmp 22, .slice g14.2.1.1 (List.length t17) g14.2.1.2), (.tmp 26, .slice g14.2.2.1.1 (List.length ([(IntKind.u8.wrap p1.Page)] : (List Int))) g14.2.2.1.2)]) _ _ (fun g14 x => (g14.1, g14.2.1, g14.2.2.1, x)) rfl rfl (fun _ => ⟨rfl, rfl, trivial⟩) (fun g14 => OT.appendG (enc := (encI .u8)) (hl := fun _ => ⟨rfl, rfl⟩) sl22 ul22 h25) (fun _ _ => ⟨rfl, rfl, ⟨rfl, rfl, rfl, rfl, rfl, trivial⟩⟩)
    · exact OpOK.of (fun g14 => [(.tmp 3, BP b1 0)]) _ _ (fun g14 _ => g14) rfl rfl (fun _ => ⟨rfl, trivial⟩) (fun g14 => Pu.toOT (Pu.fieldB fo49_1 rfl)) (fun _ _ => ⟨rfl, rfl, ⟨rfl, rfl, rfl, rfl, rfl, trivial⟩⟩)
    · exact OpOK.of (fun g14 => [(.tmp 28, BP b1 1)]) _ _ (fun g14 _ => g14) rfl rfl (fun _ => ⟨rfl, trivial⟩) (fun g14 => OT.loadBA (vs := [.bool p1.N.Leaf, .slice a_0 (List.length p1.N.L) c_0]) ag47 sz47 rfl rfl) (fun _ _ => ⟨rfl, rfl, ⟨rfl, rfl, rfl, rfl, rfl, trivial⟩⟩)
    refine HQ.keep [(4, _), (27, _), (29, _)] ⟨rfl, rfl, rfl, trivial⟩ ?_
    refine HQ.keepR [(1, _), (3, _), (5, _), (4, _)] ⟨rfl, rfl, rfl, rfl, trivial⟩ rfl ?_
    obtain ⟨t26, h27, H⟩ := bnd H
    refine HQ.op [] [6] (OT.call (us := [_]) (Pre := []) [.tmp 29] Try.call98 rfl rfl fun w F hs hF hp => impl_PutNode_c (hb_0.pass hp) h27) ⟨rfl, rfl, trivial⟩ trivial rfl rfl rfl rfl (fun _ => rfl) fun ⟨a28, c29⟩ => ?_
    obtain ⟨h32, H⟩ := asr H
    refine HQ.op [4, 6] [4, 6] (OT.appendG (enc := (encI .u8)) (hl := fun _ => ⟨rfl, rfl⟩) sl22 ul22 h32) ⟨rfl, rfl, trivial⟩ ⟨rfl, rfl, trivial⟩ rfl rfl rfl rfl (fun _ => rfl) fun ⟨a30, c31⟩ => ?_
    refine HQ.pu Pu.assign ⟨rfl, trivial⟩ rfl rfl rfl ?_
    refine HQ.done ?_
    refine HQ.keep [(4, _)] ⟨rfl, trivial⟩ ?_
    refine HQ.ret ?_
    obtain rfl := Option.some.inj H
    exact HQ.fin (vs := [_]) Try.results27 (a30, c31) ⟨rfl, trivial⟩ rfl [4] ⟨rfl, trivial⟩ rfl

/-! impl.Get2 -/
theorem impl_Get2_c {w : World} {p0 : (List Int)} {p1 : Int} {a_0 : Option Addr} {c_0 : Nat} (hb_0 : BorS kU8 a_0 c_0 p0 w.heap (Lt w Nil)) {r : Int × Bool} (H : impl_Get2 p0 p1 = some r) :
    Calls Try.prog 103 #[.slice a_0 (List.length p0) c_0, .int .i64 p1] w (Rt w Nil (fun _ : Unit => .tuple #[.int .i64 r.1, .bool r.2]) (fun _ => [])) := by
  rw [impl_Get2] at H
  refine Calls.enter0 (N := 28) (us := [_, _]) Try.func103 rfl rfl rfl ?_
  refine HQ.rseq ?_
  refine HQ.pu Pu.assign ⟨rfl, trivial⟩ rfl rfl rfl ?_
  refine HQ.pu Pu.assign ⟨rfl, trivial⟩ rfl rfl rfl ?_
  refine HQ.done ?_
  refine HQ.keep [(0, _), (1, _), (4, _), (5, _)] ⟨rfl, rfl, rfl, rfl, trivial⟩ ?_
  refine HQ.seq ?_
  refine HQ.rseq ?_
  refine HQ.pu Pu.move ⟨rfl, trivial⟩ rfl rfl rfl ?_
  refine HQ.pu Pu.lss ⟨rfl, rfl, trivial⟩ rfl rfl rfl ?_
  refine HQ.pu Pu.move ⟨rfl, trivial⟩ rfl rfl rfl ?_
  refine HQ.cutAt 6 [(14, .bool ((decide (p1 < 0)) || (decide (p1 > (wrap64 (((List.length p0 : Nat) : Int) - 2)))))), (0, .slice a_0 (List.length p0) c_0), (1, .int .i64 p1), (4, .int .i64 0), (5, .bool false)] [] ?_ ?_
  · rcases Bool.eq_false_or_eq_true (decide (p1 < 0)) with hg1 | hg1
    · refine HQ.off rfl rfl hg1 rfl ?_
      refine HQ.off rfl rfl hg1 rfl ?_
      refine HQ.off rfl rfl hg1 rfl ?_
      refine HQ.off rfl rfl hg1 rfl ?_
      refine HQ.off rfl rfl hg1 rfl ?_
      refine HQ.pu (Pu.pickOT (u := (decide (p1 > (wrap64 (((List.length p0 : Nat) : Int) - 2))))) hg1) ⟨rfl, rfl, trivial⟩ rfl rfl rfl ?_
      exact HQ.mid ⟨rfl, rfl, rfl, rfl, rfl, trivial⟩ trivial rfl
    · refine HQ.on rfl rfl hg1 ?_
      refine HQ.pu Pu.move ⟨rfl, trivial⟩ rfl rfl rfl ?_
      refine HQ.on rfl rfl hg1 ?_
      refine HQ.pu Pu.move ⟨rfl, trivial⟩ rfl rfl rfl ?_
      refine HQ.on rfl rfl hg1 ?_
      refine HQ.pu (Pu.len ul22) ⟨rfl, trivial⟩ rfl rfl rfl ?_
      refine HQ.on rfl rfl hg1 ?_
      refine HQ.pu Pu.sub ⟨rfl, rfl, trivial⟩ rfl rfl rfl ?_
      refine HQ.on rfl rfl hg1 ?_
      refine HQ.pu Pu.gtr ⟨rfl, rfl, trivial⟩ rfl rfl rfl ?_
      refine HQ.pu (Pu.pickOF hg1) ⟨rfl, rfl, trivial⟩ rfl rfl rfl ?_
      exact HQ.mid ⟨rfl, rfl, rfl, rfl, rfl, trivial⟩ trivial rfl
  refine HQ.done ?_
  refine HQ.keep [(14, _), (0, _), (1, _), (4, _), (5, _)] ⟨rfl, rfl, rfl, rfl, rfl, trivial⟩ ?_
  rcases brk H with ⟨hc, H⟩ | ⟨hc, H⟩
  · refine HQ.condT rfl hc ?_
    clear hc
    refine HQ.rseq ?_
    refine HQ.pu Pu.assign ⟨rfl, trivial⟩ rfl rfl rfl ?_
    refine HQ.pu Pu.assign ⟨rfl, trivial⟩ rfl rfl rfl ?_
    refine HQ.done ?_
    refine HQ.keep [(0, _), (1, _), (4, _), (5, _)] ⟨rfl, rfl, rfl, rfl, trivial⟩ ?_
    refine HQ.ret ?_
    refine HQ.thenR ?_
    obtain rfl := Option.some.inj H
    exact HQ.fin (vs := [_, _]) Try.results103 () ⟨rfl, rfl, trivial⟩ rfl [] trivial rfl
  · refine HQ.condF rfl hc ?_
    clear hc
    refine HQ.skipThen ?_
    obtain ⟨h3, H⟩ := asr H
    obtain ⟨h4, H⟩ := asr H
    refine HQ.drawS mixd [(0, .slice a_0 (List.length p0) c_0), (1, .int .i64 p1), (4, .int .i64 0), (5, .bool false)] 12 [⟨[], [], []⟩, ⟨[], [], []⟩, ⟨[], [], [0, 1]⟩, ⟨[], [], [2]⟩, ⟨[], [], [3]⟩, ⟨[], [], [4]⟩, ⟨[], [], []⟩, ⟨[], [], []⟩, ⟨[], [], [7]⟩, ⟨[], [], [6, 8]⟩, ⟨[], [], [9]⟩, ⟨[], [], [10]⟩] [] (fun (g2 : Unit) => [.slice a_0 (List.length p0) c_0, .int .i64 p1, EP a_0 p1 1 0, .int .u8 (gt p0 p1), .int .i64 (IntKind.i64.wrap (gt p0 p1)), .int .i64 (wrap64 ((IntKind.i64.wrap (gt p0 p1)) * 2 ^ (min (Int.toNat 8) 64))), .slice a_0 (List.length p0) c_0, .int .i64 p1, .int .i64 (wrap64 (p1 + 1)), EP a_0 (wrap64 (p1 + 1)) 1 0, .int .u8 (gt p0 (wrap64 (p1 + 1))), .int .i64 (IntKind.i64.wrap (gt p0 (wrap64 (p1 + 1))))]) (fun (g2 : Unit) => []) () [] [] [] ⟨rfl, rfl, rfl, rfl, trivial⟩ trivial rfl (by kernel_rfl) (fun _ => rfl) (by kernel_rfl) (fun _ => rfl) ⟨?_, ?_, ?_, ?_, ?_, ?_, ?_, ?_, ?_, ?_, ?_, ?_, trivial⟩ fun g2 => ?_
    · exact OpOK.of (fun g2 => [(.tmp 0, .slice a_0 (List.length p0) c_0)]) _ _ (fun g2 _ => g2) rfl rfl (fun _ => ⟨rfl, trivial⟩) (fun g2 => Pu.toOT Pu.move) (fun _ _ => ⟨rfl, rfl, trivial⟩)
    · exact OpOK.of (fun g2 => [(.tmp 1, .int .i64 p1)]) _ _ (fun g2 _ => g2) rfl rfl (fun _ => ⟨rfl, trivial⟩) (fun g2 => Pu.toOT Pu.move) (fun _ _ => ⟨rfl, rfl, trivial⟩)
    · exact OpOK.of (fun g2 => [(.tmp 15, .slice a_0 (List.length p0) c_0), (.tmp 16, .int .i64 p1)]) _ _ (fun g2 _ => g2) rfl rfl (fun _ => ⟨rfl, rfl, trivial⟩) (fun g2 => OT.indexB ul22 sz5 hb_0 h3) (fun _ _ => ⟨rfl, rfl, trivial⟩)
    · exact OpOK.of (fun g2 => [(.tmp 17, EP a_0 p1 1 0)]) _ _ (fun g2 _ => g2) rfl rfl (fun _ => ⟨rfl, trivial⟩) (fun g2 => OT.loadF sc5 hb_0 h3 rfl) (fun _ _ => ⟨rfl, rfl, trivial⟩)
    · exact OpOK.of (fun g2 => [(.tmp 18, .int .u8 (gt p0 p1))]) _ _ (fun g2 _ => g2) rfl rfl (fun _ => ⟨rfl, trivial⟩) (fun g2 => Pu.toOT (Pu.conv ul5 ul3)) (fun _ _ => ⟨rfl, rfl, trivial⟩)
    · exact OpOK.of (fun g2 => [(.tmp 19, .int .i64 (IntKind.i64.wrap (gt p0 p1))), (.const (.int .u64 8), .int .u64 8)]) _ _ (fun g2 _ => g2) rfl rfl (fun _ => ⟨rfl, rfl, trivial⟩) (fun g2 => Pu.toOT (Pu.shl (by decide))) (fun _ _ => ⟨rfl, rfl, trivial⟩)
    · exact OpOK.of (fun g2 => [(.tmp 0, .slice a_0 (List.length p0) c_0)]) _ _ (fun g2 _ => g2) rfl rfl (fun _ => ⟨rfl, trivial⟩) (fun g2 => Pu.toOT Pu.move) (fun _ _ => ⟨rfl, rfl, trivial⟩)
    · exact OpOK.of (fun g2 => [(.tmp 1, .int .i64 p1)]) _ _ (fun g2 _ => g2) rfl rfl (fun _ => ⟨rfl, trivial⟩) (fun g2 => Pu.toOT Pu.move) (fun _ _ => ⟨rfl, rfl, trivial⟩)
    · exact OpOK.of (fun g2 => [(.tmp 22, .int .i64 p1), (.const (.int .i64 1), .int .i64 1)]) _ _ (fun g2 _ => g2) rfl rfl (fun _ => ⟨rfl, rfl, trivial⟩) (fun g2 => Pu.toOT Pu.add) (fun _ _ => ⟨rfl, rfl, trivial⟩)
    · exact OpOK.of (fun g2 => [(.tmp 21, .slice a_0 (List.length p0) c_0), (.tmp 23, .int .i64 (wrap64 (p1 + 1)))]) _ _ (fun g2 _ => g2) rfl rfl (fun _ => ⟨rfl, rfl, trivial⟩) (fun g2 => OT.indexB ul22 sz5 hb_0 h4) (fun _ _ => ⟨rfl, rfl, trivial⟩)
    · exact OpOK.of (fun g2 => [(.tmp 24, EP a_0 (wrap64 (p1 + 1)) 1 0)]) _ _ (fun g2 _ => g2) rfl rfl (fun _ => ⟨rfl, trivial⟩) (fun g2 => OT.loadF sc5 hb_0 h4 rfl) (fun _ _ => ⟨rfl, rfl, trivial⟩)
    · exact OpOK.of (fun g2 => [(.tmp 25, .int .u8 (gt p0 (wrap64 (p1 + 1))))]) _ _ (fun g2 _ => g2) rfl rfl (fun _ => ⟨rfl, trivial⟩) (fun g2 => Pu.toOT (Pu.conv ul5 ul3)) (fun _ _ => ⟨rfl, rfl, trivial⟩)
    refine HQ.keep [(4, _), (5, _), (20, _), (26, _)] ⟨rfl, rfl, rfl, rfl, trivial⟩ ?_
    refine HQ.keepR [] trivial rfl ?_
    refine HQ.pu Pu.or ⟨rfl, rfl, trivial⟩ rfl rfl rfl ?_
    refine HQ.pu Pu.assign ⟨rfl, trivial⟩ rfl rfl rfl ?_
    refine HQ.pu Pu.assign ⟨rfl, trivial⟩ rfl rfl rfl ?_
    refine HQ.done ?_
    refine HQ.keep [(4, _), (5, _)] ⟨rfl, rfl, trivial⟩ ?_
    refine HQ.ret ?_
    obtain rfl := Option.some.inj H
    exact HQ.fin (vs := [_, _]) Try.results103 () ⟨rfl, rfl, trivial⟩ rfl [] trivial rfl

/-! impl.GetEntry -/
theorem impl_GetEntry_c {w : World} {p0 : (List Int)} {p1 : Int} {a_0 : Option Addr} {c_0 : Nat} (hb_0 : BorS kU8 a_0 c_0 p0 w.heap (Lt w Nil)) {r : TEntry × Bool} (H : impl_GetEntry p0 p1 = some r) :
    Calls Try.prog 127 #[.slice a_0 (List.length p0) c_0, .int .i64 p1] w (Rt w Nil (fun _ : Unit => .tuple #[.agg #[.int .i64 r.1.N, .int .i64 r.1.R.X0, .int .i64 r.1.R.Y0, .int .i64 r.1.R.X1, .int .i64 r.1.R.Y1], .bool r.2]) (fun _ => [])) := by
  rw [impl_GetEntry] at H
  refine Calls.enter0 (N := 58) (us := [_, _]) Try.func127 rfl rfl rfl ?_
  refine HQ.rseq ?_
  refine HQ.op [] [1] (OT.alloc zc134) trivial trivial rfl rfl rfl rfl (fun _ => rfl) fun b1 => ?_
  refine HQ.pu Pu.assign ⟨rfl, trivial⟩ rfl rfl rfl ?_
  refine HQ.done ?_
  refine HQ.keep [(0, _), (1, _), (4, _), (5, _)] ⟨rfl, rfl, rfl, rfl, trivial⟩ ?_
  refine HQ.seq ?_
  refine HQ.rseq ?_
  refine HQ.pu Pu.move ⟨rfl, trivial⟩ rfl rfl rfl ?_
  refine HQ.pu Pu.lss ⟨rfl, rfl, trivial⟩ rfl rfl rfl ?_
  refine HQ.pu Pu.move ⟨rfl, trivial⟩ rfl rfl rfl ?_
  refine HQ.cutAt 6 [(17, .bool ((decide (p1 < 0)) || (decide (p1 > (wrap64 (((List.length p0 : Nat) : Int) - 6)))))), (0, .slice a_0 (List.length p0) c_0), (1, .int .i64 p1), (4, BP b1 0), (5, .bool false)] [(1, Box b1 [.int .i64 0, .int .i64 0, .int .i64 0, .int .i64 0, .int .i64 0])] ?_ ?_
  · rcases Bool.eq_false_or_eq_true (decide (p1 < 0)) with hg2 | hg2
    · refine HQ.off rfl rfl hg2 rfl ?_
      refine HQ.off rfl rfl hg2 rfl ?_
      refine HQ.off rfl rfl hg2 rfl ?_
      refine HQ.off rfl rfl hg2 rfl ?_
      refine HQ.off rfl rfl hg2 rfl ?_
      refine HQ.pu (Pu.pickOT (u := (decide (p1 > (wrap64 (((List.length p0 : Nat) : Int) - 6))))) hg2) ⟨rfl, rfl, trivial⟩ rfl rfl rfl ?_
      exact HQ.mid ⟨rfl, rfl, rfl, rfl, rfl, trivial⟩ ⟨rfl, trivial⟩ rfl
    · refine HQ.on rfl rfl hg2 ?_
      refine HQ.pu Pu.move ⟨rfl, trivial⟩ rfl rfl rfl ?_
      refine HQ.on rfl rfl hg2 ?_
      refine HQ.pu Pu.move ⟨rfl, trivial⟩ rfl rfl rfl ?_
      refine HQ.on rfl rfl hg2 ?_
      refine HQ.pu (Pu.len ul22) ⟨rfl, trivial⟩ rfl rfl rfl ?_
      refine HQ.on rfl rfl hg2 ?_
      refine HQ.pu Pu.sub ⟨rfl, rfl, trivial⟩ rfl rfl rfl ?_
      refine HQ.on rfl rfl hg2 ?_
      refine HQ.pu Pu.gtr ⟨rfl, rfl, trivial⟩ rfl rfl rfl ?_
      refine HQ.pu (Pu.pickOF hg2) ⟨rfl, rfl, trivial⟩ rfl rfl rfl ?_
      exact HQ.mid ⟨rfl, rfl, rfl, rfl, rfl, trivial⟩ ⟨rfl, trivial⟩ rfl
  refine HQ.done ?_
  refine HQ.keep [(17, _), (0, _), (1, _), (4, _), (5, _)] ⟨rfl, rfl, rfl, rfl, rfl, trivial⟩ ?_
  rcases brk H with ⟨hc, H⟩ | ⟨hc, H⟩
  · refine HQ.condT rfl hc ?_
    clear hc
    refine HQ.rseq ?_
    refine HQ.pu (Pu.build (us := []) (cs := [.int .i64 0, .int .i64 0, .int .i64 0, .int .i64 0, .int .i64 0]) [] st134 rfl rfl rfl) trivial rfl rfl rfl ?_
    refine HQ.opN [1] [1] [] (OT.storeC (cs' := [.int .i64 0, .int .i64 0, .int .i64 0, .int .i64 0, .int .i64 0]) sz134 rfl rfl rfl rfl rfl) ⟨rfl, rfl, trivial⟩ ⟨rfl, trivial⟩ rfl rfl rfl (fun _ => rfl) fun _ => ?_
    refine HQ.pu Pu.assign ⟨rfl, trivial⟩ rfl rfl rfl ?_
    refine HQ.done ?_
    refine HQ.keep [(0, _), (1, _), (4, _), (5, _)] ⟨rfl, rfl, rfl, rfl, trivial⟩ ?_
    refine HQ.ret ?_
    refine HQ.thenR ?_
    obtain rfl := Option.some.inj H
    exact HQ.fin (vs := [_, _]) Try.results127 () ⟨⟨_, _, 1, rfl, rfl, ag134, sz134, rfl⟩, rfl, trivial⟩ rfl [] trivial rfl
  · refine HQ.condF rfl hc ?_
    clear hc
    refine HQ.skipThen ?_
    refine HQ.rseq ?_
    refine HQ.pu Pu.move ⟨rfl, trivial⟩ rfl rfl rfl ?_
    refine HQ.pu Pu.move ⟨rfl, trivial⟩ rfl rfl rfl ?_
    obtain ⟨t3, h4, H⟩ := bnd H
    refine HQ.op [] [] (OT.call (us := [_, _]) (Pre := []) [.tmp 20, .tmp 21] Try.call103 rfl rfl fun w F hs hF hp => impl_Get2_c (hb_0.pass hp) h4) ⟨rfl, rfl, rfl, trivial⟩ trivial rfl rfl rfl rfl (fun _ => rfl) fun _ => ?_
    refine HQ.pu Pu.move ⟨rfl, trivial⟩ rfl rfl rfl ?_
    refine HQ.pu (Pu.extract rfl) ⟨rfl, trivial⟩ rfl rfl rfl ?_
    refine HQ.pu (Pu.extract rfl) ⟨rfl, trivial⟩ rfl rfl rfl ?_
    refine HQ.pu Pu.assign ⟨rfl, trivial⟩ rfl rfl rfl ?_
    refine HQ.pu Pu.assign ⟨rfl, trivial⟩ rfl rfl rfl ?_
    refine HQ.done ?_
    refine HQ.keep [(0, _), (1, _), (4, _), (5, _), (6, _)] ⟨rfl, rfl, rfl, rfl, rfl, trivial⟩ ?_
    obtain ⟨h6, H⟩ := asr H
    obtain ⟨h7, H⟩ := asr H
    obtain ⟨h8, H⟩ := asr H
    obtain ⟨h9, H⟩ := asr H
    refine HQ.drawS mixd [(0, .slice a_0 (List.length p0) c_0), (1, .int .i64 p1), (4, BP b1 0), (5, .bool false), (6, .int .i64 t3.1)] 28 [⟨[], [], []⟩, ⟨[], [], []⟩, ⟨[], [], []⟩, ⟨[], [], [2]⟩, ⟨[], [], [1, 3]⟩, ⟨[], [], [4]⟩, ⟨[], [], [5]⟩, ⟨[], [], []⟩, ⟨[], [], []⟩, ⟨[], [], [8]⟩, ⟨[], [], [7, 9]⟩, ⟨[], [], [10]⟩, ⟨[], [], [11]⟩, ⟨[], [], []⟩, ⟨[], [], []⟩, ⟨[], [], [14]⟩, ⟨[], [], [13, 15]⟩, ⟨[], [], [16]⟩, ⟨[], [], [17]⟩, ⟨[], [], []⟩, ⟨[], [], []⟩, ⟨[], [], [20]⟩, ⟨[], [], [19, 21]⟩, ⟨[], [], [22]⟩, ⟨[], [], [23]⟩, ⟨[], [], [6, 12, 18, 24]⟩, ⟨[], [], [0, 25]⟩, ⟨[], [0], []⟩] [⟨some 27, none⟩] (fun (g5 : Nat) => [.int .i64 t3.1, .slice a_0 (List.length p0) c_0, .int .i64 p1, .int .i64 (wrap64 (p1 + 2)), EP a_0 (wrap64 (p1 + 2)) 1 0, .int .u8 (gt p0 (wrap64 (p1 + 2))), .int .i64 (IntKind.i64.wrap (gt p0 (wrap64 (p1 + 2)))), .slice a_0 (List.length p0) c_0, .int .i64 p1, .int .i64 (wrap64 (p1 + 3)), EP a_0 (wrap64 (p1 + 3)) 1 0, .int .u8 (gt p0 (wrap64 (p1 + 3))), .int .i64 (IntKind.i64.wrap (gt p0 (wrap64 (p1 + 3)))), .slice a_0 (List.length p0) c_0, .int .i64 p1, .int .i64 (wrap64 (p1 + 4)), EP a_0 (wrap64 (p1 + 4)) 1 0, .int .u8 (gt p0 (wrap64 (p1 + 4))), .int .i64 (IntKind.i64.wrap (gt p0 (wrap64 (p1 + 4)))), .slice a_0 (List.length p0) c_0, .int .i64 p1, .int .i64 (wrap64 (p1 + 5)), EP a_0 (wrap64 (p1 + 5)) 1 0, .int .u8 (gt p0 (wrap64 (p1 + 5))), .int .i64 (IntKind.i64.wrap (gt p0 (wrap64 (p1 + 5)))), .agg #[.int .i64 (IntKind.i64.wrap (gt p0 (wrap64 (p1 + 2)))), .int .i64 (IntKind.i64.wrap (gt p0 (wrap64 (p1 + 3)))), .int .i64 (IntKind.i64.wrap (gt p0 (wrap64 (p1 + 4)))), .int .i64 (IntKind.i64.wrap (gt p0 (wrap64 (p1 + 5))))], .agg #[.int .i64 t3.1, .int .i64 (IntKind.i64.wrap (gt p0 (wrap64 (p1 + 2)))), .int .i64 (IntKind.i64.wrap (gt p0 (wrap64 (p1 + 3)))), .int .i64 (IntKind.i64.wrap (gt p0 (wrap64 (p1 + 4)))), .int .i64 (IntKind.i64.wrap (gt p0 (wrap64 (p1 + 5))))], BP g5 0]) (fun (g5 : Nat) => [Box g5 [.int .i64 0, .int .i64 0, .int .i64 0, .int .i64 0, .int .i64 0]]) 0 [] [2] [] ⟨rfl, rfl, rfl, rfl, rfl, trivial⟩ trivial rfl (by kernel_rfl) (fun _ => rfl) (by kernel_rfl) (fun _ => rfl) ⟨?_, ?_, ?_, ?_, ?_, ?_, ?_, ?_, ?_, ?_, ?_, ?_, ?_, ?_, ?_, ?_, ?_, ?_, ?_, ?_, ?_, ?_, ?_, ?_, ?_, ?_, ?_, ?_, trivial⟩ fun g5 => ?_
    · exact OpOK.of (fun g5 => [(.tmp 6, .int .i64 t3.1)]) _ _ (fun g5 _ => g5) rfl rfl (fun _ => ⟨rfl, trivial⟩) (fun g5 => Pu.toOT Pu.move) (fun _ _ => ⟨rfl, rfl, ⟨rfl, trivial⟩⟩)
    · exact OpOK.of (fun g5 => [(.tmp 0, .slice a_0 (List.length p0) c_0)]) _ _ (fun g5 _ => g5) rfl rfl (fun _ => ⟨rfl, trivial⟩) (fun g5 => Pu.toOT Pu.move) (fun _ _ => ⟨rfl, rfl, ⟨rfl, trivial⟩⟩)
    · exact OpOK.of (fun g5 => [(.tmp 1, .int .i64 p1)]) _ _ (fun g5 _ => g5) rfl rfl (fun _ => ⟨rfl, trivial⟩) (fun g5 => Pu.toOT Pu.move) (fun _ _ => ⟨rfl, rfl, ⟨rfl, trivial⟩⟩)
    · exact OpOK.of (fun g5 => [(.tmp 27, .int .i64 p1), (.const (.int .i64 2), .int .i64 2)]) _ _ (fun g5 _ => g5) rfl rfl (fun _ => ⟨rfl, rfl, trivial⟩) (fun g5 => Pu.toOT Pu.add) (fun _ _ => ⟨rfl, rfl, ⟨rfl, trivial⟩⟩)
    · exact OpOK.of (fun g5 => [(.tmp 26, .slice a_0 (List.length p0) c_0), (.tmp 28, .int .i64 (wrap64 (p1 + 2)))]) _ _ (fun g5 _ => g5) rfl rfl (fun _ => ⟨rfl, rfl, trivial⟩) (fun g5 => OT.indexB ul22 sz5 hb_0 h6) (fun _ _ => ⟨rfl, rfl, ⟨rfl, trivial⟩⟩)
    · exact OpOK.of (fun g5 => [(.tmp 29, EP a_0 (wrap64 (p1 + 2)) 1 0)]) _ _ (fun g5 _ => g5) rfl rfl (fun _ => ⟨rfl, trivial⟩) (fun g5 => OT.loadF sc5 hb_0 h6 rfl) (fun _ _ => ⟨rfl, rfl, ⟨rfl, trivial⟩⟩)
    · exact OpOK.of (fun g5 => [(.tmp 30, .int .u8 (gt p0 (wrap64 (p1 + 2))))]) _ _ (fun g5 _ => g5) rfl rfl (fun _ => ⟨rfl, trivial⟩) (fun g5 => Pu.toOT (Pu.conv ul5 ul3)) (fun _ _ => ⟨rfl, rfl, ⟨rfl, trivial⟩⟩)
    · exact OpOK.of (fun g5 => [(.tmp 0, .slice a_0 (List.length p0) c_0)]) _ _ (fun g5 _ => g5) rfl rfl (fun _ => ⟨rfl, trivial⟩) (fun g5 => Pu.toOT Pu.move) (fun _ _ => ⟨rfl, rfl, ⟨rfl, trivial⟩⟩)
    · exact OpOK.of (fun g5 => [(.tmp 1, .int .i64 p1)]) _ _ (fun g5 _ => g5) rfl rfl (fun _ => ⟨rfl, trivial⟩) (fun g5 => Pu.toOT Pu.move) (fun _ _ => ⟨rfl, rfl, ⟨rfl, trivial⟩⟩)
    · exact OpOK.of (fun g5 => [(.tmp 33, .int .i64 p1), (.const (.int .i64 3), .int .i64 3)]) _ _ (fun g5 _ => g5) rfl rfl (fun _ => ⟨rfl, rfl, trivial⟩) (fun g5 => Pu.toOT Pu.add) (fun _ _ => ⟨rfl, rfl, ⟨rfl, trivial⟩⟩)
    · exact OpOK.of (fun g5 => [(.tmp 32, .slice a_0 (List.length p0) c_0), (.tmp 34, .int .i64 (wrap64 (p1 + 3)))]) _ _ (fun g5 _ => g5) rfl rfl (fun _ => ⟨rfl, rfl, trivial⟩) (fun g5 => OT.indexB ul22 sz5 hb_0 h7) (fun _ _ => ⟨rfl, rfl, ⟨rfl, trivial⟩⟩)
    · exact OpOK.of (fun g5 => [(.tmp 35, EP a_0 (wrap64 (p1 + 3)) 1 0)]) _ _ (fun g5 _ => g5) rfl rfl (fun _ => ⟨rfl, trivial⟩) (fun g5 => OT.loadF sc5 hb_0 h7 rfl) (fun _ _ => ⟨rfl, rfl, ⟨rfl, trivial⟩⟩)
    · exact OpOK.of (fun g5 => [(.tmp 36, .int .u8 (gt p0 (wrap64 (p1 + 3))))]) _ _ (fun g5 _ => g5) rfl rfl (fun _ => ⟨rfl, trivial⟩) (fun g5 => Pu.toOT (Pu.conv ul5 ul3)) (fun _ _ => ⟨rfl, rfl, ⟨rfl, trivial⟩⟩)
    · exact OpOK.of (fun g5 => [(.tmp 0, .slice a_0 (List.length p0) c_0)]) _ _ (fun g5 _ => g5) rfl rfl (fun _ => ⟨rfl, trivial⟩) (fun g5 => Pu.toOT Pu.move) (fun _ _ => ⟨rfl, rfl, ⟨rfl, trivial⟩⟩)
    · exact OpOK.of (fun g5 => [(.tmp 1, .int .i64 p1)]) _ _ (fun g5 _ => g5) rfl rfl (fun _ => ⟨rfl, trivial⟩) (fun g5 => Pu.toOT Pu.move) (fun _ _ => ⟨rfl, rfl, ⟨rfl, trivial⟩⟩)
    · exact OpOK.of (fun g5 => [(.tmp 39, .int .i64 p1), (.const (.int .i64 4), .int .i64 4)]) _ _ (fun g5 _ => g5) rfl rfl (fun _ => ⟨rfl, rfl, trivial⟩) (fun g5 => Pu.toOT Pu.add) (fun _ _ => ⟨rfl, rfl, ⟨rfl, trivial⟩⟩)
    · exact OpOK.of (fun g5 => [(.tmp 38, .slice a_0 (List.length p0) c_0), (.tmp 40, .int .i64 (wrap64 (p1 + 4)))]) _ _ (fun g5 _ => g5) rfl rfl (fun _ => ⟨rfl, rfl, trivial⟩) (fun g5 => OT.indexB ul22 sz5 hb_0 h8) (fun _ _ => ⟨rfl, rfl, ⟨rfl, trivial⟩⟩)
    · exact OpOK.of (fun g5 => [(.tmp 41, EP a_0 (wrap64 (p1 + 4)) 1 0)]) _ _ (fun g5 _ => g5) rfl rfl (fun _ => ⟨rfl, trivial⟩) (fun g5 => OT.loadF sc5 hb_0 h8 rfl) (fun _ _ => ⟨rfl, rfl, ⟨rfl, trivial⟩⟩)
    · exact OpOK.of (fun g5 => [(.tmp 42, .int .u8 (gt p0 (wrap64 (p1 + 4))))]) _ _ (fun g5 _ => g5) rfl rfl (fun _ => ⟨rfl, trivial⟩) (fun g5 => Pu.toOT (Pu.conv ul5 ul3)) (fun _ _ => ⟨rfl, rfl, ⟨rfl, trivial⟩⟩)
    · exact OpOK.of (fun g5 => [(.tmp 0, .slice a_0 (List.length p0) c_0)]) _ _ (fun g5 _ => g5) rfl rfl (fun _ => ⟨rfl, trivial⟩) (fun g5 => Pu.toOT Pu.move) (fun _ _ => ⟨rfl, rfl, ⟨rfl, trivial⟩⟩)
    · exact OpOK.of (fun g5 => [(.tmp 1, .int .i64 p1)]) _ _ (fun g5 _ => g5) rfl rfl (fun _ => ⟨rfl, trivial⟩) (fun g5 => Pu.toOT Pu.move) (fun _ _ => ⟨rfl, rfl, ⟨rfl, trivial⟩⟩)
    · exact OpOK.of (fun g5 => [(.tmp 45, .int .i64 p1), (.const (.int .i64 5), .int .i64 5)]) _ _ (fun g5 _ => g5) rfl rfl (fun _ => ⟨rfl, rfl, trivial⟩) (fun g5 => Pu.toOT Pu.add) (fun _ _ => ⟨rfl, rfl, ⟨rfl, trivial⟩⟩)
    · exact OpOK.of (fun g5 => [(.tmp 44, .slice a_0 (List.length p0) c_0), (.tmp 46, .int .i64 (wrap64 (p1 + 5)))]) _ _ (fun g5 _ => g5) rfl rfl (fun _ => ⟨rfl, rfl, trivial⟩) (fun g5 => OT.indexB ul22 sz5 hb_0 h9) (fun _ _ => ⟨rfl, rfl, ⟨rfl, trivial⟩⟩)
    · exact OpOK.of (fun g5 => [(.tmp 47, EP a_0 (wrap64 (p1 + 5)) 1 0)]) _ _ (fun g5 _ => g5) rfl rfl (fun _ => ⟨rfl, trivial⟩) (fun g5 => OT.loadF sc5 hb_0 h9 rfl) (fun _ _ => ⟨rfl, rfl, ⟨rfl, trivial⟩⟩)
    · exact OpOK.of (fun g5 => [(.tmp 48, .int .u8 (gt p0 (wrap64 (p1 + 5))))]) _ _ (fun g5 _ => g5) rfl rfl (fun _ => ⟨rfl, trivial⟩) (fun g5 => Pu.toOT (Pu.conv ul5 ul3)) (fun _ _ => ⟨rfl, rfl, ⟨rfl, trivial⟩⟩)
    · exact OpOK.of (fun g5 => [(.tmp 31, .int .i64 (IntKind.i64.wrap (gt p0 (wrap64 (p1 + 2))))), (.tmp 37, .int .i64 (IntKind.i64.wrap (gt p0 (wrap64 (p1 + 3))))), (.tmp 43, .int .i64 (IntKind.i64.wrap (gt p0 (wrap64 (p1 + 4))))), (.tmp 49, .int .i64 (IntKind.i64.wrap (gt p0 (wrap64 (p1 + 5)))))]) _ _ (fun g5 _ => g5) rfl rfl (fun _ => ⟨rfl, rfl, rfl, rfl, trivial⟩) (fun g5 => Pu.toOT (Pu.build (us := [.int .i64 (IntKind.i64.wrap (gt p0 (wrap64 (p1 + 2)))), .int .i64 (IntKind.i64.wrap (gt p0 (wrap64 (p1 + 3)))), .int .i64 (IntKind.i64.wrap (gt p0 (wrap64 (p1 + 4)))), .int .i64 (IntKind.i64.wrap (gt p0 (wrap64 (p1 + 5))))]) (cs := [.int .i64 (IntKind.i64.wrap (gt p0 (wrap64 (p1 + 2)))), .int .i64 (IntKind.i64.wrap (gt p0 (wrap64 (p1 + 3)))), .int .i64 (IntKind.i64.wrap (gt p0 (wrap64 (p1 + 4)))), .int .i64 (IntKind.i64.wrap (gt p0 (wrap64 (p1 + 5))))]) [(0, .tmp 31), (1, .tmp 37), (2, .tmp 43), (3, .tmp 49)] st132 rfl rfl rfl)) (fun _ _ => ⟨rfl, rfl, ⟨rfl, trivial⟩⟩)
    · exact OpOK.of (fun g5 => [(.tmp 25, .int .i64 t3.1), (.tmp 50, .agg #[.int .i64 (IntKind.i64.wrap (gt p0 (wrap64 (p1 + 2)))), .int .i64 (IntKind.i64.wrap (gt p0 (wrap64 (p1 + 3)))), .int .i64 (IntKind.i64.wrap (gt p0 (wrap64 (p1 + 4)))), .int .i64 (IntKind.i64.wrap (gt p0 (wrap64 (p1 + 5))))])]) _ _ (fun g5 _ => g5) rfl rfl (fun _ => ⟨rfl, rfl, trivial⟩) (fun g5 => Pu.toOT (Pu.build (us := [.int .i64 t3.1, .agg #[.int .i64 (IntKind.i64.wrap (gt p0 (wrap64 (p1 + 2)))), .int .i64 (IntKind.i64.wrap (gt p0 (wrap64 (p1 + 3)))), .int .i64 (IntKind.i64.wrap (gt p0 (wrap64 (p1 + 4)))), .int .i64 (IntKind.i64.wrap (gt p0 (wrap64 (p1 + 5))))]]) (cs := [.int .i64 t3.1, .int .i64 (IntKind.i64.wrap (gt p0 (wrap64 (p1 + 2)))), .int .i64 (IntKind.i64.wrap (gt p0 (wrap64 (p1 + 3)))), .int .i64 (IntKind.i64.wrap (gt p0 (wrap64 (p1 + 4)))), .int .i64 (IntKind.i64.wrap (gt p0 (wrap64 (p1 + 5))))]) [(0, .tmp 25), (1, .tmp 50)] st134 rfl rfl rfl)) (fun _ _ => ⟨rfl, rfl, ⟨rfl, trivial⟩⟩)
    · exact OpOK.of (fun g5 => []) _ _ (fun g5 x => x) rfl rfl (fun _ => trivial) (fun g5 => OT.alloc zc134) (fun _ _ => ⟨rfl, rfl, ⟨rfl, trivial⟩⟩)
    refine HQ.keep [(4, _), (5, _), (51, _), (8, _)] ⟨rfl, rfl, rfl, rfl, trivial⟩ ?_
    refine HQ.keepR [(1, _), (2, _)] ⟨rfl, rfl, trivial⟩ rfl ?_
    refine HQ.opN [2] [2] [] (OT.storeC (cs' := [.int .i64 t3.1, .int .i64 (IntKind.i64.wrap (gt p0 (wrap64 (p1 + 2)))), .int .i64 (IntKind.i64.wrap (gt p0 (wrap64 (p1 + 3)))), .int .i64 (IntKind.i64.wrap (gt p0 (wrap64 (p1 + 4)))), .int .i64 (IntKind.i64.wrap (gt p0 (wrap64 (p1 + 5))))]) sz134 rfl rfl rfl rfl rfl) ⟨rfl, rfl, trivial⟩ ⟨rfl, trivial⟩ rfl rfl rfl (fun _ => rfl) fun _ => ?_
    refine HQ.done ?_
    refine HQ.keep [(4, _), (5, _), (8, _)] ⟨rfl, rfl, rfl, trivial⟩ ?_
    refine HQ.seq ?_
    refine HQ.rseq ?_
    refine HQ.pu (Pu.fieldB fo134_1 rfl) ⟨rfl, trivial⟩ rfl rfl rfl ?_
    refine HQ.op [2] [2] (OT.loadBA (vs := [.int .i64 (IntKind.i64.wrap (gt p0 (wrap64 (p1 + 2)))), .int .i64 (IntKind.i64.wrap (gt p0 (wrap64 (p1 + 3)))), .int .i64 (IntKind.i64.wrap (gt p0 (wrap64 (p1 + 4)))), .int .i64 (IntKind.i64.wrap (gt p0 (wrap64 (p1 + 5))))]) ag132 sz132 rfl rfl) ⟨rfl, trivial⟩ ⟨rfl, trivial⟩ rfl rfl rfl rfl (fun _ => rfl) fun _ => ?_
    obtain ⟨t11, h12, H⟩ := bnd H
    refine HQ.op [] [] (OT.call (us := [_]) (Pre := []) [.tmp 53] Try.call109 rfl rfl fun w F hs hF hp => impl_BoxOk_c h12) ⟨rfl, rfl, trivial⟩ trivial rfl rfl rfl rfl (fun _ => rfl) fun _ => ?_
    refine HQ.pu Pu.not ⟨rfl, trivial⟩ rfl rfl rfl ?_
    refine HQ.done ?_
    refine HQ.keep [(4, _), (5, _), (8, _), (55, _)] ⟨rfl, rfl, rfl, rfl, trivial⟩ ?_
    rcases brk H with ⟨hc, H⟩ | ⟨hc, H⟩
    · refine HQ.condT rfl hc ?_
      clear hc
      refine HQ.rseq ?_
      refine HQ.pu (Pu.build (us := []) (cs := [.int .i64 0, .int .i64 0, .int .i64 0, .int .i64 0, .int .i64 0]) [] st134 rfl rfl rfl) trivial rfl rfl rfl ?_
      refine HQ.opN [1] [1] [] (OT.storeC (cs' := [.int .i64 0, .int .i64 0, .int .i64 0, .int .i64 0, .int .i64 0]) sz134 rfl rfl rfl rfl rfl) ⟨rfl, rfl, trivial⟩ ⟨rfl, trivial⟩ rfl rfl rfl (fun _ => rfl) fun _ => ?_
      refine HQ.pu Pu.assign ⟨rfl, trivial⟩ rfl rfl rfl ?_
      refine HQ.done ?_
      refine HQ.keep [(4, _), (5, _), (8, _)] ⟨rfl, rfl, rfl, trivial⟩ ?_
      refine HQ.ret ?_
      refine HQ.thenR ?_
      obtain rfl := Option.some.inj H
      exact HQ.fin (vs := [_, _]) Try.results127 () ⟨⟨_, _, 1, rfl, rfl, ag134, sz134, rfl⟩, rfl, trivial⟩ rfl [] trivial rfl
    · refine HQ.condF rfl hc ?_
      clear hc
      refine HQ.skipThen ?_
      refine HQ.rseq ?_
      refine HQ.op [2] [2] (OT.loadBA (vs := [.int .i64 t3.1, .int .i64 (IntKind.i64.wrap (gt p0 (wrap64 (p1 + 2)))), .int .i64 (IntKind.i64.wrap (gt p0 (wrap64 (p1 + 3)))), .int .i64 (IntKind.i64.wrap (gt p0 (wrap64 (p1 + 4)))), .int .i64 (IntKind.i64.wrap (gt p0 (wrap64 (p1 + 5))))]) ag134 sz134 rfl rfl) ⟨rfl, trivial⟩ ⟨rfl, trivial⟩ rfl rfl rfl rfl (fun _ => rfl) fun _ => ?_
      refine HQ.opN [1] [1] [] (OT.storeC (cs' := [.int .i64 t3.1, .int .i64 (IntKind.i64.wrap (gt p0 (wrap64 (p1 + 2)))), .int .i64 (IntKind.i64.wrap (gt p0 (wrap64 (p1 + 3)))), .int .i64 (IntKind.i64.wrap (gt p0 (wrap64 (p1 + 4)))), .int .i64 (IntKind.i64.wrap (gt p0 (wrap64 (p1 + 5))))]) sz134 rfl rfl rfl rfl rfl) ⟨rfl, rfl, trivial⟩ ⟨rfl, trivial⟩ rfl rfl rfl (fun _ => rfl) fun _ => ?_
      refine HQ.pu Pu.assign ⟨rfl, trivial⟩ rfl rfl rfl ?_
      refine HQ.done ?_
      refine HQ.keep [(4, _), (5, _)] ⟨rfl, rfl, trivial⟩ ?_
      refine HQ.ret ?_
      obtain rfl := Option.some.inj H
      exact HQ.fin (vs := [_, _]) Try.results127 () ⟨⟨_, _, 1, rfl, rfl, ag134, sz134, rfl⟩, rfl, trivial⟩ rfl [] trivial rfl

/-! bytes.Equal -/
theorem bytes_Equal_c {w : World} {p0 : (List Int)} {p1 : (List Int)} {a_0 : Option Addr} {c_0 : Nat} {a_1 : Option Addr} {c_1 : Nat} (hb_0 : BorS kU8 a_0 c_0 p0 w.heap (Lt w Nil)) (hb_1 : BorS kU8 a_1 c_1 p1 w.heap (Lt w Nil)) {r : Bool} (H : bytes_Equal p0 p1 = some r) :
    Calls Try.prog 100 #[.slice a_0 (List.length p0) c_0, .slice a_1 (List.length p1) c_1] w (Rt w Nil (fun _ : Unit => .bool r) (fun _ => [])) := by
  rw [bytes_Equal] at H
  refine Calls.enter0 (N := 10) (us := [_, _]) Try.func100 rfl rfl rfl ?_
  refine HQ.rseq ?_
  refine HQ.pu Pu.assign ⟨rfl, trivial⟩ rfl rfl rfl ?_
  refine HQ.done ?_
  refine HQ.keep [(0, _), (1, _), (4, _)] ⟨rfl, rfl, rfl, trivial⟩ ?_
  refine HQ.rseq ?_
  refine HQ.pu Pu.move ⟨rfl, trivial⟩ rfl rfl rfl ?_
  refine HQ.op [] [] (OT.convS ul22 ul5 ul9 hb_0) ⟨rfl, trivial⟩ trivial rfl rfl rfl rfl (fun _ => rfl) fun _ => ?_
  refine HQ.pu Pu.move ⟨rfl, trivial⟩ rfl rfl rfl ?_
  refine HQ.op [] [] (OT.convS ul22 ul5 ul9 hb_1) ⟨rfl, trivial⟩ trivial rfl rfl rfl rfl (fun _ => rfl) fun _ => ?_
  refine HQ.pu (Pu.eqlS ul9) ⟨rfl, rfl, trivial⟩ rfl rfl rfl ?_
  refine HQ.pu Pu.assign ⟨rfl, trivial⟩ rfl rfl rfl ?_
  refine HQ.done ?_
  refine HQ.keep [(4, _)] ⟨rfl, trivial⟩ ?_
  refine HQ.ret ?_
  obtain rfl := Option.some.inj H
  exact HQ.fin (vs := [_]) Try.results100 () ⟨rfl, trivial⟩ rfl [] trivial rfl

/-! impl.GetNode -/
theorem impl_GetNode_c {w : World} {k : Nat} {p0 : (List Int)} {a_0 : Option Addr} {c_0 : Nat} (hb_0 : BorS kU8 a_0 c_0 p0 w.heap (Lt w Nil)) {r : TNode × Bool} (H : impl_GetNode k p0 = some r) :
    Calls Try.prog 99 #[.slice a_0 (List.length p0) c_0] w (Rt w Nil (fun g : Option Addr × Nat => .tuple #[.agg #[.bool r.1.Leaf, .slice g.1 (List.length r.1.L) g.2], .bool r.2]) (fun g => [OwnS kTEntry g.1 g.2 r.1.L])) := by
  rw [impl_GetNode] at H
  refine Calls.enter0 (N := 56) (us := [_]) Try.func99 rfl rfl rfl ?_
  refine HQ.rseq ?_
  refine HQ.op [] [1] (OT.alloc zc47) trivial trivial rfl rfl rfl rfl (fun _ => rfl) fun b1 => ?_
  refine HQ.pu Pu.assign ⟨rfl, trivial⟩ rfl rfl rfl ?_
  refine HQ.done ?_
  refine HQ.keep [(0, _), (2, _), (3, _)] ⟨rfl, rfl, rfl, trivial⟩ ?_
  refine HQ.seq ?_
  refine HQ.rseq ?_
  refine HQ.pu Pu.move ⟨rfl, trivial⟩ rfl rfl rfl ?_
  refine HQ.pu (Pu.len ul22) ⟨rfl, trivial⟩ rfl rfl rfl ?_
  refine HQ.pu Pu.neq ⟨rfl, rfl, trivial⟩ rfl rfl rfl ?_
  refine HQ.done ?_
  refine HQ.keep [(0, _), (2, _), (3, _), (10, _)] ⟨rfl, rfl, rfl, rfl, trivial⟩ ?_
  rcases brk H with ⟨hc, H⟩ | ⟨hc, H⟩
  · refine HQ.condT rfl hc ?_
    clear hc
    refine HQ.rseq ?_
    refine HQ.pu (Pu.build (us := []) (cs := [.bool false, .slice none 0 0]) [] st47 rfl rfl rfl) trivial rfl rfl rfl ?_
    refine HQ.opN [1] [1] [] (OT.storeC (cs' := [.bool false, .slice none 0 0]) sz47 rfl rfl rfl rfl rfl) ⟨rfl, rfl, trivial⟩ ⟨rfl, trivial⟩ rfl rfl rfl (fun _ => rfl) fun _ => ?_
    refine HQ.pu Pu.assign ⟨rfl, trivial⟩ rfl rfl rfl ?_
    refine HQ.done ?_
    refine HQ.keep [(0, _), (2, _), (3, _)] ⟨rfl, rfl, rfl, trivial⟩ ?_
    refine HQ.ret ?_
    refine HQ.thenR ?_
    obtain rfl := Option.some.inj H
    refine HQ.nil kTEntry 2 rfl ?_
    exact HQ.fin (vs := [_, _]) Try.results99 (none, 0) ⟨⟨_, _, 1, rfl, rfl, ag47, sz47, rfl⟩, rfl, trivial⟩ rfl [2] ⟨rfl, trivial⟩ rfl
  · refine HQ.condF rfl hc ?_
    clear hc
    refine HQ.skipThen ?_
    refine HQ.rseq ?_
    refine HQ.pu Pu.move ⟨rfl, trivial⟩ rfl rfl rfl ?_
    obtain ⟨h2, H⟩ := asr H
    refine HQ.op [] [] (OT.indexB ul22 sz5 hb_0 h2) ⟨rfl, rfl, trivial⟩ trivial rfl rfl rfl rfl (fun _ => rfl) fun _ => ?_
    refine HQ.op [] [] (OT.loadF sc5 hb_0 h2 rfl) ⟨rfl, trivial⟩ trivial rfl rfl rfl rfl (fun _ => rfl) fun _ => ?_
    refine HQ.pu Pu.geq ⟨rfl, rfl, trivial⟩ rfl rfl rfl ?_
    refine HQ.pu (Pu.build (us := [.bool (decide ((gt p0 0) ≥ 16))]) (cs := [.bool (decide ((gt p0 0) ≥ 16)), .slice none 0 0]) [(0, .tmp 15)] st47 rfl rfl rfl) ⟨rfl, trivial⟩ rfl rfl rfl ?_
    refine HQ.op [] [3] (OT.alloc zc47) trivial trivial rfl rfl rfl rfl (fun _ => rfl) fun b3 => ?_
    refine HQ.opN [3] [3] [] (OT.storeC (cs' := [.bool (decide ((gt p0 0) ≥ 16)), .slice none 0 0]) sz47 rfl rfl rfl rfl rfl) ⟨rfl, rfl, trivial⟩ ⟨rfl, trivial⟩ rfl rfl rfl (fun _ => rfl) fun _ => ?_
    refine HQ.done ?_
    refine HQ.keep [(0, _), (2, _), (3, _), (4, _)] ⟨rfl, rfl, rfl, rfl, trivial⟩ ?_
    refine HQ.seq ?_
    refine HQ.rseq ?_
    refine HQ.pu Pu.move ⟨rfl, trivial⟩ rfl rfl rfl ?_
    obtain ⟨h4, H⟩ := asr H
    refine HQ.op [] [] (OT.indexB ul22 sz5 hb_0 h4) ⟨rfl, rfl, trivial⟩ trivial rfl rfl rfl rfl (fun _ => rfl) fun _ => ?_
    refine HQ.op [] [] (OT.loadF sc5 hb_0 h4 rfl) ⟨rfl, trivial⟩ trivial rfl rfl rfl rfl (fun _ => rfl) fun _ => ?_
    refine HQ.pu (Pu.rem8 (by decide)) ⟨rfl, rfl, trivial⟩ rfl rfl rfl ?_
    refine HQ.pu (Pu.conv ul5 ul3) ⟨rfl, trivial⟩ rfl rfl rfl ?_
    refine HQ.pu Pu.min ⟨rfl, rfl, trivial⟩ rfl rfl rfl ?_
    refine HQ.pu Pu.move ⟨rfl, trivial⟩ rfl rfl rfl ?_
    refine HQ.done ?_
    refine HQ.keep [(0, _), (2, _), (3, _), (4, _), (22, _), (23, _)] ⟨rfl, rfl, rfl, rfl, rfl, rfl, trivial⟩ ?_
    refine HQ.block ?_
    refine HQ.nil kTEntry 7 rfl ?_
    obtain ⟨o33, h49, H⟩ := bnd H
    refine HQ.loop h49 0 (fun (s : Int × (List TEntry)) (g : Option Addr × Nat) => match s, g with | (i13, l14), (a15, c16) => [(0, .slice a_0 (List.length p0) c_0), (2, BP b1 0), (3, .bool false), (4, BP b3 0), (22, .int .i64 (if 4 < (IntKind.i64.wrap (Int.tmod (gt p0 0) 16)) then 4 else (IntKind.i64.wrap (Int.tmod (gt p0 0) 16)))), (23, .int .i64 i13)]) (fun (s : Int × (List TEntry)) (g : Option Addr × Nat) => match s, g with | (i13, l14), (a15, c16) => [(1, Box b1 [.bool false, .slice none 0 0]), (3, Box b3 [.bool (decide ((gt p0 0) ≥ 16)), .slice a15 (List.length l14) c16]), (7, OwnS kTEntry a15 c16 l14)]) (fun r => bodyPost Try.prog Try.f99 (Rt w Nil (fun g : Option Addr × Nat => .tuple #[.agg #[.bool r.1.Leaf, .slice g.1 (List.length r.1.L) g.2], .bool r.2]) (fun g => [OwnS kTEntry g.1 g.2 r.1.L])) .ret) (none, 0) ⟨rfl, rfl, rfl, rfl, rfl, rfl, trivial⟩ ⟨rfl, rfl, rfl, trivial⟩ rfl ?_ ?_ ?_
    · clear H h49
      rintro ⟨i13, l14⟩ ⟨a15, c16⟩ o H
      rw [impl_GetNode_b0] at H
      refine HQ.keep [(0, _), (2, _), (3, _), (4, _), (22, _), (23, _)] ⟨rfl, rfl, rfl, rfl, rfl, rfl, trivial⟩ ?_
      refine HQ.keepR [(1, _), (3, _), (7, _)] ⟨rfl, rfl, rfl, trivial⟩ rfl ?_
      refine HQ.rseq ?_
      refine HQ.pu Pu.lss ⟨rfl, rfl, trivial⟩ rfl rfl rfl ?_
      refine HQ.done ?_
      refine HQ.keep [(0, _), (2, _), (3, _), (4, _), (22, _), (23, _), (24, _)] ⟨rfl, rfl, rfl, rfl, rfl, rfl, rfl, trivial⟩ ?_
      refine HQ.seq ?_
      rcases brk H with ⟨hc, H⟩ | ⟨hc, H⟩
      · refine HQ.condT rfl hc ?_
        clear hc
        refine HQ.skipThen ?_
        refine HQ.seq ?_
        refine HQ.block ?_
        refine HQ.rseq ?_
        refine HQ.pu Pu.move ⟨rfl, trivial⟩ rfl rfl rfl ?_
        refine HQ.pu Pu.assign ⟨rfl, trivial⟩ rfl rfl rfl ?_
        refine HQ.done ?_
        refine HQ.keep [(0, _), (2, _), (3, _), (4, _), (22, _), (23, _), (5, _)] ⟨rfl, rfl, rfl, rfl, rfl, rfl, rfl, trivial⟩ ?_
        refine HQ.rseq ?_
        refine HQ.pu Pu.move ⟨rfl, trivial⟩ rfl rfl rfl ?_
        refine HQ.pu Pu.move ⟨rfl, trivial⟩ rfl rfl rfl ?_
        refine HQ.pu Pu.mul ⟨rfl, rfl, trivial⟩ rfl rfl rfl ?_
        refine HQ.pu Pu.add ⟨rfl, rfl, trivial⟩ rfl rfl rfl ?_
        obtain ⟨t25, h26, H⟩ := bnd H
        refine HQ.op [] [] (OT.call (us := [_, _]) (Pre := []) [.tmp 27, .tmp 30] Try.call127 rfl rfl fun w F hs hF hp => impl_GetEntry_c (hb_0.pass hp) h26) ⟨rfl, rfl, rfl, trivial⟩ trivial rfl rfl rfl rfl (fun _ => rfl) fun _ => ?_
        refine HQ.pu Pu.move ⟨rfl, trivial⟩ rfl rfl rfl ?_
        refine HQ.pu (Pu.extract rfl) ⟨rfl, trivial⟩ rfl rfl rfl ?_
        refine HQ.pu (Pu.extract rfl) ⟨rfl, trivial⟩ rfl rfl rfl ?_
        refine HQ.op [] [10] (OT.alloc zc134) trivial trivial rfl rfl rfl rfl (fun _ => rfl) fun b27 => ?_
        refine HQ.opN [10] [10] [] (OT.storeC (cs' := [.int .i64 t25.1.N, .int .i64 t25.1.R.X0, .int .i64 t25.1.R.Y0, .int .i64 t25.1.R.X1, .int .i64 t25.1.R.Y1]) sz134 rfl rfl rfl rfl rfl) ⟨rfl, rfl, trivial⟩ ⟨rfl, trivial⟩ rfl rfl rfl (fun _ => rfl) fun _ => ?_
        refine HQ.pu Pu.assign ⟨rfl, trivial⟩ rfl rfl rfl ?_
        refine HQ.done ?_
        refine HQ.keep [(0, _), (2, _), (3, _), (4, _), (22, _), (23, _), (6, _), (7, _)] ⟨rfl, rfl, rfl, rfl, rfl, rfl, rfl, rfl, trivial⟩ ?_
        refine HQ.seq ?_
        refine HQ.rseq ?_
        refine HQ.pu Pu.move ⟨rfl, trivial⟩ rfl rfl rfl ?_
        refine HQ.pu Pu.not ⟨rfl, trivial⟩ rfl rfl rfl ?_
        refine HQ.done ?_
        refine HQ.keep [(0, _), (2, _), (3, _), (4, _), (22, _), (23, _), (6, _), (35, _)] ⟨rfl, rfl, rfl, rfl, rfl, rfl, rfl, rfl, trivial⟩ ?_
        rcases brk H with ⟨hc, H⟩ | ⟨hc, H⟩
        · refine HQ.condT rfl hc ?_
          clear hc
          refine HQ.rseq ?_
          refine HQ.pu (Pu.build (us := []) (cs := [.bool false, .slice none 0 0]) [] st47 rfl rfl rfl) trivial rfl rfl rfl ?_
          refine HQ.opN [1] [1] [] (OT.storeC (cs' := [.bool false, .slice none 0 0]) sz47 rfl rfl rfl rfl rfl) ⟨rfl, rfl, trivial⟩ ⟨rfl, trivial⟩ rfl rfl rfl (fun _ => rfl) fun _ => ?_
          refine HQ.pu Pu.assign ⟨rfl, trivial⟩ rfl rfl rfl ?_
          refine HQ.done ?_
          refine HQ.keep [(0, _), (2, _), (3, _), (4, _), (22, _), (23, _), (6, _)] ⟨rfl, rfl, rfl, rfl, rfl, rfl, rfl, trivial⟩ ?_
          refine HQ.ret ?_
          refine HQ.thenR ?_
          refine HQ.blkR ?_
          refine HQ.thenR ?_
          obtain rfl := Option.some.inj H
          refine HQ.nil kTEntry 11 rfl ?_
          refine HQ.retL ?_
          exact HQ.fin (vs := [_, _]) Try.results99 (none, 0) ⟨⟨_, _, 1, rfl, rfl, ag47, sz47, rfl⟩, rfl, trivial⟩ rfl [11] ⟨rfl, trivial⟩ rfl
        · refine HQ.condF rfl hc ?_
          clear hc
          refine HQ.skipThen ?_
          refine HQ.regionQ ?_
          refine HQ.pu (Pu.fieldB fo47_1 rfl) ⟨rfl, trivial⟩ rfl rfl rfl ?_
          refine HQ.op [3] [3] (OT.loadB sc45 rfl) ⟨rfl, trivial⟩ ⟨rfl, trivial⟩ rfl rfl rfl rfl (fun _ => rfl) fun _ => ?_
          refine HQ.op [10] [10] (OT.loadBA (vs := [.int .i64 t25.1.N, .int .i64 t25.1.R.X0, .int .i64 t25.1.R.Y0, .int .i64 t25.1.R.X1, .int .i64 t25.1.R.Y1]) ag134 sz134 rfl rfl) ⟨rfl, trivial⟩ ⟨rfl, trivial⟩ rfl rfl rfl rfl (fun _ => rfl) fun _ => ?_
          refine HQ.op [] [12] (OT.buildF (us := [.agg #[.int .i64 t25.1.N, .int .i64 t25.1.R.X0, .int .i64 t25.1.R.Y0, .int .i64 t25.1.R.X1, .int .i64 t25.1.R.Y1]]) (ys := ([t25.1] : (List TEntry))) (enc := encTEntry) (hl := fun _ => ⟨rfl, rfl⟩) [.tmp 39] sl45.ul sl45.szE sl45.zc rfl rfl rfl rfl rfl) ⟨rfl, trivial⟩ trivial rfl rfl rfl rfl (fun _ => rfl) fun ⟨a28, c29⟩ => ?_
          obtain ⟨h32, H⟩ := asr H
          refine HQ.op [7, 12] [7, 12] (OT.appendG (enc := encTEntry) (hl := fun _ => ⟨rfl, rfl⟩) sl45 ul45 h32) ⟨rfl, rfl, trivial⟩ ⟨rfl, rfl, trivial⟩ rfl rfl rfl rfl (fun _ => rfl) fun ⟨a30, c31⟩ => ?_
          refine HQ.pu (Pu.fieldB fo47_1 rfl) ⟨rfl, trivial⟩ rfl rfl rfl ?_
          refine HQ.opN [3] [3] [] (OT.storeC (cs' := [.bool (decide ((gt p0 0) ≥ 16)), .slice a30 (List.length (l14 ++ ([t25.1] : (List TEntry)))) c31]) sz45 rfl rfl rfl rfl rfl) ⟨rfl, rfl, trivial⟩ ⟨rfl, trivial⟩ rfl rfl rfl (fun _ => rfl) fun _ => ?_
          refine HQ.done ?_
          refine HQ.keep [(0, _), (2, _), (3, _), (4, _), (22, _), (23, _)] ⟨rfl, rfl, rfl, rfl, rfl, rfl, trivial⟩ ?_
          refine HQ.blkN ?_
          refine HQ.thenN ?_
          refine HQ.regionQ ?_
          refine HQ.pu Pu.add ⟨rfl, rfl, trivial⟩ rfl rfl rfl ?_
          refine HQ.pu Pu.move ⟨rfl, trivial⟩ rfl rfl rfl ?_
          refine HQ.done ?_
          refine HQ.keep [(0, _), (2, _), (3, _), (4, _), (22, _), (23, _)] ⟨rfl, rfl, rfl, rfl, rfl, rfl, trivial⟩ ?_
          obtain rfl := Option.some.inj H
          exact HQ.next (a30, c31) ⟨rfl, rfl, rfl, rfl, rfl, rfl, trivial⟩ ⟨rfl, rfl, rfl, trivial⟩ rfl
      · refine HQ.condF rfl hc ?_
        clear hc
        refine HQ.exit ?_
        refine HQ.thenE ?_
        obtain rfl := Option.some.inj H
        exact HQ.out (a15, c16) ⟨rfl, rfl, rfl, rfl, rfl, rfl, trivial⟩ ⟨rfl, rfl, rfl, trivial⟩ rfl
    · rintro ⟨i34, l35⟩ rfl ⟨a36, c37⟩
      clear h49
      replace H := H
      refine HQ.keep [(0, _), (2, _), (3, _), (4, _), (22, _), (23, _)] ⟨rfl, rfl, rfl, rfl, rfl, rfl, trivial⟩ ?_
      refine HQ.keepR [(1, _), (3, _), (7, _)] ⟨rfl, rfl, rfl, trivial⟩ rfl ?_
      refine HQ.blkE ?_
      refine HQ.thenN ?_
      refine HQ.seq ?_
      refine HQ.rseq ?_
      refine HQ.op [3] [3] (OT.loadBA (vs := [.bool (decide ((gt p0 0) ≥ 16)), .slice a36 (List.length l35) c37]) ag47 sz47 rfl rfl) ⟨rfl, trivial⟩ ⟨rfl, trivial⟩ rfl rfl rfl rfl (fun _ => rfl) fun _ => ?_
      obtain ⟨t38, h39, H⟩ := bnd H
      refine HQ.op [7] [7] (OT.call (us := [_]) (Pre := [OwnS kTEntry a36 c37 l35]) [.tmp 44] Try.call38 rfl rfl fun w F hs hF hp => impl_NodeOk_c (hs.lend hF 0 rfl) h39) ⟨rfl, rfl, trivial⟩ ⟨rfl, trivial⟩ rfl rfl rfl rfl (fun _ => rfl) fun _ => ?_
      refine HQ.pu Pu.not ⟨rfl, trivial⟩ rfl rfl rfl ?_
      refine HQ.pu Pu.move ⟨rfl, trivial⟩ rfl rfl rfl ?_
      obtain ⟨c47, h48, H⟩ := bnd H
      refine HQ.cutAt 6 [(53, .bool c47), (2, BP b1 0), (3, .bool false), (4, BP b3 0)] [(1, Box b1 [.bool false, .slice none 0 0]), (3, Box b3 [.bool (decide ((gt p0 0) ≥ 16)), .slice a36 (List.length l35) c37]), (7, OwnS kTEntry a36 c37 l35)] ?_ ?_
      · clear H
        have H := h48
        rcases brk H with ⟨hg40, H⟩ | ⟨hg40, H⟩
        · obtain rfl := Option.some.inj H
          refine HQ.off rfl rfl hg40 rfl ?_
          refine HQ.off rfl rfl hg40 rfl ?_
          refine HQ.off rfl rfl hg40 rfl ?_
          refine HQ.off rfl rfl hg40 rfl ?_
          refine HQ.off rfl rfl hg40 rfl ?_
          refine HQ.pu (Pu.pickC1 hg40) ⟨rfl, rfl, trivial⟩ rfl rfl rfl ?_
          exact HQ.mid ⟨rfl, rfl, rfl, rfl, trivial⟩ ⟨rfl, rfl, rfl, trivial⟩ rfl
        · refine HQ.on rfl rfl hg40 ?_
          refine HQ.op [3] [3] (OT.loadBA (vs := [.bool (decide ((gt p0 0) ≥ 16)), .slice a36 (List.length l35) c37]) ag47 sz47 rfl rfl) ⟨rfl, trivial⟩ ⟨rfl, trivial⟩ rfl rfl rfl rfl (fun _ => rfl) fun _ => ?_
          refine HQ.on rfl rfl hg40 ?_
          obtain ⟨t41, h42, H⟩ := bnd H
          refine HQ.op [7] [13, 7] (OT.call (us := [_]) (Pre := [OwnS kTEntry a36 c37 l35]) [.tmp 48] Try.call98 rfl rfl fun w F hs hF hp => impl_PutNode_c (hs.lend hF 0 rfl) h42) ⟨rfl, rfl, trivial⟩ ⟨rfl, trivial⟩ rfl rfl rfl rfl (fun _ => rfl) fun ⟨a43, c44⟩ => ?_
          refine HQ.on rfl rfl hg40 ?_
          refine HQ.pu Pu.move ⟨rfl, trivial⟩ rfl rfl rfl ?_
          refine HQ.on rfl rfl hg40 ?_
          obtain ⟨t45, h46, H⟩ := bnd H
          refine HQ.op [13] [13] (OT.call (us := [_, _]) (Pre := [OwnS kU8 a43 c44 t41]) [.tmp 49, .tmp 50] Try.call100 rfl rfl fun w F hs hF hp => bytes_Equal_c (hs.lend hF 0 rfl) (hb_0.pass hp) h46) ⟨rfl, rfl, rfl, trivial⟩ ⟨rfl, trivial⟩ rfl rfl rfl rfl (fun _ => rfl) fun _ => ?_
          refine HQ.on rfl rfl hg40 ?_
          refine HQ.pu Pu.not ⟨rfl, trivial⟩ rfl rfl rfl ?_
          obtain rfl := Option.some.inj H
          refine HQ.pu (Pu.pickC0 hg40) ⟨rfl, rfl, trivial⟩ rfl rfl rfl ?_
          exact HQ.mid ⟨rfl, rfl, rfl, rfl, trivial⟩ ⟨rfl, rfl, rfl, trivial⟩ rfl
      refine HQ.done ?_
      refine HQ.keep [(53, _), (2, _), (3, _), (4, _)] ⟨rfl, rfl, rfl, rfl, trivial⟩ ?_
      rcases brk H with ⟨hc, H⟩ | ⟨hc, H⟩
      · refine HQ.condT rfl hc ?_
        clear hc
        refine HQ.rseq ?_
        refine HQ.pu (Pu.build (us := []) (cs := [.bool false, .slice none 0 0]) [] st47 rfl rfl rfl) trivial rfl rfl rfl ?_
        refine HQ.opN [1] [1] [] (OT.storeC (cs' := [.bool false, .slice none 0 0]) sz47 rfl rfl rfl rfl rfl) ⟨rfl, rfl, trivial⟩ ⟨rfl, trivial⟩ rfl rfl rfl (fun _ => rfl) fun _ => ?_
        refine HQ.pu Pu.assign ⟨rfl, trivial⟩ rfl rfl rfl ?_
        refine HQ.done ?_
        refine HQ.keep [(2, _), (3, _), (4, _)] ⟨rfl, rfl, rfl, trivial⟩ ?_
        refine HQ.ret ?_
        refine HQ.thenR ?_
        obtain rfl := Option.some.inj H
        refine HQ.nil kTEntry 14 rfl ?_
        exact HQ.fin (vs := [_, _]) Try.results99 (none, 0) ⟨⟨_, _, 1, rfl, rfl, ag47, sz47, rfl⟩, rfl, trivial⟩ rfl [14] ⟨rfl, trivial⟩ rfl
      · refine HQ.condF rfl hc ?_
        clear hc
        refine HQ.skipThen ?_
        refine HQ.rseq ?_
        refine HQ.op [3] [3] (OT.loadBA (vs := [.bool (decide ((gt p0 0) ≥ 16)), .slice a36 (List.length l35) c37]) ag47 sz47 rfl rfl) ⟨rfl, trivial⟩ ⟨rfl, trivial⟩ rfl rfl rfl rfl (fun _ => rfl) fun _ => ?_
        refine HQ.opN [1] [1] [] (OT.storeC (cs' := [.bool (decide ((gt p0 0) ≥ 16)), .slice a36 (List.length l35) c37]) sz47 rfl rfl rfl rfl rfl) ⟨rfl, rfl, trivial⟩ ⟨rfl, trivial⟩ rfl rfl rfl (fun _ => rfl) fun _ => ?_
        refine HQ.pu Pu.assign ⟨rfl, trivial⟩ rfl rfl rfl ?_
        refine HQ.done ?_
        refine HQ.keep [(2, _), (3, _)] ⟨rfl, rfl, trivial⟩ ?_
        refine HQ.ret ?_
        obtain rfl := Option.some.inj H
        exact HQ.fin (vs := [_, _]) Try.results99 (a36, c37) ⟨⟨_, _, 1, rfl, rfl, ag47, sz47, rfl⟩, rfl, trivial⟩ rfl [7] ⟨rfl, trivial⟩ rfl
    · rintro r rfl a w hr
      obtain rfl := Option.some.inj H
      exact hr

end Go.Proofs.Sx
