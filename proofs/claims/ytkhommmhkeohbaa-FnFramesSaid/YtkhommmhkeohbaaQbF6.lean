import Derived.Test.YtkhommmhkeohbaaQbF5
import Derived.KernelRfl
namespace Go.Proofs.Sx
open Go.RowKit
set_option linter.unusedVariables false
set_option linter.unusedSimpArgs false
set_option maxRecDepth 20000
set_option maxHeartbeats 1000000
/-! impl.GetPut -/
theorem impl_GetPut_c {w : World} {k : Nat} {p0 : Int} {p1 : (List Int)} {a_0 : Option Addr} {c_0 : Nat} (hb_0 : BorS kU8 a_0 c_0 p1 w.heap (Lt w Nil)) {r : TChange × Bool} (H : impl_GetPut k p0 p1 = some r) :
    Calls Try.prog 28 #[.int .i64 p0, .slice a_0 (List.length p1) c_0] w (Rt w Nil (fun g : Option Addr × Nat => .tuple #[.agg #[.int .i64 r.1.Page, .bool r.1.N.Leaf, .slice g.1 (List.length r.1.N.L) g.2], .bool r.2]) (fun g => [OwnS kTEntry g.1 g.2 r.1.N.L])) := by
  rw [impl_GetPut] at H
  refine Calls.enter0 (N := 45) (us := [_, _]) Try.func28 rfl rfl rfl ?_
  refine HQ.rseq ?_
  refine HQ.op [] [1] (OT.alloc zc49) trivial trivial rfl rfl rfl rfl (fun _ => rfl) fun b1 => ?_
  refine HQ.pu Pu.assign ⟨rfl, trivial⟩ rfl rfl rfl ?_
  refine HQ.done ?_
  refine HQ.keep [(0, _), (1, _), (4, _), (5, _)] ⟨rfl, rfl, rfl, rfl, trivial⟩ ?_
  refine HQ.seq ?_
  refine HQ.rseq ?_
  refine HQ.pu Pu.move ⟨rfl, trivial⟩ rfl rfl rfl ?_
  refine HQ.pu (Pu.len ul22) ⟨rfl, trivial⟩ rfl rfl rfl ?_
  refine HQ.pu Pu.neq ⟨rfl, rfl, trivial⟩ rfl rfl rfl ?_
  refine HQ.done ?_
  refine HQ.keep [(0, _), (1, _), (4, _), (5, _), (12, _)] ⟨rfl, rfl, rfl, rfl, rfl, trivial⟩ ?_
  rcases brk H with ⟨hc, H⟩ | ⟨hc, H⟩
  · refine HQ.condT rfl hc ?_
    clear hc
    refine HQ.rseq ?_
    refine HQ.pu (Pu.build (us := []) (cs := [.int .i64 0, .bool false, .slice none 0 0]) [] st49 rfl rfl rfl) trivial rfl rfl rfl ?_
    refine HQ.opN [1] [1] [] (OT.storeC (cs' := [.int .i64 0, .bool false, .slice none 0 0]) sz49 rfl rfl rfl rfl rfl) ⟨rfl, rfl, trivial⟩ ⟨rfl, trivial⟩ rfl rfl rfl (fun _ => rfl) fun _ => ?_
    refine HQ.pu Pu.assign ⟨rfl, trivial⟩ rfl rfl rfl ?_
    refine HQ.done ?_
    refine HQ.keep [(0, _), (1, _), (4, _), (5, _)] ⟨rfl, rfl, rfl, rfl, trivial⟩ ?_
    refine HQ.ret ?_
    refine HQ.thenR ?_
    obtain rfl := Option.some.inj H
    refine HQ.nil kTEntry 2 rfl ?_
    exact HQ.fin (vs := [_, _]) Try.results28 (none, 0) ⟨⟨_, _, 1, rfl, rfl, ag49, sz49, rfl⟩, rfl, trivial⟩ rfl [2] ⟨rfl, trivial⟩ rfl
  · refine HQ.condF rfl hc ?_
    clear hc
    refine HQ.skipThen ?_
    refine HQ.rseq ?_
    refine HQ.pu Pu.move ⟨rfl, trivial⟩ rfl rfl rfl ?_
    obtain ⟨h2, H⟩ := asr H
    refine HQ.op [] [] (OT.cutB (vs := [(.const (.int .i64 4), .int .i64 4), (.const (.int .i64 29), .int .i64 29)]) (l := 4) (h := 29) ul22 sz5 hb_0 (.inr ⟨_, _, rfl, .tail _ (.head _)⟩) (.inr ⟨_, _, rfl, .tail _ (.tail _ (.head _))⟩) h2) ⟨rfl, rfl, rfl, trivial⟩ trivial rfl rfl rfl rfl (fun _ => rfl) fun _ => ?_
    obtain ⟨t3, h4, H⟩ := bnd H
    refine HQ.op [] [3] (OT.call (us := [_]) (Pre := []) [.tmp 16] Try.call99 rfl rfl fun w F hs hF hp => impl_GetNode_c ((hb_0.slice h2).pass hp) h4) ⟨rfl, rfl, trivial⟩ trivial rfl rfl rfl rfl (fun _ => rfl) fun ⟨a5, c6⟩ => ?_
    refine HQ.pu Pu.move ⟨rfl, trivial⟩ rfl rfl rfl ?_
    refine HQ.pu (Pu.extract rfl) ⟨rfl, trivial⟩ rfl rfl rfl ?_
    refine HQ.pu (Pu.extract rfl) ⟨rfl, trivial⟩ rfl rfl rfl ?_
    refine HQ.op [] [4] (OT.alloc zc47) trivial trivial rfl rfl rfl rfl (fun _ => rfl) fun b7 => ?_
    refine HQ.opN [4] [4] [] (OT.storeC (cs' := [.bool t3.1.Leaf, .slice a5 (List.length t3.1.L) c6]) sz47 rfl rfl rfl rfl rfl) ⟨rfl, rfl, trivial⟩ ⟨rfl, trivial⟩ rfl rfl rfl (fun _ => rfl) fun _ => ?_
    refine HQ.pu Pu.assign ⟨rfl, trivial⟩ rfl rfl rfl ?_
    refine HQ.done ?_
    refine HQ.keep [(0, _), (1, _), (4, _), (5, _), (6, _), (7, _)] ⟨rfl, rfl, rfl, rfl, rfl, rfl, trivial⟩ ?_
    obtain ⟨h9, H⟩ := asr H
    refine HQ.drawS mixd [(0, .int .i64 p0), (1, .slice a_0 (List.length p1) c_0), (4, BP b1 0), (5, .bool false), (6, BP b7 0), (7, .bool t3.2)] 7 [⟨[], [], []⟩, ⟨[], [], [0]⟩, ⟨[], [], [1]⟩, ⟨[], [], [2]⟩, ⟨[0], [0], []⟩, ⟨[], [], [3, 4]⟩, ⟨[], [1], []⟩] [⟨none, none⟩, ⟨some 6, none⟩] (fun (g8 : Nat) => [.slice a_0 (List.length p1) c_0, EP a_0 3 1 0, .int .u8 (gt p1 3), .int .i64 (IntKind.i64.wrap (gt p1 3)), .agg #[.bool t3.1.Leaf, .slice a5 (List.length t3.1.L) c6], .agg #[.int .i64 (IntKind.i64.wrap (gt p1 3)), .bool t3.1.Leaf, .slice a5 (List.length t3.1.L) c6], BP g8 0]) (fun (g8 : Nat) => [Box b7 [.bool t3.1.Leaf, .slice a5 (List.length t3.1.L) c6], Box g8 [.int .i64 0, .bool false, .slice none 0 0]]) 0 [4] [4, 5] [] ⟨rfl, rfl, rfl, rfl, rfl, rfl, trivial⟩ ⟨rfl, trivial⟩ rfl (by kernel_rfl) (fun _ => rfl) (by kernel_rfl) (fun _ => rfl) ⟨?_, ?_, ?_, ?_, ?_, ?_, ?_, trivial⟩ fun g8 => ?_
    · exact OpOK.of (fun g8 => [(.tmp 1, .slice a_0 (List.length p1) c_0)]) _ _ (fun g8 _ => g8) rfl rfl (fun _ => ⟨rfl, trivial⟩) (fun g8 => Pu.toOT Pu.move) (fun _ _ => ⟨rfl, rfl, ⟨rfl, rfl, trivial⟩⟩)
    · exact OpOK.of (fun g8 => [(.tmp 20, .slice a_0 (List.length p1) c_0), (.const (.int .i64 3), .int .i64 3)]) _ _ (fun g8 _ => g8) rfl rfl (fun _ => ⟨rfl, rfl, trivial⟩) (fun g8 => OT.indexB ul22 sz5 hb_0 h9) (fun _ _ => ⟨rfl, rfl, ⟨rfl, rfl, trivial⟩⟩)
    · exact OpOK.of (fun g8 => [(.tmp 21, EP a_0 3 1 0)]) _ _ (fun g8 _ => g8) rfl rfl (fun _ => ⟨rfl, trivial⟩) (fun g8 => OT.loadF sc5 hb_0 h9 rfl) (fun _ _ => ⟨rfl, rfl, ⟨rfl, rfl, trivial⟩⟩)
    · exact OpOK.of (fun g8 => [(.tmp 22, .int .u8 (gt p1 3))]) _ _ (fun g8 _ => g8) rfl rfl (fun _ => ⟨rfl, trivial⟩) (fun g8 => Pu.toOT (Pu.conv ul5 ul3)) (fun _ _ => ⟨rfl, rfl, ⟨rfl, rfl, trivial⟩⟩)
    · exact OpOK.of (fun g8 => [(.tmp 6, BP b7 0)]) _ _ (fun g8 _ => g8) rfl rfl (fun _ => ⟨rfl, trivial⟩) (fun g8 => OT.loadBA (vs := [.bool t3.1.Leaf, .slice a5 (List.length t3.1.L) c6]) ag47 sz47 rfl rfl) (fun _ _ => ⟨rfl, rfl, ⟨rfl, rfl, trivial⟩⟩)
    · exact OpOK.of (fun g8 => [(.tmp 23, .int .i64 (IntKind.i64.wrap (gt p1 3))), (.tmp 24, .agg #[.bool t3.1.Leaf, .slice a5 (List.length t3.1.L) c6])]) _ _ (fun g8 _ => g8) rfl rfl (fun _ => ⟨rfl, rfl, trivial⟩) (fun g8 => Pu.toOT (Pu.build (us := [.int .i64 (IntKind.i64.wrap (gt p1 3)), .agg #[.bool t3.1.Leaf, .slice a5 (List.length t3.1.L) c6]]) (cs := [.int .i64 (IntKind.i64.wrap (gt p1 3)), .bool t3.1.Leaf, .slice a5 (List.length t3.1.L) c6]) [(0, .tmp 23), (1, .tmp 24)] st49 rfl rfl rfl)) (fun _ _ => ⟨rfl, rfl, ⟨rfl, rfl, trivial⟩⟩)
    · exact OpOK.of (fun g8 => []) _ _ (fun g8 x => x) rfl rfl (fun _ => trivial) (fun g8 => OT.alloc zc49) (fun _ _ => ⟨rfl, rfl, ⟨rfl, rfl, trivial⟩⟩)
    refine HQ.keep [(0, _), (1, _), (4, _), (5, _), (7, _), (25, _), (8, _)] ⟨rfl, rfl, rfl, rfl, rfl, rfl, rfl, trivial⟩ ?_
    refine HQ.keepR [(1, _), (3, _), (4, _), (5, _)] ⟨rfl, rfl, rfl, rfl, trivial⟩ rfl ?_
    refine HQ.opN [5] [5] [] (OT.storeC (cs' := [.int .i64 (IntKind.i64.wrap (gt p1 3)), .bool t3.1.Leaf, .slice a5 (List.length t3.1.L) c6]) sz49 rfl rfl rfl rfl rfl) ⟨rfl, rfl, trivial⟩ ⟨rfl, trivial⟩ rfl rfl rfl (fun _ => rfl) fun _ => ?_
    refine HQ.done ?_
    refine HQ.keep [(0, _), (1, _), (4, _), (5, _), (7, _), (8, _)] ⟨rfl, rfl, rfl, rfl, rfl, rfl, trivial⟩ ?_
    refine HQ.rseq ?_
    refine HQ.pu Pu.move ⟨rfl, trivial⟩ rfl rfl rfl ?_
    refine HQ.op [5] [5] (OT.loadBA (vs := [.int .i64 (IntKind.i64.wrap (gt p1 3)), .bool t3.1.Leaf, .slice a5 (List.length t3.1.L) c6]) ag49 sz49 rfl rfl) ⟨rfl, trivial⟩ ⟨rfl, trivial⟩ rfl rfl rfl rfl (fun _ => rfl) fun _ => ?_
    obtain ⟨t11, h12, H⟩ := bnd H
    refine HQ.op [3] [6, 3] (OT.call (us := [_, _]) (Pre := [OwnS kTEntry a5 c6 t3.1.L]) [.tmp 26, .tmp 27] Try.call27 rfl rfl fun w F hs hF hp => impl_PutCell_c (hs.lend hF 0 rfl) h12) ⟨rfl, rfl, rfl, trivial⟩ ⟨rfl, trivial⟩ rfl rfl rfl rfl (fun _ => rfl) fun ⟨a13, c14⟩ => ?_
    refine HQ.pu Pu.assign ⟨rfl, trivial⟩ rfl rfl rfl ?_
    refine HQ.done ?_
    refine HQ.keep [(1, _), (4, _), (5, _), (7, _), (8, _), (9, _)] ⟨rfl, rfl, rfl, rfl, rfl, rfl, trivial⟩ ?_
    refine HQ.seq ?_
    refine HQ.rseq ?_
    refine HQ.pu Pu.move ⟨rfl, trivial⟩ rfl rfl rfl ?_
    refine HQ.pu Pu.not ⟨rfl, trivial⟩ rfl rfl rfl ?_
    refine HQ.pu Pu.move ⟨rfl, trivial⟩ rfl rfl rfl ?_
    refine HQ.cutAt 4 [(35, .bool ((!t3.2) || (decide (((List.length t11 : Nat) : Int) = 0)))), (1, .slice a_0 (List.length p1) c_0), (4, BP b1 0), (5, .bool false), (8, BP g8 0), (9, .slice a13 (List.length t11) c14)] [(1, Box b1 [.int .i64 0, .bool false, .slice none 0 0]), (3, OwnS kTEntry a5 c6 t3.1.L), (4, Box b7 [.bool t3.1.Leaf, .slice a5 (List.length t3.1.L) c6]), (5, Box g8 [.int .i64 (IntKind.i64.wrap (gt p1 3)), .bool t3.1.Leaf, .slice a5 (List.length t3.1.L) c6]), (6, OwnS kU8 a13 c14 t11)] ?_ ?_
    · rcases Bool.eq_false_or_eq_true (!t3.2) with hg15 | hg15
      · refine HQ.off rfl rfl hg15 rfl ?_
        refine HQ.off rfl rfl hg15 rfl ?_
        refine HQ.off rfl rfl hg15 rfl ?_
        refine HQ.pu (Pu.pickOT (u := (decide (((List.length t11 : Nat) : Int) = 0))) hg15) ⟨rfl, rfl, trivial⟩ rfl rfl rfl ?_
        exact HQ.mid ⟨rfl, rfl, rfl, rfl, rfl, rfl, trivial⟩ ⟨rfl, rfl, rfl, rfl, rfl, trivial⟩ rfl
      · refine HQ.on rfl rfl hg15 ?_
        refine HQ.pu Pu.move ⟨rfl, trivial⟩ rfl rfl rfl ?_
        refine HQ.on rfl rfl hg15 ?_
        refine HQ.pu (Pu.len ul22) ⟨rfl, trivial⟩ rfl rfl rfl ?_
        refine HQ.on rfl rfl hg15 ?_
        refine HQ.pu Pu.eql ⟨rfl, rfl, trivial⟩ rfl rfl rfl ?_
        refine HQ.pu (Pu.pickOF hg15) ⟨rfl, rfl, trivial⟩ rfl rfl rfl ?_
        exact HQ.mid ⟨rfl, rfl, rfl, rfl, rfl, rfl, trivial⟩ ⟨rfl, rfl, rfl, rfl, rfl, trivial⟩ rfl
    refine HQ.pu Pu.move ⟨rfl, trivial⟩ rfl rfl rfl ?_
    obtain ⟨c23, h24, H⟩ := bnd H
    refine HQ.cutAt 6 [(42, .bool c23), (4, BP b1 0), (5, .bool false), (8, BP g8 0)] [(1, Box b1 [.int .i64 0, .bool false, .slice none 0 0]), (3, OwnS kTEntry a5 c6 t3.1.L), (4, Box b7 [.bool t3.1.Leaf, .slice a5 (List.length t3.1.L) c6]), (5, Box g8 [.int .i64 (IntKind.i64.wrap (gt p1 3)), .bool t3.1.Leaf, .slice a5 (List.length t3.1.L) c6]), (6, OwnS kU8 a13 c14 t11)] ?_ ?_
    · clear H
      have H := h24
      rcases brk H with ⟨hg16, H⟩ | ⟨hg16, H⟩
      · obtain rfl := Option.some.inj H
        refine HQ.off rfl rfl hg16 rfl ?_
        refine HQ.off rfl rfl hg16 rfl ?_
        refine HQ.off rfl rfl hg16 rfl ?_
        refine HQ.off rfl rfl hg16 rfl ?_
        refine HQ.off rfl rfl hg16 rfl ?_
        refine HQ.pu (Pu.pickC1 hg16) ⟨rfl, rfl, trivial⟩ rfl rfl rfl ?_
        exact HQ.mid ⟨rfl, rfl, rfl, rfl, trivial⟩ ⟨rfl, rfl, rfl, rfl, rfl, trivial⟩ rfl
      · refine HQ.on rfl rfl hg16 ?_
        refine HQ.pu Pu.move ⟨rfl, trivial⟩ rfl rfl rfl ?_
        refine HQ.on rfl rfl hg16 ?_
        obtain ⟨t17, h18, H⟩ := bnd H
        refine HQ.op [6] [7, 6] (OT.call (us := [_, _]) (Pre := [OwnS kU8 a13 c14 t11]) [.tmp 37, .const (.int .i64 32)] Try.call24 rfl rfl fun w F hs hF hp => impl_Pad_c (hs.lend hF 0 rfl) h18) ⟨rfl, rfl, rfl, trivial⟩ ⟨rfl, trivial⟩ rfl rfl rfl rfl (fun _ => rfl) fun ⟨a19, c20⟩ => ?_
        refine HQ.on rfl rfl hg16 ?_
        refine HQ.pu Pu.move ⟨rfl, trivial⟩ rfl rfl rfl ?_
        refine HQ.on rfl rfl hg16 ?_
        obtain ⟨t21, h22, H⟩ := bnd H
        refine HQ.op [7] [7] (OT.call (us := [_, _]) (Pre := [OwnS kU8 a19 c20 t17]) [.tmp 38, .tmp 39] Try.call100 rfl rfl fun w F hs hF hp => bytes_Equal_c (hs.lend hF 0 rfl) (hb_0.pass hp) h22) ⟨rfl, rfl, rfl, trivial⟩ ⟨rfl, trivial⟩ rfl rfl rfl rfl (fun _ => rfl) fun _ => ?_
        refine HQ.on rfl rfl hg16 ?_
        refine HQ.pu Pu.not ⟨rfl, trivial⟩ rfl rfl rfl ?_
        obtain rfl := Option.some.inj H
        refine HQ.pu (Pu.pickC0 hg16) ⟨rfl, rfl, trivial⟩ rfl rfl rfl ?_
        exact HQ.mid ⟨rfl, rfl, rfl, rfl, trivial⟩ ⟨rfl, rfl, rfl, rfl, rfl, trivial⟩ rfl
    refine HQ.done ?_
    refine HQ.keep [(42, _), (4, _), (5, _), (8, _)] ⟨rfl, rfl, rfl, rfl, trivial⟩ ?_
    rcases brk H with ⟨hc, H⟩ | ⟨hc, H⟩
    · refine HQ.condT rfl hc ?_
      clear hc
      refine HQ.rseq ?_
      refine HQ.pu (Pu.build (us := []) (cs := [.int .i64 0, .bool false, .slice none 0 0]) [] st49 rfl rfl rfl) trivial rfl rfl rfl ?_
      refine HQ.opN [1] [1] [] (OT.storeC (cs' := [.int .i64 0, .bool false, .slice none 0 0]) sz49 rfl rfl rfl rfl rfl) ⟨rfl, rfl, trivial⟩ ⟨rfl, trivial⟩ rfl rfl rfl (fun _ => rfl) fun _ => ?_
      refine HQ.pu Pu.assign ⟨rfl, trivial⟩ rfl rfl rfl ?_
      refine HQ.done ?_
      refine HQ.keep [(4, _), (5, _), (8, _)] ⟨rfl, rfl, rfl, trivial⟩ ?_
      refine HQ.ret ?_
      refine HQ.thenR ?_
      obtain rfl := Option.some.inj H
      refine HQ.nil kTEntry 8 rfl ?_
      exact HQ.fin (vs := [_, _]) Try.results28 (none, 0) ⟨⟨_, _, 1, rfl, rfl, ag49, sz49, rfl⟩, rfl, trivial⟩ rfl [8] ⟨rfl, trivial⟩ rfl
    · refine HQ.condF rfl hc ?_
      clear hc
      refine HQ.skipThen ?_
      refine HQ.rseq ?_
      refine HQ.op [5] [5] (OT.loadBA (vs := [.int .i64 (IntKind.i64.wrap (gt p1 3)), .bool t3.1.Leaf, .slice a5 (List.length t3.1.L) c6]) ag49 sz49 rfl rfl) ⟨rfl, trivial⟩ ⟨rfl, trivial⟩ rfl rfl rfl rfl (fun _ => rfl) fun _ => ?_
      refine HQ.opN [1] [1] [] (OT.storeC (cs' := [.int .i64 (IntKind.i64.wrap (gt p1 3)), .bool t3.1.Leaf, .slice a5 (List.length t3.1.L) c6]) sz49 rfl rfl rfl rfl rfl) ⟨rfl, rfl, trivial⟩ ⟨rfl, trivial⟩ rfl rfl rfl (fun _ => rfl) fun _ => ?_
      refine HQ.pu Pu.assign ⟨rfl, trivial⟩ rfl rfl rfl ?_
      refine HQ.done ?_
      refine HQ.keep [(4, _), (5, _)] ⟨rfl, rfl, trivial⟩ ?_
      refine HQ.ret ?_
      obtain rfl := Option.some.inj H
      exact HQ.fin (vs := [_, _]) Try.results28 (a5, c6) ⟨⟨_, _, 1, rfl, rfl, ag49, sz49, rfl⟩, rfl, trivial⟩ rfl [3] ⟨rfl, trivial⟩ rfl

/-! spec.l19Draw -/
theorem spec_l19Draw_c {w : World} {k : Nat} {p0 : TCur} {β_0 : Nat} {a_0 : Option Addr} {c_0 : Nat} {F0 : Fp} (hs0 : Sat [Box β_0 [.slice a_0 (List.length p0.b) c_0, .int .i64 p0.i, .int .i64 p0.h]] w.heap F0) (hF0 : ∀ b, F0 b → b < w.heap.size) (hb_0 : BorS kU8 a_0 c_0 p0.b w.heap (Lt w F0)) {r : TTx × TCur} (H : spec_l19Draw k p0 = some r) :
    Calls Try.prog 119 #[BP β_0 0] w (Rt w F0 (fun g : Option Addr × Nat => .agg #[.int .i64 r.1.Seq, .int .i64 r.1.Root, .int .i64 r.1.Size, .slice g.1 (List.length r.1.Puts) g.2]) (fun g => [OwnS kTChange g.1 g.2 r.1.Puts, Box β_0 [.slice a_0 (List.length p0.b) c_0, .int .i64 r.2.i, .int .i64 r.2.h]])) := by
  rw [spec_l19Draw] at H
  refine Calls.enter (N := 37) (us := [_]) (F0 := F0) (Γ0 := [(1, Box β_0 [.slice a_0 (List.length p0.b) c_0, .int .i64 p0.i, .int .i64 p0.h])]) Try.func119 rfl rfl rfl hs0 hF0 ?_
  refine HQ.rseq ?_
  refine HQ.op [] [2] (OT.alloc zc57) trivial trivial rfl rfl rfl rfl (fun _ => rfl) fun b1 => ?_
  refine HQ.done ?_
  refine HQ.keep [(0, _), (2, _)] ⟨rfl, rfl, trivial⟩ ?_
  refine HQ.rseq ?_
  refine HQ.pu Pu.move ⟨rfl, trivial⟩ rfl rfl rfl ?_
  obtain ⟨t2, h3, H⟩ := bnd H
  refine HQ.op [1] [1] (OT.callM (us := [_, _]) (PreX := [Box β_0 [.slice a_0 (List.length p0.b) c_0, .int .i64 p0.i, .int .i64 p0.h]]) (PreL := []) [.tmp 6, .const (.int .i64 9)] Try.call86 rfl rfl fun w FX FL hs1 hF1 hs2 hF2 hp => spec_l1Below_c (p0 := p0) (p1 := 9) hs1 hF1 (hb_0.passY hp) h3) ⟨rfl, rfl, rfl, trivial⟩ ⟨rfl, trivial⟩ rfl rfl rfl rfl (fun _ => rfl) fun _ => ?_
  refine HQ.pu Pu.add ⟨rfl, rfl, trivial⟩ rfl rfl rfl ?_
  refine HQ.pu Pu.move ⟨rfl, trivial⟩ rfl rfl rfl ?_
  obtain ⟨t4, h5, H⟩ := bnd H
  refine HQ.op [1] [1] (OT.callM (us := [_, _]) (PreX := [Box β_0 [.slice a_0 (List.length p0.b) c_0, .int .i64 t2.2.i, .int .i64 t2.2.h]]) (PreL := []) [.tmp 9, .const (.int .i64 8)] Try.call86 rfl rfl fun w FX FL hs1 hF1 hs2 hF2 hp => spec_l1Below_c (p0 := (⟨p0.b, t2.2.i, t2.2.h⟩ : TCur)) (p1 := 8) hs1 hF1 (hb_0.passY hp) h5) ⟨rfl, rfl, rfl, trivial⟩ ⟨rfl, trivial⟩ rfl rfl rfl rfl (fun _ => rfl) fun _ => ?_
  refine HQ.pu Pu.add ⟨rfl, rfl, trivial⟩ rfl rfl rfl ?_
  refine HQ.pu (Pu.build (us := [.int .i64 (wrap64 (1 + t2.1)), .int .i64 (wrap64 (2 + t4.1))]) (cs := [.int .i64 (wrap64 (1 + t2.1)), .int .i64 0, .int .i64 (wrap64 (2 + t4.1)), .slice none 0 0]) [(0, .tmp 8), (2, .tmp 11)] st57 rfl rfl rfl) ⟨rfl, rfl, trivial⟩ rfl rfl rfl ?_
  refine HQ.op [] [3] (OT.alloc zc57) trivial trivial rfl rfl rfl rfl (fun _ => rfl) fun b6 => ?_
  refine HQ.opN [3] [3] [] (OT.storeC (cs' := [.int .i64 (wrap64 (1 + t2.1)), .int .i64 0, .int .i64 (wrap64 (2 + t4.1)), .slice none 0 0]) sz57 rfl rfl rfl rfl rfl) ⟨rfl, rfl, trivial⟩ ⟨rfl, trivial⟩ rfl rfl rfl (fun _ => rfl) fun _ => ?_
  refine HQ.done ?_
  refine HQ.keep [(0, _), (2, _), (3, _)] ⟨rfl, rfl, rfl, trivial⟩ ?_
  refine HQ.rseq ?_
  refine HQ.pu Pu.move ⟨rfl, trivial⟩ rfl rfl rfl ?_
  refine HQ.pu (Pu.fieldB fo57_2 rfl) ⟨rfl, trivial⟩ rfl rfl rfl ?_
  refine HQ.op [3] [3] (OT.loadB sc3 rfl) ⟨rfl, trivial⟩ ⟨rfl, trivial⟩ rfl rfl rfl rfl (fun _ => rfl) fun _ => ?_
  obtain ⟨t7, h8, H⟩ := bnd H
  refine HQ.op [1] [1] (OT.callM (us := [_, _]) (PreX := [Box β_0 [.slice a_0 (List.length p0.b) c_0, .int .i64 t4.2.i, .int .i64 t4.2.h]]) (PreL := []) [.tmp 13, .tmp 15] Try.call86 rfl rfl fun w FX FL hs1 hF1 hs2 hF2 hp => spec_l1Below_c (p0 := (⟨p0.b, t4.2.i, t4.2.h⟩ : TCur)) (p1 := (wrap64 (2 + t4.1))) hs1 hF1 (hb_0.passY hp) h8) ⟨rfl, rfl, rfl, trivial⟩ ⟨rfl, trivial⟩ rfl rfl rfl rfl (fun _ => rfl) fun _ => ?_
  refine HQ.pu (Pu.fieldB fo57_1 rfl) ⟨rfl, trivial⟩ rfl rfl rfl ?_
  refine HQ.opN [3] [3] [] (OT.storeC (cs' := [.int .i64 (wrap64 (1 + t2.1)), .int .i64 t7.1, .int .i64 (wrap64 (2 + t4.1)), .slice none 0 0]) sz3 rfl rfl rfl rfl rfl) ⟨rfl, rfl, trivial⟩ ⟨rfl, trivial⟩ rfl rfl rfl (fun _ => rfl) fun _ => ?_
  refine HQ.done ?_
  refine HQ.keep [(0, _), (2, _), (3, _)] ⟨rfl, rfl, rfl, trivial⟩ ?_
  refine HQ.seq ?_
  refine HQ.rseq ?_
  refine HQ.pu Pu.assign ⟨rfl, trivial⟩ rfl rfl rfl ?_
  refine HQ.done ?_
  refine HQ.keep [(0, _), (2, _), (3, _), (4, _)] ⟨rfl, rfl, rfl, rfl, trivial⟩ ?_
  refine HQ.block ?_
  refine HQ.nil kTChange 8 rfl ?_
  obtain ⟨o51, h58, H⟩ := bnd H
  refine HQ.loop h58 0 (fun (s : Int × Int × Int × (List TChange)) (g : Option Addr × Nat) => match s, g with | (i21, i22, i23, l24), (a25, c26) => [(0, BP β_0 0), (2, BP b1 0), (3, BP b6 0), (4, .int .i64 i21)]) (fun (s : Int × Int × Int × (List TChange)) (g : Option Addr × Nat) => match s, g with | (i21, i22, i23, l24), (a25, c26) => [(1, Box β_0 [.slice a_0 (List.length p0.b) c_0, .int .i64 i22, .int .i64 i23]), (2, Box b1 [.int .i64 0, .int .i64 0, .int .i64 0, .slice none 0 0]), (3, Box b6 [.int .i64 (wrap64 (1 + t2.1)), .int .i64 t7.1, .int .i64 (wrap64 (2 + t4.1)), .slice a25 (List.length l24) c26]), (8, OwnS kTChange a25 c26 l24)]) (fun _ _ _ => False) (none, 0) ⟨rfl, rfl, rfl, rfl, trivial⟩ ⟨rfl, rfl, rfl, rfl, trivial⟩ rfl ?_ ?_ ?_
  · clear H h58
    rintro ⟨i21, i22, i23, l24⟩ ⟨a25, c26⟩ o H
    rw [spec_l19Draw_b0] at H
    refine HQ.keep [(0, _), (2, _), (3, _), (4, _)] ⟨rfl, rfl, rfl, rfl, trivial⟩ ?_
    refine HQ.keepR [(1, _), (2, _), (3, _), (8, _)] ⟨rfl, rfl, rfl, rfl, trivial⟩ rfl ?_
    refine HQ.seq ?_
    refine HQ.rseq ?_
    refine HQ.pu Pu.move ⟨rfl, trivial⟩ rfl rfl rfl ?_
    refine HQ.pu (Pu.fieldB fo57_2 rfl) ⟨rfl, trivial⟩ rfl rfl rfl ?_
    refine HQ.op [3] [3] (OT.loadB sc3 rfl) ⟨rfl, trivial⟩ ⟨rfl, trivial⟩ rfl rfl rfl rfl (fun _ => rfl) fun _ => ?_
    refine HQ.pu Pu.lss ⟨rfl, rfl, trivial⟩ rfl rfl rfl ?_
    refine HQ.done ?_
    refine HQ.keep [(0, _), (2, _), (3, _), (4, _), (21, _)] ⟨rfl, rfl, rfl, rfl, rfl, trivial⟩ ?_
    rcases brk H with ⟨hc, H⟩ | ⟨hc, H⟩
    · refine HQ.condT rfl hc ?_
      clear hc
      refine HQ.skipThen ?_
      refine HQ.seq ?_
      refine HQ.block ?_
      refine HQ.rseq ?_
      refine HQ.pu Pu.move ⟨rfl, trivial⟩ rfl rfl rfl ?_
      obtain ⟨t39, h40, H⟩ := bnd H
      refine HQ.op [1] [1] (OT.callM (us := [_, _]) (PreX := [Box β_0 [.slice a_0 (List.length p0.b) c_0, .int .i64 i22, .int .i64 i23]]) (PreL := []) [.tmp 24, .const (.int .i64 3)] Try.call87 rfl rfl fun w FX FL hs1 hF1 hs2 hF2 hp => spec_l1Once_c (p0 := (⟨p0.b, i22, i23⟩ : TCur)) (p1 := 3) hs1 hF1 (hb_0.passY hp) h40) ⟨rfl, rfl, rfl, trivial⟩ ⟨rfl, trivial⟩ rfl rfl rfl rfl (fun _ => rfl) fun _ => ?_
      refine HQ.done ?_
      refine HQ.keep [(0, _), (2, _), (3, _), (4, _), (25, _)] ⟨rfl, rfl, rfl, rfl, rfl, trivial⟩ ?_
      rcases brk H with ⟨hc, H⟩ | ⟨hc, H⟩
      · refine HQ.condT rfl hc ?_
        clear hc
        refine HQ.rseq ?_
        refine HQ.pu Pu.move ⟨rfl, trivial⟩ rfl rfl rfl ?_
        refine HQ.pu Pu.move ⟨rfl, trivial⟩ rfl rfl rfl ?_
        obtain ⟨t41, h42, H⟩ := bnd H
        refine HQ.op [1] [12, 1] (OT.callM (us := [_]) (PreX := [Box β_0 [.slice a_0 (List.length p0.b) c_0, .int .i64 t39.2.i, .int .i64 t39.2.h]]) (PreL := []) [.tmp 27] Try.call124 rfl rfl fun w FX FL hs1 hF1 hs2 hF2 hp => spec_l5Draw_c (p0 := (⟨p0.b, t39.2.i, t39.2.h⟩ : TCur)) hs1 hF1 (hb_0.passY hp) h42) ⟨rfl, rfl, trivial⟩ ⟨rfl, trivial⟩ rfl rfl rfl rfl (fun _ => rfl) fun ⟨a43, c44⟩ => ?_
        refine HQ.pu (Pu.build (us := [.int .i64 i21, .agg #[.bool t41.1.Leaf, .slice a43 (List.length t41.1.L) c44]]) (cs := [.int .i64 i21, .bool t41.1.Leaf, .slice a43 (List.length t41.1.L) c44]) [(0, .tmp 26), (1, .tmp 28)] st49 rfl rfl rfl) ⟨rfl, rfl, trivial⟩ rfl rfl rfl ?_
        refine HQ.op [] [13] (OT.alloc zc49) trivial trivial rfl rfl rfl rfl (fun _ => rfl) fun b45 => ?_
        refine HQ.opN [13] [13] [] (OT.storeC (cs' := [.int .i64 i21, .bool t41.1.Leaf, .slice a43 (List.length t41.1.L) c44]) sz49 rfl rfl rfl rfl rfl) ⟨rfl, rfl, trivial⟩ ⟨rfl, trivial⟩ rfl rfl rfl (fun _ => rfl) fun _ => ?_
        refine HQ.done ?_
        refine HQ.keep [(0, _), (2, _), (3, _), (4, _), (5, _)] ⟨rfl, rfl, rfl, rfl, rfl, trivial⟩ ?_
        refine HQ.regionQ ?_
        refine HQ.pu (Pu.fieldB fo57_3 rfl) ⟨rfl, trivial⟩ rfl rfl rfl ?_
        refine HQ.op [3] [3] (OT.loadB sc55 rfl) ⟨rfl, trivial⟩ ⟨rfl, trivial⟩ rfl rfl rfl rfl (fun _ => rfl) fun _ => ?_
        refine HQ.op [13] [13] (OT.loadBA (vs := [.int .i64 i21, .bool t41.1.Leaf, .slice a43 (List.length t41.1.L) c44]) ag49 sz49 rfl rfl) ⟨rfl, trivial⟩ ⟨rfl, trivial⟩ rfl rfl rfl rfl (fun _ => rfl) fun _ => ?_
        refine HQ.opD [12] [14] [12] (OT.buildO (u := .agg #[.int .i64 i21, .bool t41.1.Leaf, .slice a43 (List.length t41.1.L) c44]) (enc := encTChange) (hl := hlTChange) (sub := fun (x : TChange) => x.N.L) (.tmp 32) (⟨i21, t41.1⟩ : TChange) sl55.ul sl55.szE sl55.zc rfl rfl rfl rfl) ⟨rfl, trivial⟩ ⟨rfl, trivial⟩ rfl rfl rfl rfl (fun _ => rfl) fun ⟨a46, c47⟩ => ?_
        obtain ⟨h50, H⟩ := asr H
        refine HQ.opD [8, 14] [8] [14] (OT.appendO (K := kTChange) sl55 ul55 h50) ⟨rfl, rfl, trivial⟩ ⟨rfl, rfl, trivial⟩ rfl rfl rfl rfl (fun _ => rfl) fun ⟨a48, c49⟩ => ?_
        refine HQ.pu (Pu.fieldB fo57_3 rfl) ⟨rfl, trivial⟩ rfl rfl rfl ?_
        refine HQ.opN [3] [3] [] (OT.storeC (cs' := [.int .i64 (wrap64 (1 + t2.1)), .int .i64 t7.1, .int .i64 (wrap64 (2 + t4.1)), .slice a48 (List.length (l24 ++ ([(⟨i21, t41.1⟩ : TChange)] : (List TChange)))) c49]) sz55 rfl rfl rfl rfl rfl) ⟨rfl, rfl, trivial⟩ ⟨rfl, trivial⟩ rfl rfl rfl (fun _ => rfl) fun _ => ?_
        refine HQ.done ?_
        refine HQ.keep [(0, _), (2, _), (3, _), (4, _)] ⟨rfl, rfl, rfl, rfl, trivial⟩ ?_
        refine HQ.blkN ?_
        refine HQ.thenN ?_
        refine HQ.regionQ ?_
        refine HQ.pu Pu.move ⟨rfl, trivial⟩ rfl rfl rfl ?_
        refine HQ.pu Pu.add ⟨rfl, rfl, trivial⟩ rfl rfl rfl ?_
        refine HQ.pu Pu.assign ⟨rfl, trivial⟩ rfl rfl rfl ?_
        refine HQ.done ?_
        refine HQ.keep [(0, _), (2, _), (3, _), (4, _)] ⟨rfl, rfl, rfl, rfl, trivial⟩ ?_
        obtain rfl := Option.some.inj H
        exact HQ.next (a48, c49) ⟨rfl, rfl, rfl, rfl, trivial⟩ ⟨rfl, rfl, rfl, rfl, trivial⟩ rfl
      · refine HQ.condF rfl hc ?_
        clear hc
        refine HQ.skip ?_
        refine HQ.blkN ?_
        refine HQ.thenN ?_
        refine HQ.regionQ ?_
        refine HQ.pu Pu.move ⟨rfl, trivial⟩ rfl rfl rfl ?_
        refine HQ.pu Pu.add ⟨rfl, rfl, trivial⟩ rfl rfl rfl ?_
        refine HQ.pu Pu.assign ⟨rfl, trivial⟩ rfl rfl rfl ?_
        refine HQ.done ?_
        refine HQ.keep [(0, _), (2, _), (3, _), (4, _)] ⟨rfl, rfl, rfl, rfl, trivial⟩ ?_
        obtain rfl := Option.some.inj H
        exact HQ.next (a25, c26) ⟨rfl, rfl, rfl, rfl, trivial⟩ ⟨rfl, rfl, rfl, rfl, trivial⟩ rfl
    · refine HQ.condF rfl hc ?_
      clear hc
      refine HQ.exit ?_
      refine HQ.thenE ?_
      obtain rfl := Option.some.inj H
      exact HQ.out (a25, c26) ⟨rfl, rfl, rfl, rfl, trivial⟩ ⟨rfl, rfl, rfl, rfl, trivial⟩ rfl
  · rintro ⟨i52, i53, i54, l55⟩ rfl ⟨a56, c57⟩
    clear h58
    replace H := H
    refine HQ.keep [(0, _), (2, _), (3, _), (4, _)] ⟨rfl, rfl, rfl, rfl, trivial⟩ ?_
    refine HQ.keepR [(1, _), (2, _), (3, _), (8, _)] ⟨rfl, rfl, rfl, rfl, trivial⟩ rfl ?_
    refine HQ.blkE ?_
    refine HQ.thenN ?_
    refine HQ.rseq ?_
    refine HQ.op [3] [3] (OT.loadBA (vs := [.int .i64 (wrap64 (1 + t2.1)), .int .i64 t7.1, .int .i64 (wrap64 (2 + t4.1)), .slice a56 (List.length l55) c57]) ag57 sz57 rfl rfl) ⟨rfl, trivial⟩ ⟨rfl, trivial⟩ rfl rfl rfl rfl (fun _ => rfl) fun _ => ?_
    refine HQ.opN [2] [2] [] (OT.storeC (cs' := [.int .i64 (wrap64 (1 + t2.1)), .int .i64 t7.1, .int .i64 (wrap64 (2 + t4.1)), .slice a56 (List.length l55) c57]) sz57 rfl rfl rfl rfl rfl) ⟨rfl, rfl, trivial⟩ ⟨rfl, trivial⟩ rfl rfl rfl (fun _ => rfl) fun _ => ?_
    refine HQ.done ?_
    refine HQ.keep [(2, _)] ⟨rfl, trivial⟩ ?_
    refine HQ.ret ?_
    obtain rfl := Option.some.inj H
    exact HQ.fin (vs := [_]) Try.results119 (a56, c57) ⟨⟨_, _, 2, rfl, rfl, ag57, sz57, rfl⟩, trivial⟩ rfl [8, 1] ⟨rfl, rfl, trivial⟩ rfl
  · exact fun r h a w hf => hf.elim

/-! spec.l19Any -/
theorem spec_l19Any_c {w : World} {k : Nat} {p0 : TCur} {β_0 : Nat} {a_0 : Option Addr} {c_0 : Nat} {F0 : Fp} (hs0 : Sat [Box β_0 [.slice a_0 (List.length p0.b) c_0, .int .i64 p0.i, .int .i64 p0.h]] w.heap F0) (hF0 : ∀ b, F0 b → b < w.heap.size) (hb_0 : BorS kU8 a_0 c_0 p0.b w.heap (Lt w F0)) {r : TTx × TCur} (H : spec_l19Any k p0 = some r) :
    Calls Try.prog 101 #[BP β_0 0] w (Rt w F0 (fun g : Option Addr × Nat => .agg #[.int .i64 r.1.Seq, .int .i64 r.1.Root, .int .i64 r.1.Size, .slice g.1 (List.length r.1.Puts) g.2]) (fun g => [OwnS kTChange g.1 g.2 r.1.Puts, Box β_0 [.slice a_0 (List.length p0.b) c_0, .int .i64 r.2.i, .int .i64 r.2.h]])) := by
  rw [spec_l19Any] at H
  refine Calls.enter (N := 41) (us := [_]) (F0 := F0) (Γ0 := [(1, Box β_0 [.slice a_0 (List.length p0.b) c_0, .int .i64 p0.i, .int .i64 p0.h])]) Try.func101 rfl rfl rfl hs0 hF0 ?_
  refine HQ.rseq ?_
  refine HQ.op [] [2] (OT.alloc zc57) trivial trivial rfl rfl rfl rfl (fun _ => rfl) fun b1 => ?_
  refine HQ.done ?_
  refine HQ.keep [(0, _), (2, _)] ⟨rfl, rfl, trivial⟩ ?_
  refine HQ.rseq ?_
  refine HQ.pu Pu.move ⟨rfl, trivial⟩ rfl rfl rfl ?_
  obtain ⟨t2, h3, H⟩ := bnd H
  refine HQ.op [1] [3, 1] (OT.callM (us := [_]) (PreX := [Box β_0 [.slice a_0 (List.length p0.b) c_0, .int .i64 p0.i, .int .i64 p0.h]]) (PreL := []) [.tmp 4] Try.call119 rfl rfl fun w FX FL hs1 hF1 hs2 hF2 hp => spec_l19Draw_c (p0 := p0) hs1 hF1 (hb_0.passY hp) h3) ⟨rfl, rfl, trivial⟩ ⟨rfl, trivial⟩ rfl rfl rfl rfl (fun _ => rfl) fun ⟨a4, c5⟩ => ?_
  refine HQ.op [] [4] (OT.alloc zc57) trivial trivial rfl rfl rfl rfl (fun _ => rfl) fun b6 => ?_
  refine HQ.opN [4] [4] [] (OT.storeC (cs' := [.int .i64 t2.1.Seq, .int .i64 t2.1.Root, .int .i64 t2.1.Size, .slice a4 (List.length t2.1.Puts) c5]) sz57 rfl rfl rfl rfl rfl) ⟨rfl, rfl, trivial⟩ ⟨rfl, trivial⟩ rfl rfl rfl (fun _ => rfl) fun _ => ?_
  refine HQ.done ?_
  refine HQ.keep [(0, _), (2, _), (3, _)] ⟨rfl, rfl, rfl, trivial⟩ ?_
  refine HQ.seq ?_
  refine HQ.rseq ?_
  refine HQ.pu Pu.move ⟨rfl, trivial⟩ rfl rfl rfl ?_
  obtain ⟨t7, h8, H⟩ := bnd H
  refine HQ.op [1] [1] (OT.callM (us := [_, _]) (PreX := [Box β_0 [.slice a_0 (List.length p0.b) c_0, .int .i64 t2.2.i, .int .i64 t2.2.h]]) (PreL := []) [.tmp 6, .const (.int .i64 12)] Try.call86 rfl rfl fun w FX FL hs1 hF1 hs2 hF2 hp => spec_l1Below_c (p0 := (⟨p0.b, t2.2.i, t2.2.h⟩ : TCur)) (p1 := 12) hs1 hF1 (hb_0.passY hp) h8) ⟨rfl, rfl, rfl, trivial⟩ ⟨rfl, trivial⟩ rfl rfl rfl rfl (fun _ => rfl) fun _ => ?_
  refine HQ.done ?_
  refine HQ.keep [(0, _), (2, _), (3, _), (7, _)] ⟨rfl, rfl, rfl, rfl, trivial⟩ ?_
  refine HQ.block ?_
  refine HQ.rseq ?_
  refine HQ.pu Pu.eql ⟨rfl, rfl, trivial⟩ rfl rfl rfl ?_
  refine HQ.pu Pu.assign ⟨rfl, trivial⟩ rfl rfl rfl ?_
  refine HQ.done ?_
  refine HQ.keep [(0, _), (2, _), (3, _), (7, _), (8, _)] ⟨rfl, rfl, rfl, rfl, rfl, trivial⟩ ?_
  rcases brk H with ⟨hc, H⟩ | ⟨hc, H⟩
  · refine HQ.condT rfl hc ?_
    clear hc
    refine HQ.regionQ ?_
    refine HQ.pu Pu.move ⟨rfl, trivial⟩ rfl rfl rfl ?_
    refine HQ.op [] [5] (OT.buildF (us := [.int .i64 0, .int .i64 65535, .int .i64 65536]) (ys := ([0, 65535, 65536] : (List Int))) (enc := (encI .i64)) (hl := fun _ => ⟨rfl, rfl⟩) [.const (.int .i64 0), .const (.int .i64 65535), .const (.int .i64 65536)] sl33.ul sl33.szE sl33.zc rfl rfl rfl rfl rfl) ⟨rfl, rfl, rfl, trivial⟩ trivial rfl rfl rfl rfl (fun _ => rfl) fun ⟨a9, c10⟩ => ?_
    obtain ⟨t11, h12, H⟩ := bnd H
    refine HQ.op [1, 5] [1, 5] (OT.callM (us := [_, _]) (PreX := [Box β_0 [.slice a_0 (List.length p0.b) c_0, .int .i64 t7.2.i, .int .i64 t7.2.h]]) (PreL := [OwnS kI a9 c10 ([0, 65535, 65536] : (List Int))]) [.tmp 10, .tmp 11] Try.call79 rfl rfl fun w FX FL hs1 hF1 hs2 hF2 hp => spec_l1Int_c (p0 := (⟨p0.b, t7.2.i, t7.2.h⟩ : TCur)) (p1 := ([0, 65535, 65536] : (List Int))) hs1 hF1 (hb_0.passY hp) (hs2.lendY hF2 0 rfl) h12) ⟨rfl, rfl, rfl, trivial⟩ ⟨rfl, rfl, trivial⟩ rfl rfl rfl rfl (fun _ => rfl) fun _ => ?_
    refine HQ.pu (Pu.fieldB fo57_0 rfl) ⟨rfl, trivial⟩ rfl rfl rfl ?_
    refine HQ.opN [4] [4] [] (OT.storeC (cs' := [.int .i64 t11.1, .int .i64 t2.1.Root, .int .i64 t2.1.Size, .slice a4 (List.length t2.1.Puts) c5]) sz3 rfl rfl rfl rfl rfl) ⟨rfl, rfl, trivial⟩ ⟨rfl, trivial⟩ rfl rfl rfl (fun _ => rfl) fun _ => ?_
    refine HQ.done ?_
    refine HQ.keep [(2, _), (3, _)] ⟨rfl, rfl, trivial⟩ ?_
    refine HQ.blkN ?_
    refine HQ.thenN ?_
    refine HQ.rseq ?_
    refine HQ.op [4] [4] (OT.loadBA (vs := [.int .i64 t11.1, .int .i64 t2.1.Root, .int .i64 t2.1.Size, .slice a4 (List.length t2.1.Puts) c5]) ag57 sz57 rfl rfl) ⟨rfl, trivial⟩ ⟨rfl, trivial⟩ rfl rfl rfl rfl (fun _ => rfl) fun _ => ?_
    refine HQ.opN [2] [2] [] (OT.storeC (cs' := [.int .i64 t11.1, .int .i64 t2.1.Root, .int .i64 t2.1.Size, .slice a4 (List.length t2.1.Puts) c5]) sz57 rfl rfl rfl rfl rfl) ⟨rfl, rfl, trivial⟩ ⟨rfl, trivial⟩ rfl rfl rfl (fun _ => rfl) fun _ => ?_
    refine HQ.done ?_
    refine HQ.keep [(2, _)] ⟨rfl, trivial⟩ ?_
    refine HQ.ret ?_
    obtain rfl := Option.some.inj H
    exact HQ.fin (vs := [_]) Try.results101 (a4, c5) ⟨⟨_, _, 2, rfl, rfl, ag57, sz57, rfl⟩, trivial⟩ rfl [3, 1] ⟨rfl, rfl, trivial⟩ rfl
  · refine HQ.condF rfl hc ?_
    clear hc
    refine HQ.rseq ?_
    refine HQ.pu Pu.eql ⟨rfl, rfl, trivial⟩ rfl rfl rfl ?_
    refine HQ.pu Pu.assign ⟨rfl, trivial⟩ rfl rfl rfl ?_
    refine HQ.done ?_
    refine HQ.keep [(0, _), (2, _), (3, _), (7, _), (14, _)] ⟨rfl, rfl, rfl, rfl, rfl, trivial⟩ ?_
    rcases brk H with ⟨hc, H⟩ | ⟨hc, H⟩
    · refine HQ.condT rfl hc ?_
      clear hc
      refine HQ.regionQ ?_
      refine HQ.pu Pu.move ⟨rfl, trivial⟩ rfl rfl rfl ?_
      refine HQ.op [] [6] (OT.buildF (us := [.int .i64 0, .int .i64 1, .int .i64 48, .int .i64 49]) (ys := ([0, 1, 48, 49] : (List Int))) (enc := (encI .i64)) (hl := fun _ => ⟨rfl, rfl⟩) [.const (.int .i64 0), .const (.int .i64 1), .const (.int .i64 48), .const (.int .i64 49)] sl33.ul sl33.szE sl33.zc rfl rfl rfl rfl rfl) ⟨rfl, rfl, rfl, rfl, trivial⟩ trivial rfl rfl rfl rfl (fun _ => rfl) fun ⟨a13, c14⟩ => ?_
      obtain ⟨t15, h16, H⟩ := bnd H
      refine HQ.op [1, 6] [1, 6] (OT.callM (us := [_, _]) (PreX := [Box β_0 [.slice a_0 (List.length p0.b) c_0, .int .i64 t7.2.i, .int .i64 t7.2.h]]) (PreL := [OwnS kI a13 c14 ([0, 1, 48, 49] : (List Int))]) [.tmp 16, .tmp 17] Try.call79 rfl rfl fun w FX FL hs1 hF1 hs2 hF2 hp => spec_l1Int_c (p0 := (⟨p0.b, t7.2.i, t7.2.h⟩ : TCur)) (p1 := ([0, 1, 48, 49] : (List Int))) hs1 hF1 (hb_0.passY hp) (hs2.lendY hF2 0 rfl) h16) ⟨rfl, rfl, rfl, trivial⟩ ⟨rfl, rfl, trivial⟩ rfl rfl rfl rfl (fun _ => rfl) fun _ => ?_
      refine HQ.pu (Pu.fieldB fo57_2 rfl) ⟨rfl, trivial⟩ rfl rfl rfl ?_
      refine HQ.opN [4] [4] [] (OT.storeC (cs' := [.int .i64 t2.1.Seq, .int .i64 t2.1.Root, .int .i64 t15.1, .slice a4 (List.length t2.1.Puts) c5]) sz3 rfl rfl rfl rfl rfl) ⟨rfl, rfl, trivial⟩ ⟨rfl, trivial⟩ rfl rfl rfl (fun _ => rfl) fun _ => ?_
      refine HQ.done ?_
      refine HQ.keep [(2, _), (3, _)] ⟨rfl, rfl, trivial⟩ ?_
      refine HQ.blkN ?_
      refine HQ.thenN ?_
      refine HQ.rseq ?_
      refine HQ.op [4] [4] (OT.loadBA (vs := [.int .i64 t2.1.Seq, .int .i64 t2.1.Root, .int .i64 t15.1, .slice a4 (List.length t2.1.Puts) c5]) ag57 sz57 rfl rfl) ⟨rfl, trivial⟩ ⟨rfl, trivial⟩ rfl rfl rfl rfl (fun _ => rfl) fun _ => ?_
      refine HQ.opN [2] [2] [] (OT.storeC (cs' := [.int .i64 t2.1.Seq, .int .i64 t2.1.Root, .int .i64 t15.1, .slice a4 (List.length t2.1.Puts) c5]) sz57 rfl rfl rfl rfl rfl) ⟨rfl, rfl, trivial⟩ ⟨rfl, trivial⟩ rfl rfl rfl (fun _ => rfl) fun _ => ?_
      refine HQ.done ?_
      refine HQ.keep [(2, _)] ⟨rfl, trivial⟩ ?_
      refine HQ.ret ?_
      obtain rfl := Option.some.inj H
      exact HQ.fin (vs := [_]) Try.results101 (a4, c5) ⟨⟨_, _, 2, rfl, rfl, ag57, sz57, rfl⟩, trivial⟩ rfl [3, 1] ⟨rfl, rfl, trivial⟩ rfl
    · refine HQ.condF rfl hc ?_
      clear hc
      refine HQ.rseq ?_
      refine HQ.pu Pu.eql ⟨rfl, rfl, trivial⟩ rfl rfl rfl ?_
      refine HQ.pu Pu.assign ⟨rfl, trivial⟩ rfl rfl rfl ?_
      refine HQ.done ?_
      refine HQ.keep [(0, _), (2, _), (3, _), (7, _), (20, _)] ⟨rfl, rfl, rfl, rfl, rfl, trivial⟩ ?_
      rcases brk H with ⟨hc, H⟩ | ⟨hc, H⟩
      · refine HQ.condT rfl hc ?_
        clear hc
        refine HQ.regionQ ?_
        refine HQ.pu Pu.move ⟨rfl, trivial⟩ rfl rfl rfl ?_
        refine HQ.pu (Pu.fieldB fo57_2 rfl) ⟨rfl, trivial⟩ rfl rfl rfl ?_
        refine HQ.op [4] [4] (OT.loadB sc3 rfl) ⟨rfl, trivial⟩ ⟨rfl, trivial⟩ rfl rfl rfl rfl (fun _ => rfl) fun _ => ?_
        refine HQ.op [] [7] (OT.buildF (us := [.int .i64 (-1), .int .i64 t2.1.Size]) (ys := ([(-1), t2.1.Size] : (List Int))) (enc := (encI .i64)) (hl := fun _ => ⟨rfl, rfl⟩) [.const (.int .i64 (-1)), .tmp 24] sl33.ul sl33.szE sl33.zc rfl rfl rfl rfl rfl) ⟨rfl, rfl, trivial⟩ trivial rfl rfl rfl rfl (fun _ => rfl) fun ⟨a17, c18⟩ => ?_
        obtain ⟨t19, h20, H⟩ := bnd H
        refine HQ.op [1, 7] [1, 7] (OT.callM (us := [_, _]) (PreX := [Box β_0 [.slice a_0 (List.length p0.b) c_0, .int .i64 t7.2.i, .int .i64 t7.2.h]]) (PreL := [OwnS kI a17 c18 ([(-1), t2.1.Size] : (List Int))]) [.tmp 22, .tmp 25] Try.call79 rfl rfl fun w FX FL hs1 hF1 hs2 hF2 hp => spec_l1Int_c (p0 := (⟨p0.b, t7.2.i, t7.2.h⟩ : TCur)) (p1 := ([(-1), t2.1.Size] : (List Int))) hs1 hF1 (hb_0.passY hp) (hs2.lendY hF2 0 rfl) h20) ⟨rfl, rfl, rfl, trivial⟩ ⟨rfl, rfl, trivial⟩ rfl rfl rfl rfl (fun _ => rfl) fun _ => ?_
        refine HQ.pu (Pu.fieldB fo57_1 rfl) ⟨rfl, trivial⟩ rfl rfl rfl ?_
        refine HQ.opN [4] [4] [] (OT.storeC (cs' := [.int .i64 t2.1.Seq, .int .i64 t19.1, .int .i64 t2.1.Size, .slice a4 (List.length t2.1.Puts) c5]) sz3 rfl rfl rfl rfl rfl) ⟨rfl, rfl, trivial⟩ ⟨rfl, trivial⟩ rfl rfl rfl (fun _ => rfl) fun _ => ?_
        refine HQ.done ?_
        refine HQ.keep [(2, _), (3, _)] ⟨rfl, rfl, trivial⟩ ?_
        refine HQ.blkN ?_
        refine HQ.thenN ?_
        refine HQ.rseq ?_
        refine HQ.op [4] [4] (OT.loadBA (vs := [.int .i64 t2.1.Seq, .int .i64 t19.1, .int .i64 t2.1.Size, .slice a4 (List.length t2.1.Puts) c5]) ag57 sz57 rfl rfl) ⟨rfl, trivial⟩ ⟨rfl, trivial⟩ rfl rfl rfl rfl (fun _ => rfl) fun _ => ?_
        refine HQ.opN [2] [2] [] (OT.storeC (cs' := [.int .i64 t2.1.Seq, .int .i64 t19.1, .int .i64 t2.1.Size, .slice a4 (List.length t2.1.Puts) c5]) sz57 rfl rfl rfl rfl rfl) ⟨rfl, rfl, trivial⟩ ⟨rfl, trivial⟩ rfl rfl rfl (fun _ => rfl) fun _ => ?_
        refine HQ.done ?_
        refine HQ.keep [(2, _)] ⟨rfl, trivial⟩ ?_
        refine HQ.ret ?_
        obtain rfl := Option.some.inj H
        exact HQ.fin (vs := [_]) Try.results101 (a4, c5) ⟨⟨_, _, 2, rfl, rfl, ag57, sz57, rfl⟩, trivial⟩ rfl [3, 1] ⟨rfl, rfl, trivial⟩ rfl
      · refine HQ.condF rfl hc ?_
        clear hc
        refine HQ.rseq ?_
        refine HQ.pu Pu.eql ⟨rfl, rfl, trivial⟩ rfl rfl rfl ?_
        refine HQ.pu Pu.assign ⟨rfl, trivial⟩ rfl rfl rfl ?_
        refine HQ.done ?_
        refine HQ.keep [(0, _), (2, _), (3, _), (28, _)] ⟨rfl, rfl, rfl, rfl, trivial⟩ ?_
        rcases brk H with ⟨hc, H⟩ | ⟨hc, H⟩
        · refine HQ.condT rfl hc ?_
          clear hc
          refine HQ.dStart mixd ?_
          obtain ⟨t22, h23, H⟩ := bnd H
          obtain ⟨t24, h25, H⟩ := bnd H
          refine HQ.dPart [(0, BP β_0 0), (2, BP b1 0), (3, BP b6 0)] 8 [⟨[], [], []⟩, ⟨[0], [0], [0]⟩, ⟨[], [], []⟩, ⟨[1], [2], [2]⟩, ⟨[], [], []⟩, ⟨[2], [3, 4], [4]⟩, ⟨[], [], [3, 5]⟩, ⟨[3], [5], [6]⟩] [⟨none, none⟩, ⟨none, some 3⟩, ⟨some 3, some 5⟩, ⟨some 5, some 7⟩, ⟨some 5, none⟩, ⟨some 7, none⟩] (fun (g21 : (Option Addr × Nat) × (Option Addr × Nat)) => [BP b6 3, .slice a4 (List.length t2.1.Puts) c5, BP β_0 0, .int .i64 t22.1, BP β_0 0, .agg #[.bool t24.1.Leaf, .slice g21.1.1 (List.length t24.1.L) g21.1.2], .agg #[.int .i64 t22.1, .bool t24.1.Leaf, .slice g21.1.1 (List.length t24.1.L) g21.1.2], .slice g21.2.1 (List.length ([(⟨t22.1, t24.1⟩ : TChange)] : (List TChange))) g21.2.2]) (fun (g21 : (Option Addr × Nat) × (Option Addr × Nat)) => [Box b6 [.int .i64 t2.1.Seq, .int .i64 t2.1.Root, .int .i64 t2.1.Size, .slice a4 (List.length t2.1.Puts) c5], Box β_0 [.slice a_0 (List.length p0.b) c_0, .int .i64 t7.2.i, .int .i64 t7.2.h], Box β_0 [.slice a_0 (List.length p0.b) c_0, .int .i64 t22.2.i, .int .i64 t22.2.h], OwnS kTEntry g21.1.1 g21.1.2 t24.1.L, Box β_0 [.slice a_0 (List.length p0.b) c_0, .int .i64 t24.2.i, .int .i64 t24.2.h], OwnS kTChange g21.2.1 g21.2.2 ([(⟨t22.1, t24.1⟩ : TChange)] : (List TChange))]) ((none, 0), (none, 0)) [4, 1] [4, 1, 9] [] ⟨rfl, rfl, rfl, trivial⟩ ⟨rfl, rfl, trivial⟩ rfl (by kernel_rfl) (by kernel_rfl) (fun _ => rfl) (by kernel_rfl) (fun _ => rfl) rfl ⟨?_, ?_, ?_, ?_, ?_, ?_, ?_, ?_, trivial⟩ fun g21 => ?_
          · exact OpOK2.of (fun g21 => [(.tmp 3, BP b6 0)]) _ _ (fun g21 _ => g21) rfl rfl (fun _ => ⟨rfl, trivial⟩) (fun g21 => Pu.toOT (Pu.fieldB fo57_3 rfl)) (fun _ _ => ⟨rfl, rfl, ⟨rfl, rfl, rfl, rfl, rfl, rfl, trivial⟩⟩)
          · exact OpOK2.of (fun g21 => [(.tmp 30, BP b6 3)]) _ _ (fun g21 _ => g21) rfl rfl (fun _ => ⟨rfl, trivial⟩) (fun g21 => OT.loadB sc55 rfl) (fun _ _ => ⟨rfl, rfl, ⟨rfl, rfl, rfl, rfl, rfl, rfl, trivial⟩⟩)
          · exact OpOK2.of (fun g21 => [(.tmp 0, BP β_0 0)]) _ _ (fun g21 _ => g21) rfl rfl (fun _ => ⟨rfl, trivial⟩) (fun g21 => Pu.toOT Pu.move) (fun _ _ => ⟨rfl, rfl, ⟨rfl, rfl, rfl, rfl, rfl, rfl, trivial⟩⟩)
          · exact OpOK2.of (fun g21 => [(.func 86, .func (.func 86) #[] #[]), (.tmp 32, BP β_0 0), (.const (.int .i64 12), .int .i64 12)]) _ _ (fun g21 _ => g21) rfl rfl (fun _ => ⟨rfl, rfl, rfl, trivial⟩) (fun g21 => OT.callM (us := [_, _]) (PreX := [Box β_0 [.slice a_0 (List.length p0.b) c_0, .int .i64 t7.2.i, .int .i64 t7.2.h]]) (PreL := []) [.tmp 32, .const (.int .i64 12)] Try.call86 rfl rfl fun w FX FL hs1 hF1 hs2 hF2 hp => spec_l1Below_c (p0 := (⟨p0.b, t7.2.i, t7.2.h⟩ : TCur)) (p1 := 12) hs1 hF1 (hb_0.passY hp) h23) (fun _ _ => ⟨rfl, rfl, ⟨rfl, rfl, rfl, rfl, rfl, rfl, trivial⟩⟩)
          · exact OpOK2.of (fun g21 => [(.tmp 0, BP β_0 0)]) _ _ (fun g21 _ => g21) rfl rfl (fun _ => ⟨rfl, trivial⟩) (fun g21 => Pu.toOT Pu.move) (fun _ _ => ⟨rfl, rfl, ⟨rfl, rfl, rfl, rfl, rfl, rfl, trivial⟩⟩)
          · exact OpOK2.ofD [6] (by kernel_rfl) (fun g21 => [(.func 125, .func (.func 125) #[] #[]), (.tmp 34, BP β_0 0)]) _ _ (fun g21 x => (x, g21.2)) rfl rfl (fun _ => ⟨rfl, rfl, trivial⟩) (fun g21 => OT.callM (us := [_]) (PreX := [Box β_0 [.slice a_0 (List.length p0.b) c_0, .int .i64 t22.2.i, .int .i64 t22.2.h]]) (PreL := []) [.tmp 34] Try.call125 rfl rfl fun w FX FL hs1 hF1 hs2 hF2 hp => spec_l5Any_c (p0 := (⟨p0.b, t22.2.i, t22.2.h⟩ : TCur)) hs1 hF1 (hb_0.passY hp) h25) (fun _ _ => ⟨⟨rfl, rfl, rfl, rfl, rfl, rfl, trivial, rfl, trivial⟩, rfl, ⟨rfl, rfl, rfl, rfl, rfl, rfl, trivial⟩⟩)
          · exact OpOK2.of (fun g21 => [(.tmp 33, .int .i64 t22.1), (.tmp 35, .agg #[.bool t24.1.Leaf, .slice g21.1.1 (List.length t24.1.L) g21.1.2])]) _ _ (fun g21 _ => g21) rfl rfl (fun _ => ⟨rfl, rfl, trivial⟩) (fun g21 => Pu.toOT (Pu.build (us := [.int .i64 t22.1, .agg #[.bool t24.1.Leaf, .slice g21.1.1 (List.length t24.1.L) g21.1.2]]) (cs := [.int .i64 t22.1, .bool t24.1.Leaf, .slice g21.1.1 (List.length t24.1.L) g21.1.2]) [(0, .tmp 33), (1, .tmp 35)] st49 rfl rfl rfl)) (fun _ _ => ⟨rfl, rfl, ⟨rfl, rfl, rfl, rfl, rfl, rfl, trivial⟩⟩)
          · exact OpOK2.of (fun g21 => [(.tmp 36, .agg #[.int .i64 t22.1, .bool t24.1.Leaf, .slice g21.1.1 (List.length t24.1.L) g21.1.2])]) _ _ (fun g21 x => (g21.1, x)) rfl rfl (fun _ => ⟨rfl, trivial⟩) (fun g21 => OT.buildO (u := .agg #[.int .i64 t22.1, .bool t24.1.Leaf, .slice g21.1.1 (List.length t24.1.L) g21.1.2]) (enc := encTChange) (hl := hlTChange) (sub := fun (x : TChange) => x.N.L) (.tmp 36) (⟨t22.1, t24.1⟩ : TChange) sl55.ul sl55.szE sl55.zc rfl rfl rfl rfl) (fun _ _ => ⟨rfl, rfl, ⟨rfl, rfl, rfl, rfl, rfl, rfl, trivial⟩⟩)
          refine HQ.keep [(2, _), (3, _), (31, _), (37, _)] ⟨rfl, rfl, rfl, rfl, trivial⟩ ?_
          refine HQ.keepR [(1, _), (2, _), (3, _), (4, _), (9, _)] ⟨rfl, rfl, rfl, rfl, rfl, trivial⟩ rfl ?_
          refine HQ.dRun 3 rfl rfl (by kernel_rfl) (by kernel_rfl) ?_
          obtain ⟨h32, H⟩ := asr H
          refine HQ.opD [3, 9] [3] [9] (OT.appendO (K := kTChange) sl55 ul55 h32) ⟨rfl, rfl, trivial⟩ ⟨rfl, rfl, trivial⟩ rfl rfl rfl rfl (fun _ => rfl) fun ⟨a30, c31⟩ => ?_
          refine HQ.pu (Pu.fieldB fo57_3 rfl) ⟨rfl, trivial⟩ rfl rfl rfl ?_
          refine HQ.opN [4] [4] [] (OT.storeC (cs' := [.int .i64 t2.1.Seq, .int .i64 t2.1.Root, .int .i64 t2.1.Size, .slice a30 (List.length (t2.1.Puts ++ ([(⟨t22.1, t24.1⟩ : TChange)] : (List TChange)))) c31]) sz55 rfl rfl rfl rfl rfl) ⟨rfl, rfl, trivial⟩ ⟨rfl, trivial⟩ rfl rfl rfl (fun _ => rfl) fun _ => ?_
          refine HQ.done ?_
          refine HQ.dEnd rfl ?_
          refine HQ.keep [(2, _), (3, _)] ⟨rfl, rfl, trivial⟩ ?_
          refine HQ.blkN ?_
          refine HQ.thenN ?_
          refine HQ.rseq ?_
          refine HQ.op [4] [4] (OT.loadBA (vs := [.int .i64 t2.1.Seq, .int .i64 t2.1.Root, .int .i64 t2.1.Size, .slice a30 (List.length (t2.1.Puts ++ ([(⟨t22.1, t24.1⟩ : TChange)] : (List TChange)))) c31]) ag57 sz57 rfl rfl) ⟨rfl, trivial⟩ ⟨rfl, trivial⟩ rfl rfl rfl rfl (fun _ => rfl) fun _ => ?_
          refine HQ.opN [2] [2] [] (OT.storeC (cs' := [.int .i64 t2.1.Seq, .int .i64 t2.1.Root, .int .i64 t2.1.Size, .slice a30 (List.length (t2.1.Puts ++ ([(⟨t22.1, t24.1⟩ : TChange)] : (List TChange)))) c31]) sz57 rfl rfl rfl rfl rfl) ⟨rfl, rfl, trivial⟩ ⟨rfl, trivial⟩ rfl rfl rfl (fun _ => rfl) fun _ => ?_
          refine HQ.done ?_
          refine HQ.keep [(2, _)] ⟨rfl, trivial⟩ ?_
          refine HQ.ret ?_
          obtain rfl := Option.some.inj H
          exact HQ.fin (vs := [_]) Try.results101 (a30, c31) ⟨⟨_, _, 2, rfl, rfl, ag57, sz57, rfl⟩, trivial⟩ rfl [3, 1] ⟨rfl, rfl, trivial⟩ rfl
        · refine HQ.condF rfl hc ?_
          clear hc
          refine HQ.skip ?_
          refine HQ.blkN ?_
          refine HQ.thenN ?_
          refine HQ.rseq ?_
          refine HQ.op [4] [4] (OT.loadBA (vs := [.int .i64 t2.1.Seq, .int .i64 t2.1.Root, .int .i64 t2.1.Size, .slice a4 (List.length t2.1.Puts) c5]) ag57 sz57 rfl rfl) ⟨rfl, trivial⟩ ⟨rfl, trivial⟩ rfl rfl rfl rfl (fun _ => rfl) fun _ => ?_
          refine HQ.opN [2] [2] [] (OT.storeC (cs' := [.int .i64 t2.1.Seq, .int .i64 t2.1.Root, .int .i64 t2.1.Size, .slice a4 (List.length t2.1.Puts) c5]) sz57 rfl rfl rfl rfl rfl) ⟨rfl, rfl, trivial⟩ ⟨rfl, trivial⟩ rfl rfl rfl (fun _ => rfl) fun _ => ?_
          refine HQ.done ?_
          refine HQ.keep [(2, _)] ⟨rfl, trivial⟩ ?_
          refine HQ.ret ?_
          obtain rfl := Option.some.inj H
          exact HQ.fin (vs := [_]) Try.results101 (a4, c5) ⟨⟨_, _, 2, rfl, rfl, ag57, sz57, rfl⟩, trivial⟩ rfl [3, 1] ⟨rfl, rfl, trivial⟩ rfl

/-! spec.DrawEndCell -/
theorem spec_DrawEndCell_c {w : World} {k : Nat} {p0 : (List Int)} {a_0 : Option Addr} {c_0 : Nat} (hb_0 : BorS kU8 a_0 c_0 p0 w.heap (Lt w Nil)) {r : Int × TTx} (H : spec_DrawEndCell k p0 = some r) :
    Calls Try.prog 29 #[.slice a_0 (List.length p0) c_0] w (Rt w Nil (fun g : Option Addr × Nat => .tuple #[.int .i64 r.1, .agg #[.int .i64 r.2.Seq, .int .i64 r.2.Root, .int .i64 r.2.Size, .slice g.1 (List.length r.2.Puts) g.2]]) (fun g => [OwnS kTChange g.1 g.2 r.2.Puts])) := by
  rw [spec_DrawEndCell] at H
  refine Calls.enter0 (N := 13) (us := [_]) Try.func29 rfl rfl rfl ?_
  refine HQ.rseq ?_
  refine HQ.pu Pu.assign ⟨rfl, trivial⟩ rfl rfl rfl ?_
  refine HQ.op [] [1] (OT.alloc zc57) trivial trivial rfl rfl rfl rfl (fun _ => rfl) fun b1 => ?_
  refine HQ.done ?_
  refine HQ.keep [(0, _), (2, _), (3, _)] ⟨rfl, rfl, rfl, trivial⟩ ?_
  refine HQ.rseq ?_
  refine HQ.pu Pu.move ⟨rfl, trivial⟩ rfl rfl rfl ?_
  obtain ⟨t2, h3, H⟩ := bnd H
  refine HQ.op [] [2] (OT.call (us := [_]) (Pre := []) [.tmp 6] Try.call77 rfl rfl fun w F hs hF hp => spec_l1New_c (hb_0.pass hp) h3) ⟨rfl, rfl, trivial⟩ trivial rfl rfl rfl rfl (fun _ => rfl) fun b4 => ?_
  refine HQ.pu Pu.assign ⟨rfl, trivial⟩ rfl rfl rfl ?_
  refine HQ.done ?_
  refine HQ.keep [(2, _), (3, _), (4, _)] ⟨rfl, rfl, rfl, trivial⟩ ?_
  refine HQ.rseq ?_
  refine HQ.pu Pu.move ⟨rfl, trivial⟩ rfl rfl rfl ?_
  obtain ⟨t5, h6, H⟩ := bnd H
  refine HQ.op [2] [2] (OT.callM (us := [_]) (PreX := [Box b4 [.slice a_0 (List.length p0) c_0, .int .i64 t2.i, .int .i64 t2.h]]) (PreL := []) [.tmp 8] Try.call95 rfl rfl fun w FX FL hs1 hF1 hs2 hF2 hp => spec_l19Epoch_c (p0 := (⟨p0, t2.i, t2.h⟩ : TCur)) hs1 hF1 (hb_0.passY hp) h6) ⟨rfl, rfl, trivial⟩ ⟨rfl, trivial⟩ rfl rfl rfl rfl (fun _ => rfl) fun _ => ?_
  refine HQ.pu Pu.assign ⟨rfl, trivial⟩ rfl rfl rfl ?_
  refine HQ.done ?_
  refine HQ.keep [(2, _), (3, _), (4, _), (5, _)] ⟨rfl, rfl, rfl, rfl, trivial⟩ ?_
  refine HQ.rseq ?_
  refine HQ.pu Pu.move ⟨rfl, trivial⟩ rfl rfl rfl ?_
  refine HQ.pu Pu.move ⟨rfl, trivial⟩ rfl rfl rfl ?_
  obtain ⟨t7, h8, H⟩ := bnd H
  refine HQ.op [2] [3, 2] (OT.callM (us := [_]) (PreX := [Box b4 [.slice a_0 (List.length p0) c_0, .int .i64 t5.2.i, .int .i64 t5.2.h]]) (PreL := []) [.tmp 11] Try.call101 rfl rfl fun w FX FL hs1 hF1 hs2 hF2 hp => spec_l19Any_c (p0 := (⟨p0, t5.2.i, t5.2.h⟩ : TCur)) hs1 hF1 (hb_0.passY hp) h8) ⟨rfl, rfl, trivial⟩ ⟨rfl, trivial⟩ rfl rfl rfl rfl (fun _ => rfl) fun ⟨a9, c10⟩ => ?_
  refine HQ.pu Pu.assign ⟨rfl, trivial⟩ rfl rfl rfl ?_
  refine HQ.opN [1] [1] [] (OT.storeC (cs' := [.int .i64 t7.1.Seq, .int .i64 t7.1.Root, .int .i64 t7.1.Size, .slice a9 (List.length t7.1.Puts) c10]) sz57 rfl rfl rfl rfl rfl) ⟨rfl, rfl, trivial⟩ ⟨rfl, trivial⟩ rfl rfl rfl (fun _ => rfl) fun _ => ?_
  refine HQ.done ?_
  refine HQ.keep [(2, _), (3, _)] ⟨rfl, rfl, trivial⟩ ?_
  refine HQ.ret ?_
  obtain rfl := Option.some.inj H
  exact HQ.fin (vs := [_, _]) Try.results29 (a9, c10) ⟨rfl, ⟨_, _, 1, rfl, rfl, ag57, sz57, rfl⟩, trivial⟩ rfl [3] ⟨rfl, trivial⟩ rfl

/-! (impl.Tx).numbersOk -/
theorem impl_Tx_numbersOk_c {w : World} {p0 : TTx} {a_0 : Option Addr} {c_0 : Nat}  {r : Bool} (H : impl_Tx_numbersOk p0 = some r) :
    Calls Try.prog 104 #[.agg #[.int .i64 p0.Seq, .int .i64 p0.Root, .int .i64 p0.Size, .slice a_0 (List.length p0.Puts) c_0]] w (Rt w Nil (fun _ : Unit => .bool r) (fun _ => [])) := by
  rw [impl_Tx_numbersOk] at H
  refine Calls.enter0 (N := 19) (us := [_]) Try.func104 rfl rfl rfl ?_
  refine HQ.rseq ?_
  refine HQ.op [] [1] (OT.box (cs := [.int .i64 p0.Seq, .int .i64 p0.Root, .int .i64 p0.Size, .slice a_0 (List.length p0.Puts) c_0]) rfl) ⟨rfl, trivial⟩ trivial rfl rfl rfl rfl (fun _ => rfl) fun b1 => ?_
  refine HQ.pu Pu.assign ⟨rfl, trivial⟩ rfl rfl rfl ?_
  refine HQ.done ?_
  refine HQ.keep [(1, _), (2, _)] ⟨rfl, rfl, trivial⟩ ?_
  refine HQ.rseq ?_
  refine HQ.pu (Pu.fieldB fo57_0 rfl) ⟨rfl, trivial⟩ rfl rfl rfl ?_
  refine HQ.op [1] [1] (OT.loadB sc3 rfl) ⟨rfl, trivial⟩ ⟨rfl, trivial⟩ rfl rfl rfl rfl (fun _ => rfl) fun _ => ?_
  obtain ⟨t2, h3, H⟩ := bnd H
  refine HQ.op [] [] (OT.call (us := [_, _, _]) (Pre := []) [.tmp 4, .const (.int .i64 1), .const (.int .i64 65535)] Try.call83 rfl rfl fun w F hs hF hp => impl_in_c h3) ⟨rfl, rfl, rfl, rfl, trivial⟩ trivial rfl rfl rfl rfl (fun _ => rfl) fun _ => ?_
  refine HQ.pu Pu.move ⟨rfl, trivial⟩ rfl rfl rfl ?_
  obtain ⟨c7, h8, H⟩ := bnd H
  refine HQ.cutAt 4 [(10, .bool c7), (1, BP b1 0), (2, .bool false)] [(1, Box b1 [.int .i64 p0.Seq, .int .i64 p0.Root, .int .i64 p0.Size, .slice a_0 (List.length p0.Puts) c_0])] ?_ ?_
  · clear H
    have H := h8
    rcases brk H with ⟨hg4, H⟩ | ⟨hg4, H⟩
    · refine HQ.on rfl rfl hg4 ?_
      refine HQ.pu (Pu.fieldB fo57_2 rfl) ⟨rfl, trivial⟩ rfl rfl rfl ?_
      refine HQ.on rfl rfl hg4 ?_
      refine HQ.op [1] [1] (OT.loadB sc3 rfl) ⟨rfl, trivial⟩ ⟨rfl, trivial⟩ rfl rfl rfl rfl (fun _ => rfl) fun _ => ?_
      refine HQ.on rfl rfl hg4 ?_
      obtain ⟨t5, h6, H⟩ := bnd H
      refine HQ.op [] [] (OT.call (us := [_, _, _]) (Pre := []) [.tmp 8, .const (.int .i64 1), .const (.int .i64 48)] Try.call83 rfl rfl fun w F hs hF hp => impl_in_c h6) ⟨rfl, rfl, rfl, rfl, trivial⟩ trivial rfl rfl rfl rfl (fun _ => rfl) fun _ => ?_
      obtain rfl := Option.some.inj H
      refine HQ.pu (Pu.pickC1 hg4) ⟨rfl, rfl, trivial⟩ rfl rfl rfl ?_
      exact HQ.mid ⟨rfl, rfl, rfl, trivial⟩ ⟨rfl, trivial⟩ rfl
    · obtain rfl := Option.some.inj H
      refine HQ.off rfl rfl hg4 rfl ?_
      refine HQ.off rfl rfl hg4 rfl ?_
      refine HQ.off rfl rfl hg4 rfl ?_
      refine HQ.pu (Pu.pickC0 hg4) ⟨rfl, rfl, trivial⟩ rfl rfl rfl ?_
      exact HQ.mid ⟨rfl, rfl, rfl, trivial⟩ ⟨rfl, trivial⟩ rfl
  refine HQ.pu Pu.move ⟨rfl, trivial⟩ rfl rfl rfl ?_
  obtain ⟨c12, h13, H⟩ := bnd H
  refine HQ.cutAt 7 [(18, .bool c12), (2, .bool false)] [(1, Box b1 [.int .i64 p0.Seq, .int .i64 p0.Root, .int .i64 p0.Size, .slice a_0 (List.length p0.Puts) c_0])] ?_ ?_
  · clear H
    have H := h13
    rcases brk H with ⟨hg9, H⟩ | ⟨hg9, H⟩
    · refine HQ.on rfl rfl hg9 ?_
      refine HQ.pu (Pu.fieldB fo57_1 rfl) ⟨rfl, trivial⟩ rfl rfl rfl ?_
      refine HQ.on rfl rfl hg9 ?_
      refine HQ.op [1] [1] (OT.loadB sc3 rfl) ⟨rfl, trivial⟩ ⟨rfl, trivial⟩ rfl rfl rfl rfl (fun _ => rfl) fun _ => ?_
      refine HQ.on rfl rfl hg9 ?_
      refine HQ.pu (Pu.fieldB fo57_2 rfl) ⟨rfl, trivial⟩ rfl rfl rfl ?_
      refine HQ.on rfl rfl hg9 ?_
      refine HQ.op [1] [1] (OT.loadB sc3 rfl) ⟨rfl, trivial⟩ ⟨rfl, trivial⟩ rfl rfl rfl rfl (fun _ => rfl) fun _ => ?_
      refine HQ.on rfl rfl hg9 ?_
      refine HQ.pu Pu.sub ⟨rfl, rfl, trivial⟩ rfl rfl rfl ?_
      refine HQ.on rfl rfl hg9 ?_
      obtain ⟨t10, h11, H⟩ := bnd H
      refine HQ.op [] [] (OT.call (us := [_, _, _]) (Pre := []) [.tmp 13, .const (.int .i64 0), .tmp 16] Try.call83 rfl rfl fun w F hs hF hp => impl_in_c h11) ⟨rfl, rfl, rfl, rfl, trivial⟩ trivial rfl rfl rfl rfl (fun _ => rfl) fun _ => ?_
      obtain rfl := Option.some.inj H
      refine HQ.pu (Pu.pickC1 hg9) ⟨rfl, rfl, trivial⟩ rfl rfl rfl ?_
      exact HQ.mid ⟨rfl, rfl, trivial⟩ ⟨rfl, trivial⟩ rfl
    · obtain rfl := Option.some.inj H
      refine HQ.off rfl rfl hg9 rfl ?_
      refine HQ.off rfl rfl hg9 rfl ?_
      refine HQ.off rfl rfl hg9 rfl ?_
      refine HQ.off rfl rfl hg9 rfl ?_
      refine HQ.off rfl rfl hg9 rfl ?_
      refine HQ.off rfl rfl hg9 rfl ?_
      refine HQ.pu (Pu.pickC0 hg9) ⟨rfl, rfl, trivial⟩ rfl rfl rfl ?_
      exact HQ.mid ⟨rfl, rfl, trivial⟩ ⟨rfl, trivial⟩ rfl
  refine HQ.pu Pu.assign ⟨rfl, trivial⟩ rfl rfl rfl ?_
  refine HQ.done ?_
  refine HQ.keep [(2, _)] ⟨rfl, trivial⟩ ?_
  refine HQ.ret ?_
  obtain rfl := Option.some.inj H
  exact HQ.fin (vs := [_]) Try.results104 () ⟨rfl, trivial⟩ rfl [] trivial rfl

end Go.Proofs.Sx
