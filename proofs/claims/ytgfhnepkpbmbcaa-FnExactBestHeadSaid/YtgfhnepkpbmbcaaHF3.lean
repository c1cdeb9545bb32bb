import Derived.Test.YtgfhnepkpbmbcaaHF2
import Derived.KernelRfl
namespace Go.Proofs.Sx
open Go.RowKit
set_option linter.unusedVariables false
set_option linter.unusedSimpArgs false
set_option maxRecDepth 20000
set_option maxHeartbeats 1000000
/-! spec.GetHead -/
theorem spec_GetHead_c {w : World} {k : Nat} {p0 : (List Int)} {a_0 : Option Addr} {c_0 : Nat} (hb_0 : BorS kU8 a_0 c_0 p0 w.heap (Lt w Nil)) {r : THead × Bool} (H : spec_GetHead k p0 = some r) :
    Calls Try.prog 109 #[.slice a_0 (List.length p0) c_0] w (Rt w Nil (fun _ : Unit => .tuple #[.agg #[.int .i64 r.1.Epoch, .int .i64 r.1.Seq, .int .i64 r.1.Root, .int .i64 r.1.Size], .bool r.2]) (fun _ => [])) := by
  rw [spec_GetHead] at H
  refine Calls.enter0 (N := 47) (us := [_]) Try.func109 rfl rfl rfl ?_
  refine HQ.rseq ?_
  refine HQ.op [] [1] (OT.alloc zc66) trivial trivial rfl rfl rfl rfl (fun _ => rfl) fun b1 => ?_
  refine HQ.pu Pu.assign ⟨rfl, trivial⟩ rfl rfl rfl ?_
  refine HQ.done ?_
  refine HQ.keep [(0, _), (2, _), (3, _)] ⟨rfl, rfl, rfl, trivial⟩ ?_
  refine HQ.seq ?_
  refine HQ.rseq ?_
  refine HQ.pu Pu.move ⟨rfl, trivial⟩ rfl rfl rfl ?_
  refine HQ.pu (Pu.len ul37) ⟨rfl, trivial⟩ rfl rfl rfl ?_
  refine HQ.pu Pu.neq ⟨rfl, rfl, trivial⟩ rfl rfl rfl ?_
  refine HQ.done ?_
  refine HQ.keep [(0, _), (2, _), (3, _), (11, _)] ⟨rfl, rfl, rfl, rfl, trivial⟩ ?_
  rcases brk H with ⟨hc, H⟩ | ⟨hc, H⟩
  · refine HQ.condT rfl hc ?_
    clear hc
    refine HQ.rseq ?_
    refine HQ.pu (Pu.build (us := []) (cs := [.int .i64 0, .int .i64 0, .int .i64 0, .int .i64 0]) [] st66 rfl rfl rfl) trivial rfl rfl rfl ?_
    refine HQ.opN [1] [1] [] (OT.storeC (cs' := [.int .i64 0, .int .i64 0, .int .i64 0, .int .i64 0]) sz66 rfl rfl rfl rfl rfl) ⟨rfl, rfl, trivial⟩ ⟨rfl, trivial⟩ rfl rfl rfl (fun _ => rfl) fun _ => ?_
    refine HQ.pu Pu.assign ⟨rfl, trivial⟩ rfl rfl rfl ?_
    refine HQ.done ?_
    refine HQ.keep [(0, _), (2, _), (3, _)] ⟨rfl, rfl, rfl, trivial⟩ ?_
    refine HQ.ret ?_
    refine HQ.thenR ?_
    obtain rfl := Option.some.inj H
    exact HQ.fin (vs := [_, _]) Try.results109 () ⟨⟨_, _, 1, rfl, rfl, ag66, sz66, rfl⟩, rfl, trivial⟩ rfl [] trivial rfl
  · refine HQ.condF rfl hc ?_
    clear hc
    refine HQ.skipThen ?_
    refine HQ.rseq ?_
    refine HQ.pu Pu.move ⟨rfl, trivial⟩ rfl rfl rfl ?_
    obtain ⟨t2, h3, H⟩ := bnd H
    refine HQ.op [] [] (OT.call (us := [_, _]) (Pre := []) [.tmp 14, .const (.int .i64 1)] Try.call163 rfl rfl fun w F hs hF hp => spec_Get2_c (hb_0.pass hp) h3) ⟨rfl, rfl, rfl, trivial⟩ trivial rfl rfl rfl rfl (fun _ => rfl) fun _ => ?_
    refine HQ.pu Pu.move ⟨rfl, trivial⟩ rfl rfl rfl ?_
    refine HQ.pu (Pu.extract rfl) ⟨rfl, trivial⟩ rfl rfl rfl ?_
    refine HQ.pu (Pu.extract rfl) ⟨rfl, trivial⟩ rfl rfl rfl ?_
    refine HQ.pu Pu.assign ⟨rfl, trivial⟩ rfl rfl rfl ?_
    refine HQ.pu Pu.assign ⟨rfl, trivial⟩ rfl rfl rfl ?_
    refine HQ.done ?_
    refine HQ.keep [(0, _), (2, _), (3, _), (4, _)] ⟨rfl, rfl, rfl, rfl, trivial⟩ ?_
    refine HQ.rseq ?_
    refine HQ.pu Pu.move ⟨rfl, trivial⟩ rfl rfl rfl ?_
    obtain ⟨t4, h5, H⟩ := bnd H
    refine HQ.op [] [] (OT.call (us := [_, _]) (Pre := []) [.tmp 19, .const (.int .i64 3)] Try.call163 rfl rfl fun w F hs hF hp => spec_Get2_c (hb_0.pass hp) h5) ⟨rfl, rfl, rfl, trivial⟩ trivial rfl rfl rfl rfl (fun _ => rfl) fun _ => ?_
    refine HQ.pu Pu.move ⟨rfl, trivial⟩ rfl rfl rfl ?_
    refine HQ.pu (Pu.extract rfl) ⟨rfl, trivial⟩ rfl rfl rfl ?_
    refine HQ.pu (Pu.extract rfl) ⟨rfl, trivial⟩ rfl rfl rfl ?_
    refine HQ.pu Pu.assign ⟨rfl, trivial⟩ rfl rfl rfl ?_
    refine HQ.pu Pu.assign ⟨rfl, trivial⟩ rfl rfl rfl ?_
    refine HQ.done ?_
    refine HQ.keep [(0, _), (2, _), (3, _), (4, _), (6, _)] ⟨rfl, rfl, rfl, rfl, rfl, trivial⟩ ?_
    obtain ⟨h7, H⟩ := asr H
    obtain ⟨h8, H⟩ := asr H
    refine HQ.drawS mixd [(0, .slice a_0 (List.length p0) c_0), (2, BP b1 0), (3, .bool false), (4, .int .i64 t2.1), (6, .int .i64 t4.1)] 12 [⟨[], [], []⟩, ⟨[], [], []⟩, ⟨[], [], []⟩, ⟨[], [], [2]⟩, ⟨[], [], [3]⟩, ⟨[], [], [4]⟩, ⟨[], [], []⟩, ⟨[], [], [6]⟩, ⟨[], [], [7]⟩, ⟨[], [], [8]⟩, ⟨[], [], [0, 1, 5, 9]⟩, ⟨[], [0], []⟩] [⟨some 11, none⟩] (fun (g6 : Nat) => [.int .i64 t2.1, .int .i64 t4.1, .slice a_0 (List.length p0) c_0, EP a_0 5 1 0, .int .u8 (gt p0 5), .int .i64 (IntKind.i64.wrap (gt p0 5)), .slice a_0 (List.length p0) c_0, EP a_0 6 1 0, .int .u8 (gt p0 6), .int .i64 (IntKind.i64.wrap (gt p0 6)), .agg #[.int .i64 t2.1, .int .i64 t4.1, .int .i64 (IntKind.i64.wrap (gt p0 5)), .int .i64 (IntKind.i64.wrap (gt p0 6))], BP g6 0]) (fun (g6 : Nat) => [Box g6 [.int .i64 0, .int .i64 0, .int .i64 0, .int .i64 0]]) 0 [] [2] [] ⟨rfl, rfl, rfl, rfl, rfl, trivial⟩ trivial rfl (by kernel_rfl) (fun _ => rfl) (by kernel_rfl) (fun _ => rfl) ⟨?_, ?_, ?_, ?_, ?_, ?_, ?_, ?_, ?_, ?_, ?_, ?_, trivial⟩ fun g6 => ?_
    · exact OpOK.of (fun g6 => [(.tmp 4, .int .i64 t2.1)]) _ _ (fun g6 _ => g6) rfl rfl (fun _ => ⟨rfl, trivial⟩) (fun g6 => Pu.toOT Pu.move) (fun _ _ => ⟨rfl, rfl, ⟨rfl, trivial⟩⟩)
    · exact OpOK.of (fun g6 => [(.tmp 6, .int .i64 t4.1)]) _ _ (fun g6 _ => g6) rfl rfl (fun _ => ⟨rfl, trivial⟩) (fun g6 => Pu.toOT Pu.move) (fun _ _ => ⟨rfl, rfl, ⟨rfl, trivial⟩⟩)
    · exact OpOK.of (fun g6 => [(.tmp 0, .slice a_0 (List.length p0) c_0)]) _ _ (fun g6 _ => g6) rfl rfl (fun _ => ⟨rfl, trivial⟩) (fun g6 => Pu.toOT Pu.move) (fun _ _ => ⟨rfl, rfl, ⟨rfl, trivial⟩⟩)
    · exact OpOK.of (fun g6 => [(.tmp 25, .slice a_0 (List.length p0) c_0), (.const (.int .i64 5), .int .i64 5)]) _ _ (fun g6 _ => g6) rfl rfl (fun _ => ⟨rfl, rfl, trivial⟩) (fun g6 => OT.indexB ul37 sz5 hb_0 h7) (fun _ _ => ⟨rfl, rfl, ⟨rfl, trivial⟩⟩)
    · exact OpOK.of (fun g6 => [(.tmp 26, EP a_0 5 1 0)]) _ _ (fun g6 _ => g6) rfl rfl (fun _ => ⟨rfl, trivial⟩) (fun g6 => OT.loadF sc5 hb_0 h7 rfl) (fun _ _ => ⟨rfl, rfl, ⟨rfl, trivial⟩⟩)
    · exact OpOK.of (fun g6 => [(.tmp 27, .int .u8 (gt p0 5))]) _ _ (fun g6 _ => g6) rfl rfl (fun _ => ⟨rfl, trivial⟩) (fun g6 => Pu.toOT (Pu.conv ul5 ul3)) (fun _ _ => ⟨rfl, rfl, ⟨rfl, trivial⟩⟩)
    · exact OpOK.of (fun g6 => [(.tmp 0, .slice a_0 (List.length p0) c_0)]) _ _ (fun g6 _ => g6) rfl rfl (fun _ => ⟨rfl, trivial⟩) (fun g6 => Pu.toOT Pu.move) (fun _ _ => ⟨rfl, rfl, ⟨rfl, trivial⟩⟩)
    · exact OpOK.of (fun g6 => [(.tmp 29, .slice a_0 (List.length p0) c_0), (.const (.int .i64 6), .int .i64 6)]) _ _ (fun g6 _ => g6) rfl rfl (fun _ => ⟨rfl, rfl, trivial⟩) (fun g6 => OT.indexB ul37 sz5 hb_0 h8) (fun _ _ => ⟨rfl, rfl, ⟨rfl, trivial⟩⟩)
    · exact OpOK.of (fun g6 => [(.tmp 30, EP a_0 6 1 0)]) _ _ (fun g6 _ => g6) rfl rfl (fun _ => ⟨rfl, trivial⟩) (fun g6 => OT.loadF sc5 hb_0 h8 rfl) (fun _ _ => ⟨rfl, rfl, ⟨rfl, trivial⟩⟩)
    · exact OpOK.of (fun g6 => [(.tmp 31, .int .u8 (gt p0 6))]) _ _ (fun g6 _ => g6) rfl rfl (fun _ => ⟨rfl, trivial⟩) (fun g6 => Pu.toOT (Pu.conv ul5 ul3)) (fun _ _ => ⟨rfl, rfl, ⟨rfl, trivial⟩⟩)
    · exact OpOK.of (fun g6 => [(.tmp 23, .int .i64 t2.1), (.tmp 24, .int .i64 t4.1), (.tmp 28, .int .i64 (IntKind.i64.wrap (gt p0 5))), (.tmp 32, .int .i64 (IntKind.i64.wrap (gt p0 6)))]) _ _ (fun g6 _ => g6) rfl rfl (fun _ => ⟨rfl, rfl, rfl, rfl, trivial⟩) (fun g6 => Pu.toOT (Pu.build (us := [.int .i64 t2.1, .int .i64 t4.1, .int .i64 (IntKind.i64.wrap (gt p0 5)), .int .i64 (IntKind.i64.wrap (gt p0 6))]) (cs := [.int .i64 t2.1, .int .i64 t4.1, .int .i64 (IntKind.i64.wrap (gt p0 5)), .int .i64 (IntKind.i64.wrap (gt p0 6))]) [(0, .tmp 23), (1, .tmp 24), (2, .tmp 28), (3, .tmp 32)] st66 rfl rfl rfl)) (fun _ _ => ⟨rfl, rfl, ⟨rfl, trivial⟩⟩)
    · exact OpOK.of (fun g6 => []) _ _ (fun g6 x => x) rfl rfl (fun _ => trivial) (fun g6 => OT.alloc zc66) (fun _ _ => ⟨rfl, rfl, ⟨rfl, trivial⟩⟩)
    refine HQ.keep [(0, _), (2, _), (3, _), (33, _), (8, _)] ⟨rfl, rfl, rfl, rfl, rfl, trivial⟩ ?_
    refine HQ.keepR [(1, _), (2, _)] ⟨rfl, rfl, trivial⟩ rfl ?_
    refine HQ.opN [2] [2] [] (OT.storeC (cs' := [.int .i64 t2.1, .int .i64 t4.1, .int .i64 (IntKind.i64.wrap (gt p0 5)), .int .i64 (IntKind.i64.wrap (gt p0 6))]) sz66 rfl rfl rfl rfl rfl) ⟨rfl, rfl, trivial⟩ ⟨rfl, trivial⟩ rfl rfl rfl (fun _ => rfl) fun _ => ?_
    refine HQ.done ?_
    refine HQ.keep [(0, _), (2, _), (3, _), (8, _)] ⟨rfl, rfl, rfl, rfl, trivial⟩ ?_
    refine HQ.seq ?_
    refine HQ.rseq ?_
    refine HQ.op [2] [2] (OT.loadBA (vs := [.int .i64 t2.1, .int .i64 t4.1, .int .i64 (IntKind.i64.wrap (gt p0 5)), .int .i64 (IntKind.i64.wrap (gt p0 6))]) ag66 sz66 rfl rfl) ⟨rfl, trivial⟩ ⟨rfl, trivial⟩ rfl rfl rfl rfl (fun _ => rfl) fun _ => ?_
    obtain ⟨t10, h11, H⟩ := bnd H
    refine HQ.op [] [] (OT.call (us := [_]) (Pre := []) [.tmp 34] Try.call113 rfl rfl fun w F hs hF hp => spec_HeadOk_c h11) ⟨rfl, rfl, trivial⟩ trivial rfl rfl rfl rfl (fun _ => rfl) fun _ => ?_
    refine HQ.pu Pu.not ⟨rfl, trivial⟩ rfl rfl rfl ?_
    refine HQ.pu Pu.move ⟨rfl, trivial⟩ rfl rfl rfl ?_
    obtain ⟨c23, h24, H⟩ := bnd H
    refine HQ.cutAt 7 [(44, .bool c23), (2, BP b1 0), (3, .bool false), (8, BP g6 0)] [(1, Box b1 [.int .i64 0, .int .i64 0, .int .i64 0, .int .i64 0]), (2, Box g6 [.int .i64 t2.1, .int .i64 t4.1, .int .i64 (IntKind.i64.wrap (gt p0 5)), .int .i64 (IntKind.i64.wrap (gt p0 6))])] ?_ ?_
    · clear H
      have H := h24
      rcases brk H with ⟨hg12, H⟩ | ⟨hg12, H⟩
      · obtain rfl := Option.some.inj H
        refine HQ.off rfl rfl hg12 rfl ?_
        refine HQ.off rfl rfl hg12 rfl ?_
        refine HQ.off rfl rfl hg12 rfl ?_
        refine HQ.off rfl rfl hg12 rfl ?_
        refine HQ.off rfl rfl hg12 rfl ?_
        refine HQ.off rfl rfl hg12 rfl ?_
        refine HQ.pu (Pu.pickC1 hg12) ⟨rfl, rfl, trivial⟩ rfl rfl rfl ?_
        exact HQ.mid ⟨rfl, rfl, rfl, rfl, trivial⟩ ⟨rfl, rfl, trivial⟩ rfl
      · refine HQ.on rfl rfl hg12 ?_
        refine HQ.op [2] [2] (OT.loadBA (vs := [.int .i64 t2.1, .int .i64 t4.1, .int .i64 (IntKind.i64.wrap (gt p0 5)), .int .i64 (IntKind.i64.wrap (gt p0 6))]) ag66 sz66 rfl rfl) ⟨rfl, trivial⟩ ⟨rfl, trivial⟩ rfl rfl rfl rfl (fun _ => rfl) fun _ => ?_
        refine HQ.on rfl rfl hg12 ?_
        obtain ⟨t13, h14, H⟩ := bnd H
        refine HQ.op [] [3] (OT.call (us := [_]) (Pre := []) [.tmp 38] Try.call114 rfl rfl fun w F hs hF hp => spec_HeadCell_c h14) ⟨rfl, rfl, trivial⟩ trivial rfl rfl rfl rfl (fun _ => rfl) fun ⟨a15, c16⟩ => ?_
        refine HQ.on rfl rfl hg12 ?_
        obtain ⟨t17, h18, H⟩ := bnd H
        refine HQ.op [3] [4, 3] (OT.call (us := [_, _]) (Pre := [OwnS kU8 a15 c16 t13]) [.tmp 39, .const (.int .i64 32)] Try.call86 rfl rfl fun w F hs hF hp => spec_Pad_c (hs.lend hF 0 rfl) h18) ⟨rfl, rfl, rfl, trivial⟩ ⟨rfl, trivial⟩ rfl rfl rfl rfl (fun _ => rfl) fun ⟨a19, c20⟩ => ?_
        refine HQ.on rfl rfl hg12 ?_
        refine HQ.pu Pu.move ⟨rfl, trivial⟩ rfl rfl rfl ?_
        refine HQ.on rfl rfl hg12 ?_
        obtain ⟨t21, h22, H⟩ := bnd H
        refine HQ.op [4] [4] (OT.call (us := [_, _]) (Pre := [OwnS kU8 a19 c20 t17]) [.tmp 40, .tmp 41] Try.call118 rfl rfl fun w F hs hF hp => spec_l6Same_c (hs.lend hF 0 rfl) (hb_0.pass hp) h22) ⟨rfl, rfl, rfl, trivial⟩ ⟨rfl, trivial⟩ rfl rfl rfl rfl (fun _ => rfl) fun _ => ?_
        refine HQ.on rfl rfl hg12 ?_
        refine HQ.pu Pu.not ⟨rfl, trivial⟩ rfl rfl rfl ?_
        obtain rfl := Option.some.inj H
        refine HQ.pu (Pu.pickC0 hg12) ⟨rfl, rfl, trivial⟩ rfl rfl rfl ?_
        exact HQ.mid ⟨rfl, rfl, rfl, rfl, trivial⟩ ⟨rfl, rfl, trivial⟩ rfl
    refine HQ.done ?_
    refine HQ.keep [(44, _), (2, _), (3, _), (8, _)] ⟨rfl, rfl, rfl, rfl, trivial⟩ ?_
    rcases brk H with ⟨hc, H⟩ | ⟨hc, H⟩
    · refine HQ.condT rfl hc ?_
      clear hc
      refine HQ.rseq ?_
      refine HQ.pu (Pu.build (us := []) (cs := [.int .i64 0, .int .i64 0, .int .i64 0, .int .i64 0]) [] st66 rfl rfl rfl) trivial rfl rfl rfl ?_
      refine HQ.opN [1] [1] [] (OT.storeC (cs' := [.int .i64 0, .int .i64 0, .int .i64 0, .int .i64 0]) sz66 rfl rfl rfl rfl rfl) ⟨rfl, rfl, trivial⟩ ⟨rfl, trivial⟩ rfl rfl rfl (fun _ => rfl) fun _ => ?_
      refine HQ.pu Pu.assign ⟨rfl, trivial⟩ rfl rfl rfl ?_
      refine HQ.done ?_
      refine HQ.keep [(2, _), (3, _), (8, _)] ⟨rfl, rfl, rfl, trivial⟩ ?_
      refine HQ.ret ?_
      refine HQ.thenR ?_
      obtain rfl := Option.some.inj H
      exact HQ.fin (vs := [_, _]) Try.results109 () ⟨⟨_, _, 1, rfl, rfl, ag66, sz66, rfl⟩, rfl, trivial⟩ rfl [] trivial rfl
    · refine HQ.condF rfl hc ?_
      clear hc
      refine HQ.skipThen ?_
      refine HQ.rseq ?_
      refine HQ.op [2] [2] (OT.loadBA (vs := [.int .i64 t2.1, .int .i64 t4.1, .int .i64 (IntKind.i64.wrap (gt p0 5)), .int .i64 (IntKind.i64.wrap (gt p0 6))]) ag66 sz66 rfl rfl) ⟨rfl, trivial⟩ ⟨rfl, trivial⟩ rfl rfl rfl rfl (fun _ => rfl) fun _ => ?_
      refine HQ.opN [1] [1] [] (OT.storeC (cs' := [.int .i64 t2.1, .int .i64 t4.1, .int .i64 (IntKind.i64.wrap (gt p0 5)), .int .i64 (IntKind.i64.wrap (gt p0 6))]) sz66 rfl rfl rfl rfl rfl) ⟨rfl, rfl, trivial⟩ ⟨rfl, trivial⟩ rfl rfl rfl (fun _ => rfl) fun _ => ?_
      refine HQ.pu Pu.assign ⟨rfl, trivial⟩ rfl rfl rfl ?_
      refine HQ.done ?_
      refine HQ.keep [(2, _), (3, _)] ⟨rfl, rfl, trivial⟩ ?_
      refine HQ.ret ?_
      obtain rfl := Option.some.inj H
      exact HQ.fin (vs := [_, _]) Try.results109 () ⟨⟨_, _, 1, rfl, rfl, ag66, sz66, rfl⟩, rfl, trivial⟩ rfl [] trivial rfl

/-! spec.BestHead -/
theorem spec_BestHead_c {w : World} {k : Nat} {p0 : TDisk} {a_0 : Option Addr} {c_0 : Nat} {a_1 : Option Addr} {c_1 : Nat} (hb_0 : BorS kTCell a_0 c_0 p0.Cells w.heap (Lt w Nil)) (hb_1 : BorS kTWet a_1 c_1 p0.Wet w.heap (Lt w Nil)) {r : THead × Bool} (H : spec_BestHead k p0 = some r) :
    Calls Try.prog 43 #[.agg #[.slice a_0 (List.length p0.Cells) c_0, .slice a_1 (List.length p0.Wet) c_1, .int .i64 p0.Fuse, .bool p0.Dead]] w (Rt w Nil (fun _ : Unit => .tuple #[.agg #[.int .i64 r.1.Epoch, .int .i64 r.1.Seq, .int .i64 r.1.Root, .int .i64 r.1.Size], .bool r.2]) (fun _ => [])) := by
  rw [spec_BestHead] at H
  refine Calls.enter0 (N := 49) (us := [_]) Try.func43 rfl rfl rfl ?_
  refine HQ.rseq ?_
  refine HQ.op [] [1] (OT.box (cs := [.slice a_0 (List.length p0.Cells) c_0, .slice a_1 (List.length p0.Wet) c_1, .int .i64 p0.Fuse, .bool p0.Dead]) rfl) ⟨rfl, trivial⟩ trivial rfl rfl rfl rfl (fun _ => rfl) fun b1 => ?_
  refine HQ.op [] [2] (OT.alloc zc66) trivial trivial rfl rfl rfl rfl (fun _ => rfl) fun b2 => ?_
  refine HQ.pu Pu.assign ⟨rfl, trivial⟩ rfl rfl rfl ?_
  refine HQ.done ?_
  refine HQ.keep [(1, _), (2, _), (3, _)] ⟨rfl, rfl, rfl, trivial⟩ ?_
  refine HQ.rseq ?_
  refine HQ.pu (Pu.build (us := []) (cs := [.int .i64 0, .int .i64 0, .int .i64 0, .int .i64 0]) [] st66 rfl rfl rfl) trivial rfl rfl rfl ?_
  refine HQ.op [] [3] (OT.alloc zc66) trivial trivial rfl rfl rfl rfl (fun _ => rfl) fun b3 => ?_
  refine HQ.opN [3] [3] [] (OT.storeC (cs' := [.int .i64 0, .int .i64 0, .int .i64 0, .int .i64 0]) sz66 rfl rfl rfl rfl rfl) ⟨rfl, rfl, trivial⟩ ⟨rfl, trivial⟩ rfl rfl rfl (fun _ => rfl) fun _ => ?_
  refine HQ.done ?_
  refine HQ.keep [(1, _), (2, _), (3, _), (4, _)] ⟨rfl, rfl, rfl, rfl, trivial⟩ ?_
  refine HQ.rseq ?_
  refine HQ.pu Pu.assign ⟨rfl, trivial⟩ rfl rfl rfl ?_
  refine HQ.done ?_
  refine HQ.keep [(1, _), (2, _), (3, _), (4, _), (5, _)] ⟨rfl, rfl, rfl, rfl, rfl, trivial⟩ ?_
  refine HQ.seq ?_
  refine HQ.rseq ?_
  refine HQ.pu Pu.assign ⟨rfl, trivial⟩ rfl rfl rfl ?_
  refine HQ.done ?_
  refine HQ.keep [(1, _), (2, _), (3, _), (4, _), (5, _), (6, _)] ⟨rfl, rfl, rfl, rfl, rfl, rfl, trivial⟩ ?_
  refine HQ.block ?_
  obtain ⟨o40, h47, H⟩ := bnd H
  refine HQ.loop h47 0 (fun (s : Bool × Int × Int × Int × Int × Int) (g : Unit) => match s, g with | (q14, i15, i16, i17, i18, i19), () => [(1, BP b1 0), (2, BP b2 0), (3, .bool false), (4, BP b3 0), (5, .bool q14), (6, .int .i64 i15)]) (fun (s : Bool × Int × Int × Int × Int × Int) (g : Unit) => match s, g with | (q14, i15, i16, i17, i18, i19), () => [(1, Box b1 [.slice a_0 (List.length p0.Cells) c_0, .slice a_1 (List.length p0.Wet) c_1, .int .i64 p0.Fuse, .bool p0.Dead]), (2, Box b2 [.int .i64 0, .int .i64 0, .int .i64 0, .int .i64 0]), (3, Box b3 [.int .i64 i16, .int .i64 i17, .int .i64 i18, .int .i64 i19])]) (fun _ _ _ => False) () ⟨rfl, rfl, rfl, rfl, rfl, rfl, trivial⟩ ⟨rfl, rfl, rfl, trivial⟩ rfl ?_ ?_ ?_
  · clear H h47
    rintro ⟨q14, i15, i16, i17, i18, i19⟩ _ o H
    rw [spec_BestHead_b0] at H
    refine HQ.keep [(1, _), (2, _), (3, _), (4, _), (5, _), (6, _)] ⟨rfl, rfl, rfl, rfl, rfl, rfl, trivial⟩ ?_
    refine HQ.keepR [(1, _), (2, _), (3, _)] ⟨rfl, rfl, rfl, trivial⟩ rfl ?_
    refine HQ.seq ?_
    refine HQ.rseq ?_
    refine HQ.pu Pu.move ⟨rfl, trivial⟩ rfl rfl rfl ?_
    refine HQ.pu Pu.lss ⟨rfl, rfl, trivial⟩ rfl rfl rfl ?_
    refine HQ.done ?_
    refine HQ.keep [(1, _), (2, _), (3, _), (4, _), (5, _), (6, _), (13, _)] ⟨rfl, rfl, rfl, rfl, rfl, rfl, rfl, trivial⟩ ?_
    rcases brk H with ⟨hc, H⟩ | ⟨hc, H⟩
    · refine HQ.condT rfl hc ?_
      clear hc
      refine HQ.skipThen ?_
      refine HQ.seq ?_
      refine HQ.block ?_
      refine HQ.rseq ?_
      refine HQ.op [1] [1] (OT.loadBA (vs := [.slice a_0 (List.length p0.Cells) c_0, .slice a_1 (List.length p0.Wet) c_1, .int .i64 p0.Fuse, .bool p0.Dead]) ag42 sz42 rfl rfl) ⟨rfl, trivial⟩ ⟨rfl, trivial⟩ rfl rfl rfl rfl (fun _ => rfl) fun _ => ?_
      refine HQ.pu Pu.move ⟨rfl, trivial⟩ rfl rfl rfl ?_
      obtain ⟨t30, h31, H⟩ := bnd H
      refine HQ.op [] [8] (OT.call (us := [_, _]) (Pre := []) [.tmp 17, .tmp 18] Try.call108 rfl rfl fun w F hs hF hp => spec_Read_c (hb_0.pass hp) (hb_1.pass hp) h31) ⟨rfl, rfl, rfl, trivial⟩ trivial rfl rfl rfl rfl (fun _ => rfl) fun ⟨a32, c33⟩ => ?_
      refine HQ.pu Pu.move ⟨rfl, trivial⟩ rfl rfl rfl ?_
      refine HQ.pu (Pu.extract rfl) ⟨rfl, trivial⟩ rfl rfl rfl ?_
      refine HQ.pu (Pu.extract rfl) ⟨rfl, trivial⟩ rfl rfl rfl ?_
      refine HQ.pu Pu.assign ⟨rfl, trivial⟩ rfl rfl rfl ?_
      refine HQ.pu Pu.assign ⟨rfl, trivial⟩ rfl rfl rfl ?_
      refine HQ.done ?_
      refine HQ.keep [(1, _), (2, _), (3, _), (4, _), (5, _), (6, _), (7, _)] ⟨rfl, rfl, rfl, rfl, rfl, rfl, rfl, trivial⟩ ?_
      refine HQ.rseq ?_
      refine HQ.pu Pu.move ⟨rfl, trivial⟩ rfl rfl rfl ?_
      obtain ⟨t34, h35, H⟩ := bnd H
      refine HQ.op [8] [8] (OT.call (us := [_]) (Pre := [OwnS kU8 a32 c33 t30.1]) [.tmp 23] Try.call109 rfl rfl fun w F hs hF hp => spec_GetHead_c (hs.lend hF 0 rfl) h35) ⟨rfl, rfl, trivial⟩ ⟨rfl, trivial⟩ rfl rfl rfl rfl (fun _ => rfl) fun _ => ?_
      refine HQ.pu Pu.move ⟨rfl, trivial⟩ rfl rfl rfl ?_
      refine HQ.pu (Pu.extract rfl) ⟨rfl, trivial⟩ rfl rfl rfl ?_
      refine HQ.pu (Pu.extract rfl) ⟨rfl, trivial⟩ rfl rfl rfl ?_
      refine HQ.op [] [9] (OT.alloc zc66) trivial trivial rfl rfl rfl rfl (fun _ => rfl) fun b36 => ?_
      refine HQ.opN [9] [9] [] (OT.storeC (cs' := [.int .i64 t34.1.Epoch, .int .i64 t34.1.Seq, .int .i64 t34.1.Root, .int .i64 t34.1.Size]) sz66 rfl rfl rfl rfl rfl) ⟨rfl, rfl, trivial⟩ ⟨rfl, trivial⟩ rfl rfl rfl (fun _ => rfl) fun _ => ?_
      refine HQ.pu Pu.assign ⟨rfl, trivial⟩ rfl rfl rfl ?_
      refine HQ.done ?_
      refine HQ.keep [(1, _), (2, _), (3, _), (4, _), (5, _), (6, _), (9, _), (10, _)] ⟨rfl, rfl, rfl, rfl, rfl, rfl, rfl, rfl, trivial⟩ ?_
      refine HQ.rseq ?_
      refine HQ.pu Pu.move ⟨rfl, trivial⟩ rfl rfl rfl ?_
      refine HQ.pu Pu.move ⟨rfl, trivial⟩ rfl rfl rfl ?_
      refine HQ.cutAt 6 [(34, .bool (t34.2 && (decide ((Int.tmod t34.1.Epoch 2) = i15)))), (1, BP b1 0), (2, BP b2 0), (3, .bool false), (4, BP b3 0), (5, .bool q14), (6, .int .i64 i15), (9, BP b36 0)] [(1, Box b1 [.slice a_0 (List.length p0.Cells) c_0, .slice a_1 (List.length p0.Wet) c_1, .int .i64 p0.Fuse, .bool p0.Dead]), (2, Box b2 [.int .i64 0, .int .i64 0, .int .i64 0, .int .i64 0]), (3, Box b3 [.int .i64 i16, .int .i64 i17, .int .i64 i18, .int .i64 i19]), (8, OwnS kU8 a32 c33 t30.1), (9, Box b36 [.int .i64 t34.1.Epoch, .int .i64 t34.1.Seq, .int .i64 t34.1.Root, .int .i64 t34.1.Size])] ?_ ?_
      · rcases Bool.eq_false_or_eq_true t34.2 with hg37 | hg37
        · refine HQ.on rfl rfl hg37 ?_
          refine HQ.pu (Pu.fieldB fo66_0 rfl) ⟨rfl, trivial⟩ rfl rfl rfl ?_
          refine HQ.on rfl rfl hg37 ?_
          refine HQ.op [9] [9] (OT.loadB sc3 rfl) ⟨rfl, trivial⟩ ⟨rfl, trivial⟩ rfl rfl rfl rfl (fun _ => rfl) fun _ => ?_
          refine HQ.on rfl rfl hg37 ?_
          refine HQ.pu (Pu.rem (by decide)) ⟨rfl, rfl, trivial⟩ rfl rfl rfl ?_
          refine HQ.on rfl rfl hg37 ?_
          refine HQ.pu Pu.move ⟨rfl, trivial⟩ rfl rfl rfl ?_
          refine HQ.on rfl rfl hg37 ?_
          refine HQ.pu Pu.eql ⟨rfl, rfl, trivial⟩ rfl rfl rfl ?_
          refine HQ.pu (Pu.pickAT hg37) ⟨rfl, rfl, trivial⟩ rfl rfl rfl ?_
          exact HQ.mid ⟨rfl, rfl, rfl, rfl, rfl, rfl, rfl, rfl, trivial⟩ ⟨rfl, rfl, rfl, rfl, rfl, trivial⟩ rfl
        · refine HQ.off rfl rfl hg37 rfl ?_
          refine HQ.off rfl rfl hg37 rfl ?_
          refine HQ.off rfl rfl hg37 rfl ?_
          refine HQ.off rfl rfl hg37 rfl ?_
          refine HQ.off rfl rfl hg37 rfl ?_
          refine HQ.pu (Pu.pickAF (u := (decide ((Int.tmod t34.1.Epoch 2) = i15))) hg37) ⟨rfl, rfl, trivial⟩ rfl rfl rfl ?_
          exact HQ.mid ⟨rfl, rfl, rfl, rfl, rfl, rfl, rfl, rfl, trivial⟩ ⟨rfl, rfl, rfl, rfl, rfl, trivial⟩ rfl
      refine HQ.pu Pu.move ⟨rfl, trivial⟩ rfl rfl rfl ?_
      refine HQ.cutAt 10 [(45, .bool ((t34.2 && (decide ((Int.tmod t34.1.Epoch 2) = i15))) && ((!q14) || (decide (t34.1.Epoch > i16))))), (1, BP b1 0), (2, BP b2 0), (3, .bool false), (4, BP b3 0), (5, .bool q14), (6, .int .i64 i15), (9, BP b36 0)] [(1, Box b1 [.slice a_0 (List.length p0.Cells) c_0, .slice a_1 (List.length p0.Wet) c_1, .int .i64 p0.Fuse, .bool p0.Dead]), (2, Box b2 [.int .i64 0, .int .i64 0, .int .i64 0, .int .i64 0]), (3, Box b3 [.int .i64 i16, .int .i64 i17, .int .i64 i18, .int .i64 i19]), (8, OwnS kU8 a32 c33 t30.1), (9, Box b36 [.int .i64 t34.1.Epoch, .int .i64 t34.1.Seq, .int .i64 t34.1.Root, .int .i64 t34.1.Size])] ?_ ?_
      · rcases Bool.eq_false_or_eq_true (t34.2 && (decide ((Int.tmod t34.1.Epoch 2) = i15))) with hg38 | hg38
        · refine HQ.on rfl rfl hg38 ?_
          refine HQ.pu Pu.move ⟨rfl, trivial⟩ rfl rfl rfl ?_
          refine HQ.on rfl rfl hg38 ?_
          refine HQ.pu Pu.not ⟨rfl, trivial⟩ rfl rfl rfl ?_
          refine HQ.on rfl rfl hg38 ?_
          refine HQ.pu Pu.move ⟨rfl, trivial⟩ rfl rfl rfl ?_
          refine HQ.cutAt 6 [(44, .bool ((!q14) || (decide (t34.1.Epoch > i16)))), (1, BP b1 0), (2, BP b2 0), (3, .bool false), (4, BP b3 0), (5, .bool q14), (6, .int .i64 i15), (9, BP b36 0), (35, .bool (t34.2 && (decide ((Int.tmod t34.1.Epoch 2) = i15)))), (36, .bool q14), (37, .bool (!q14)), (38, .bool (!q14))] [(1, Box b1 [.slice a_0 (List.length p0.Cells) c_0, .slice a_1 (List.length p0.Wet) c_1, .int .i64 p0.Fuse, .bool p0.Dead]), (2, Box b2 [.int .i64 0, .int .i64 0, .int .i64 0, .int .i64 0]), (3, Box b3 [.int .i64 i16, .int .i64 i17, .int .i64 i18, .int .i64 i19]), (8, OwnS kU8 a32 c33 t30.1), (9, Box b36 [.int .i64 t34.1.Epoch, .int .i64 t34.1.Seq, .int .i64 t34.1.Root, .int .i64 t34.1.Size])] ?_ ?_
          · rcases Bool.eq_false_or_eq_true (!q14) with hg39 | hg39
            · refine HQ.off rfl rfl hg39 rfl ?_
              refine HQ.off rfl rfl hg39 rfl ?_
              refine HQ.off rfl rfl hg39 rfl ?_
              refine HQ.off rfl rfl hg39 rfl ?_
              refine HQ.off rfl rfl hg39 rfl ?_
              refine HQ.on rfl rfl hg38 ?_
              refine HQ.pu (Pu.pickOT (u := (decide (t34.1.Epoch > i16))) hg39) ⟨rfl, rfl, trivial⟩ rfl rfl rfl ?_
              exact HQ.mid ⟨rfl, rfl, rfl, rfl, rfl, rfl, rfl, rfl, rfl, rfl, rfl, rfl, trivial⟩ ⟨rfl, rfl, rfl, rfl, rfl, trivial⟩ rfl
            · refine HQ.on rfl rfl hg39 ?_
              refine HQ.pu (Pu.fieldB fo66_0 rfl) ⟨rfl, trivial⟩ rfl rfl rfl ?_
              refine HQ.on rfl rfl hg39 ?_
              refine HQ.op [9] [9] (OT.loadB sc3 rfl) ⟨rfl, trivial⟩ ⟨rfl, trivial⟩ rfl rfl rfl rfl (fun _ => rfl) fun _ => ?_
              refine HQ.on rfl rfl hg39 ?_
              refine HQ.pu (Pu.fieldB fo66_0 rfl) ⟨rfl, trivial⟩ rfl rfl rfl ?_
              refine HQ.on rfl rfl hg39 ?_
              refine HQ.op [3] [3] (OT.loadB sc3 rfl) ⟨rfl, trivial⟩ ⟨rfl, trivial⟩ rfl rfl rfl rfl (fun _ => rfl) fun _ => ?_
              refine HQ.on rfl rfl hg39 ?_
              refine HQ.pu Pu.gtr ⟨rfl, rfl, trivial⟩ rfl rfl rfl ?_
              refine HQ.on rfl rfl hg38 ?_
              refine HQ.pu (Pu.pickOF hg39) ⟨rfl, rfl, trivial⟩ rfl rfl rfl ?_
              exact HQ.mid ⟨rfl, rfl, rfl, rfl, rfl, rfl, rfl, rfl, rfl, rfl, rfl, rfl, trivial⟩ ⟨rfl, rfl, rfl, rfl, rfl, trivial⟩ rfl
          refine HQ.pu (Pu.pickAT hg38) ⟨rfl, rfl, trivial⟩ rfl rfl rfl ?_
          exact HQ.mid ⟨rfl, rfl, rfl, rfl, rfl, rfl, rfl, rfl, trivial⟩ ⟨rfl, rfl, rfl, rfl, rfl, trivial⟩ rfl
        · refine HQ.off rfl rfl hg38 rfl ?_
          refine HQ.off rfl rfl hg38 rfl ?_
          refine HQ.off rfl rfl hg38 rfl ?_
          refine HQ.offU rfl rfl rfl ?_
          refine HQ.offU rfl rfl rfl ?_
          refine HQ.offU rfl rfl rfl ?_
          refine HQ.offU rfl rfl rfl ?_
          refine HQ.offU rfl rfl rfl ?_
          refine HQ.off rfl rfl hg38 rfl ?_
          refine HQ.pu (Pu.pickAF (u := ((!q14) || (decide (t34.1.Epoch > i16)))) hg38) ⟨rfl, rfl, trivial⟩ rfl rfl rfl ?_
          exact HQ.mid ⟨rfl, rfl, rfl, rfl, rfl, rfl, rfl, rfl, trivial⟩ ⟨rfl, rfl, rfl, rfl, rfl, trivial⟩ rfl
      refine HQ.done ?_
      refine HQ.keep [(45, _), (1, _), (2, _), (3, _), (4, _), (5, _), (6, _), (9, _)] ⟨rfl, rfl, rfl, rfl, rfl, rfl, rfl, rfl, trivial⟩ ?_
      rcases brk H with ⟨hc, H⟩ | ⟨hc, H⟩
      · refine HQ.condT rfl hc ?_
        clear hc
        refine HQ.rseq ?_
        refine HQ.op [9] [9] (OT.loadBA (vs := [.int .i64 t34.1.Epoch, .int .i64 t34.1.Seq, .int .i64 t34.1.Root, .int .i64 t34.1.Size]) ag66 sz66 rfl rfl) ⟨rfl, trivial⟩ ⟨rfl, trivial⟩ rfl rfl rfl rfl (fun _ => rfl) fun _ => ?_
        refine HQ.opN [3] [3] [] (OT.storeC (cs' := [.int .i64 t34.1.Epoch, .int .i64 t34.1.Seq, .int .i64 t34.1.Root, .int .i64 t34.1.Size]) sz66 rfl rfl rfl rfl rfl) ⟨rfl, rfl, trivial⟩ ⟨rfl, trivial⟩ rfl rfl rfl (fun _ => rfl) fun _ => ?_
        refine HQ.done ?_
        refine HQ.keep [(1, _), (2, _), (3, _), (4, _), (5, _), (6, _)] ⟨rfl, rfl, rfl, rfl, rfl, rfl, trivial⟩ ?_
        refine HQ.regionQ ?_
        refine HQ.pu Pu.assign ⟨rfl, trivial⟩ rfl rfl rfl ?_
        refine HQ.done ?_
        refine HQ.keep [(1, _), (2, _), (3, _), (4, _), (5, _), (6, _)] ⟨rfl, rfl, rfl, rfl, rfl, rfl, trivial⟩ ?_
        refine HQ.blkN ?_
        refine HQ.thenN ?_
        refine HQ.regionQ ?_
        refine HQ.pu Pu.move ⟨rfl, trivial⟩ rfl rfl rfl ?_
        refine HQ.pu Pu.add ⟨rfl, rfl, trivial⟩ rfl rfl rfl ?_
        refine HQ.pu Pu.assign ⟨rfl, trivial⟩ rfl rfl rfl ?_
        refine HQ.done ?_
        refine HQ.keep [(1, _), (2, _), (3, _), (4, _), (5, _), (6, _)] ⟨rfl, rfl, rfl, rfl, rfl, rfl, trivial⟩ ?_
        obtain rfl := Option.some.inj H
        exact HQ.next () ⟨rfl, rfl, rfl, rfl, rfl, rfl, trivial⟩ ⟨rfl, rfl, rfl, trivial⟩ rfl
      · refine HQ.condF rfl hc ?_
        clear hc
        refine HQ.skip ?_
        refine HQ.blkN ?_
        refine HQ.thenN ?_
        refine HQ.regionQ ?_
        refine HQ.pu Pu.move ⟨rfl, trivial⟩ rfl rfl rfl ?_
        refine HQ.pu Pu.add ⟨rfl, rfl, trivial⟩ rfl rfl rfl ?_
        refine HQ.pu Pu.assign ⟨rfl, trivial⟩ rfl rfl rfl ?_
        refine HQ.done ?_
        refine HQ.keep [(1, _), (2, _), (3, _), (4, _), (5, _), (6, _)] ⟨rfl, rfl, rfl, rfl, rfl, rfl, trivial⟩ ?_
        obtain rfl := Option.some.inj H
        exact HQ.next () ⟨rfl, rfl, rfl, rfl, rfl, rfl, trivial⟩ ⟨rfl, rfl, rfl, trivial⟩ rfl
    · refine HQ.condF rfl hc ?_
      clear hc
      refine HQ.exit ?_
      refine HQ.thenE ?_
      obtain rfl := Option.some.inj H
      exact HQ.out () ⟨rfl, rfl, rfl, rfl, rfl, rfl, trivial⟩ ⟨rfl, rfl, rfl, trivial⟩ rfl
  · rintro ⟨q41, i42, i43, i44, i45, i46⟩ rfl _
    clear h47
    replace H := H
    refine HQ.keep [(1, _), (2, _), (3, _), (4, _), (5, _), (6, _)] ⟨rfl, rfl, rfl, rfl, rfl, rfl, trivial⟩ ?_
    refine HQ.keepR [(1, _), (2, _), (3, _)] ⟨rfl, rfl, rfl, trivial⟩ rfl ?_
    refine HQ.blkE ?_
    refine HQ.thenN ?_
    refine HQ.rseq ?_
    refine HQ.op [3] [3] (OT.loadBA (vs := [.int .i64 i43, .int .i64 i44, .int .i64 i45, .int .i64 i46]) ag66 sz66 rfl rfl) ⟨rfl, trivial⟩ ⟨rfl, trivial⟩ rfl rfl rfl rfl (fun _ => rfl) fun _ => ?_
    refine HQ.pu Pu.move ⟨rfl, trivial⟩ rfl rfl rfl ?_
    refine HQ.opN [2] [2] [] (OT.storeC (cs' := [.int .i64 i43, .int .i64 i44, .int .i64 i45, .int .i64 i46]) sz66 rfl rfl rfl rfl rfl) ⟨rfl, rfl, trivial⟩ ⟨rfl, trivial⟩ rfl rfl rfl (fun _ => rfl) fun _ => ?_
    refine HQ.pu Pu.assign ⟨rfl, trivial⟩ rfl rfl rfl ?_
    refine HQ.done ?_
    refine HQ.keep [(2, _), (3, _)] ⟨rfl, rfl, trivial⟩ ?_
    refine HQ.ret ?_
    obtain rfl := Option.some.inj H
    exact HQ.fin (vs := [_, _]) Try.results43 () ⟨⟨_, _, 2, rfl, rfl, ag66, sz66, rfl⟩, rfl, trivial⟩ rfl [] trivial rfl
  · exact fun r h a w hf => hf.elim

/-! slices.Clone(()byte,byte) -/
theorem slices_Clone_byte_byte_c {w : World} {p0 : (List Int)} {a_0 : Option Addr} {c_0 : Nat} (hb_0 : BorS kU8 a_0 c_0 p0 w.heap (Lt w Nil)) {r : (List Int)} (H : slices_Clone_byte_byte p0 = some r) :
    Calls Try.prog 154 #[.slice a_0 (List.length p0) c_0] w (Rt w Nil (fun g : Option Addr × Nat => .slice g.1 (List.length r) g.2) (fun g => [OwnS kU8 g.1 g.2 r])) := by
  rw [slices_Clone_byte_byte] at H
  obtain ⟨h5, H⟩ := asr H
  obtain rfl := Option.some.inj H
  refine Calls.enter0 (N := 8) (us := [_]) Try.func154 rfl rfl rfl ?_
  refine HQ.rseq ?_
  refine HQ.pu Pu.assign ⟨rfl, trivial⟩ rfl rfl rfl ?_
  refine HQ.done ?_
  refine HQ.seq ?_
  refine HQ.rseq ?_
  refine HQ.pu Pu.move ⟨rfl, trivial⟩ rfl rfl rfl ?_
  refine HQ.pu (Pu.eqlNil ul37) ⟨rfl, rfl, trivial⟩ rfl rfl rfl ?_
  refine HQ.done ?_
  cases a_0 with
  | none =>
    refine HQ.condT rfl rfl ?_
    have hp : p0 = [] := by
      rcases hb_0.2 with h | ⟨b, off, cs, ty, fz, h, _⟩
      · exact h
      · cases h
    subst hp
    refine HQ.rseq ?_
    refine HQ.pu Pu.assign ⟨rfl, trivial⟩ rfl rfl rfl ?_
    refine HQ.done ?_
    refine HQ.ret ?_
    refine HQ.thenR ?_
    refine HQ.nil kU8 1 rfl ?_
    exact HQ.fin (vs := [_]) Try.results154 (none, 0) ⟨rfl, trivial⟩ rfl [1] ⟨rfl, trivial⟩ rfl
  | some a =>
    refine HQ.condF rfl rfl ?_
    refine HQ.skipThen ?_
    refine HQ.rseq ?_
    refine HQ.op [] [1] (OT.buildF (us := []) (ys := ([] : (List Int))) (enc := (encI .u8)) (hl := fun _ => ⟨rfl, rfl⟩) [] sl37.ul sl37.szE sl37.zc rfl rfl rfl rfl rfl) trivial trivial rfl rfl rfl rfl (fun _ => rfl) fun ⟨a1, c2⟩ => ?_
    refine HQ.pu Pu.move ⟨rfl, trivial⟩ rfl rfl rfl ?_
    refine HQ.op [1] [1] (OT.appendF (enc := (encI .u8)) (hl := fun _ => ⟨rfl, rfl⟩) sl37 ul37 hb_0 (by simpa using h5)) ⟨rfl, rfl, trivial⟩ ⟨rfl, trivial⟩ rfl rfl rfl rfl (fun _ => rfl) fun ⟨a3, c4⟩ => ?_
    refine HQ.pu Pu.assign ⟨rfl, trivial⟩ rfl rfl rfl ?_
    refine HQ.done ?_
    refine HQ.ret ?_
    exact HQ.fin (vs := [_]) Try.results154 (a3, c4) ⟨rfl, trivial⟩ rfl [1] ⟨rfl, trivial⟩ rfl

/-! impl.Read -/
theorem impl_Read_c {w : World} {k : Nat} {p0 : TDisk} {p1 : Int} {a_0 : Option Addr} {c_0 : Nat} {a_1 : Option Addr} {c_1 : Nat} (hb_0 : BorS kTCell a_0 c_0 p0.Cells w.heap (Lt w Nil)) (hb_1 : BorS kTWet a_1 c_1 p0.Wet w.heap (Lt w Nil)) {r : (List Int) × Bool} (H : impl_Read k p0 p1 = some r) :
    Calls Try.prog 110 #[.agg #[.slice a_0 (List.length p0.Cells) c_0, .slice a_1 (List.length p0.Wet) c_1, .int .i64 p0.Fuse, .bool p0.Dead], .int .i64 p1] w (Rt w Nil (fun g : Option Addr × Nat => .tuple #[.slice g.1 (List.length r.1) g.2, .bool r.2]) (fun g => [OwnS kU8 g.1 g.2 r.1])) := by
  rw [impl_Read] at H
  refine Calls.enter0 (N := 64) (us := [_, _]) Try.func110 rfl rfl rfl ?_
  refine HQ.rseq ?_
  refine HQ.op [] [1] (OT.box (cs := [.slice a_0 (List.length p0.Cells) c_0, .slice a_1 (List.length p0.Wet) c_1, .int .i64 p0.Fuse, .bool p0.Dead]) rfl) ⟨rfl, trivial⟩ trivial rfl rfl rfl rfl (fun _ => rfl) fun b1 => ?_
  refine HQ.pu Pu.assign ⟨rfl, trivial⟩ rfl rfl rfl ?_
  refine HQ.pu Pu.assign ⟨rfl, trivial⟩ rfl rfl rfl ?_
  refine HQ.done ?_
  refine HQ.keep [(1, _), (2, _), (4, _), (5, _)] ⟨rfl, rfl, rfl, rfl, trivial⟩ ?_
  refine HQ.seq ?_
  refine HQ.rseq ?_
  refine HQ.pu (Pu.fieldB fo42_1 rfl) ⟨rfl, trivial⟩ rfl rfl rfl ?_
  refine HQ.op [1] [1] (OT.loadB sc40 rfl) ⟨rfl, trivial⟩ ⟨rfl, trivial⟩ rfl rfl rfl rfl (fun _ => rfl) fun _ => ?_
  refine HQ.pu (Pu.len ul40) ⟨rfl, trivial⟩ rfl rfl rfl ?_
  refine HQ.pu Pu.sub ⟨rfl, rfl, trivial⟩ rfl rfl rfl ?_
  refine HQ.pu Pu.assign ⟨rfl, trivial⟩ rfl rfl rfl ?_
  refine HQ.done ?_
  refine HQ.keep [(1, _), (2, _), (4, _), (5, _), (6, _)] ⟨rfl, rfl, rfl, rfl, rfl, trivial⟩ ?_
  refine HQ.block ?_
  obtain ⟨o45, h73, H⟩ := bnd H
  refine HQ.loop h73 0 (fun (s : Int) (g : Unit) => match s, g with | i16, () => [(1, .int .i64 p1), (2, BP b1 0), (4, .slice none 0 0), (5, .bool false), (6, .int .i64 i16)]) (fun (s : Int) (g : Unit) => match s, g with | i16, () => [(1, Box b1 [.slice a_0 (List.length p0.Cells) c_0, .slice a_1 (List.length p0.Wet) c_1, .int .i64 p0.Fuse, .bool p0.Dead])]) (fun r => bodyPost Try.prog Try.f110 (Rt w Nil (fun g : Option Addr × Nat => .tuple #[.slice g.1 (List.length r.1) g.2, .bool r.2]) (fun g => [OwnS kU8 g.1 g.2 r.1])) .ret) () ⟨rfl, rfl, rfl, rfl, rfl, trivial⟩ ⟨rfl, trivial⟩ rfl ?_ ?_ ?_
  · clear H h73
    rintro i16 _ o H
    rw [impl_Read_b0] at H
    refine HQ.keep [(1, _), (2, _), (4, _), (5, _), (6, _)] ⟨rfl, rfl, rfl, rfl, rfl, trivial⟩ ?_
    refine HQ.keepR [(1, _)] ⟨rfl, trivial⟩ rfl ?_
    refine HQ.seq ?_
    refine HQ.rseq ?_
    refine HQ.pu Pu.move ⟨rfl, trivial⟩ rfl rfl rfl ?_
    refine HQ.pu Pu.geq ⟨rfl, rfl, trivial⟩ rfl rfl rfl ?_
    refine HQ.done ?_
    refine HQ.keep [(1, _), (2, _), (4, _), (5, _), (6, _), (12, _)] ⟨rfl, rfl, rfl, rfl, rfl, rfl, trivial⟩ ?_
    rcases brk H with ⟨hc, H⟩ | ⟨hc, H⟩
    · refine HQ.condT rfl hc ?_
      clear hc
      refine HQ.skipThen ?_
      refine HQ.seq ?_
      refine HQ.block ?_
      refine HQ.rseq ?_
      refine HQ.pu (Pu.fieldB fo42_1 rfl) ⟨rfl, trivial⟩ rfl rfl rfl ?_
      refine HQ.op [1] [1] (OT.loadB sc40 rfl) ⟨rfl, trivial⟩ ⟨rfl, trivial⟩ rfl rfl rfl rfl (fun _ => rfl) fun _ => ?_
      refine HQ.pu Pu.move ⟨rfl, trivial⟩ rfl rfl rfl ?_
      obtain ⟨h31, H⟩ := asr H
      refine HQ.op [] [] (OT.indexB ul40 sz130 hb_1 h31) ⟨rfl, rfl, trivial⟩ trivial rfl rfl rfl rfl (fun _ => rfl) fun _ => ?_
      refine HQ.pu (Pu.fieldE fo130_0 rfl) ⟨rfl, trivial⟩ rfl rfl rfl ?_
      obtain ⟨⟨a32, c33⟩, hb34, hn35⟩ := BorS.nest hb_1 h31
      refine HQ.op [] [] (OT.loadN (v := .int .i64 ((gt p0.Wet i16).At)) sc3 hn35 hlTWet rfl) ⟨rfl, trivial⟩ trivial rfl rfl rfl rfl (fun _ => rfl) fun _ => ?_
      refine HQ.pu Pu.move ⟨rfl, trivial⟩ rfl rfl rfl ?_
      refine HQ.pu Pu.eql ⟨rfl, rfl, trivial⟩ rfl rfl rfl ?_
      refine HQ.done ?_
      refine HQ.keep [(1, _), (2, _), (4, _), (5, _), (6, _), (22, _)] ⟨rfl, rfl, rfl, rfl, rfl, rfl, trivial⟩ ?_
      rcases brk H with ⟨hc, H⟩ | ⟨hc, H⟩
      · refine HQ.condT rfl hc ?_
        clear hc
        refine HQ.rseq ?_
        refine HQ.pu (Pu.fieldB fo42_1 rfl) ⟨rfl, trivial⟩ rfl rfl rfl ?_
        refine HQ.op [1] [1] (OT.loadB sc40 rfl) ⟨rfl, trivial⟩ ⟨rfl, trivial⟩ rfl rfl rfl rfl (fun _ => rfl) fun _ => ?_
        refine HQ.pu Pu.move ⟨rfl, trivial⟩ rfl rfl rfl ?_
        obtain ⟨h36, H⟩ := asr H
        refine HQ.op [] [] (OT.indexB ul40 sz130 hb_1 h36) ⟨rfl, rfl, trivial⟩ trivial rfl rfl rfl rfl (fun _ => rfl) fun _ => ?_
        refine HQ.pu (Pu.fieldE fo130_1 rfl) ⟨rfl, trivial⟩ rfl rfl rfl ?_
        obtain ⟨⟨a37, c38⟩, hb39, hn40⟩ := BorS.nest hb_1 h36
        refine HQ.op [] [] (OT.loadN (v := .slice a37 (List.length ((gt p0.Wet i16).B)) c38) sc37 hn40 hlTWet rfl) ⟨rfl, trivial⟩ trivial rfl rfl rfl rfl (fun _ => rfl) fun _ => ?_
        obtain ⟨t41, h42, H⟩ := bnd H
        refine HQ.op [] [4] (OT.call (us := [_]) (Pre := []) [.tmp 28] Try.call154 rfl rfl fun w F hs hF hp => slices_Clone_byte_byte_c (hb39.pass hp) h42) ⟨rfl, rfl, trivial⟩ trivial rfl rfl rfl rfl (fun _ => rfl) fun ⟨a43, c44⟩ => ?_
        refine HQ.pu Pu.assign ⟨rfl, trivial⟩ rfl rfl rfl ?_
        refine HQ.pu Pu.assign ⟨rfl, trivial⟩ rfl rfl rfl ?_
        refine HQ.done ?_
        refine HQ.keep [(1, _), (2, _), (4, _), (5, _), (6, _)] ⟨rfl, rfl, rfl, rfl, rfl, trivial⟩ ?_
        refine HQ.ret ?_
        refine HQ.blkR ?_
        refine HQ.thenR ?_
        obtain rfl := Option.some.inj H
        refine HQ.retL ?_
        exact HQ.fin (vs := [_, _]) Try.results110 (a43, c44) ⟨rfl, rfl, trivial⟩ rfl [4] ⟨rfl, trivial⟩ rfl
      · refine HQ.condF rfl hc ?_
        clear hc
        refine HQ.skip ?_
        refine HQ.blkN ?_
        refine HQ.thenN ?_
        refine HQ.regionQ ?_
        refine HQ.pu Pu.move ⟨rfl, trivial⟩ rfl rfl rfl ?_
        refine HQ.pu Pu.sub ⟨rfl, rfl, trivial⟩ rfl rfl rfl ?_
        refine HQ.pu Pu.assign ⟨rfl, trivial⟩ rfl rfl rfl ?_
        refine HQ.done ?_
        refine HQ.keep [(1, _), (2, _), (4, _), (5, _), (6, _)] ⟨rfl, rfl, rfl, rfl, rfl, trivial⟩ ?_
        obtain rfl := Option.some.inj H
        exact HQ.next () ⟨rfl, rfl, rfl, rfl, rfl, trivial⟩ ⟨rfl, trivial⟩ rfl
    · refine HQ.condF rfl hc ?_
      clear hc
      refine HQ.exit ?_
      refine HQ.thenE ?_
      obtain rfl := Option.some.inj H
      exact HQ.out () ⟨rfl, rfl, rfl, rfl, rfl, trivial⟩ ⟨rfl, trivial⟩ rfl
  · rintro i46 rfl _
    clear h73
    replace H := H
    refine HQ.keep [(1, _), (2, _), (4, _), (5, _), (6, _)] ⟨rfl, rfl, rfl, rfl, rfl, trivial⟩ ?_
    refine HQ.keepR [(1, _)] ⟨rfl, trivial⟩ rfl ?_
    refine HQ.blkE ?_
    refine HQ.thenN ?_
    refine HQ.seq ?_
    refine HQ.rseq ?_
    refine HQ.pu Pu.move ⟨rfl, trivial⟩ rfl rfl rfl ?_
    refine HQ.pu Pu.lss ⟨rfl, rfl, trivial⟩ rfl rfl rfl ?_
    refine HQ.pu Pu.move ⟨rfl, trivial⟩ rfl rfl rfl ?_
    refine HQ.cutAt 6 [(38, .bool ((decide (p1 < 0)) || (decide (p1 ≥ ((List.length p0.Cells : Nat) : Int))))), (1, .int .i64 p1), (2, BP b1 0), (4, .slice none 0 0), (5, .bool false)] [(1, Box b1 [.slice a_0 (List.length p0.Cells) c_0, .slice a_1 (List.length p0.Wet) c_1, .int .i64 p0.Fuse, .bool p0.Dead])] ?_ ?_
    · rcases Bool.eq_false_or_eq_true (decide (p1 < 0)) with hg47 | hg47
      · refine HQ.off rfl rfl hg47 rfl ?_
        refine HQ.off rfl rfl hg47 rfl ?_
        refine HQ.off rfl rfl hg47 rfl ?_
        refine HQ.off rfl rfl hg47 rfl ?_
        refine HQ.off rfl rfl hg47 rfl ?_
        refine HQ.pu (Pu.pickOT (u := (decide (p1 ≥ ((List.length p0.Cells : Nat) : Int)))) hg47) ⟨rfl, rfl, trivial⟩ rfl rfl rfl ?_
        exact HQ.mid ⟨rfl, rfl, rfl, rfl, rfl, trivial⟩ ⟨rfl, trivial⟩ rfl
      · refine HQ.on rfl rfl hg47 ?_
        refine HQ.pu Pu.move ⟨rfl, trivial⟩ rfl rfl rfl ?_
        refine HQ.on rfl rfl hg47 ?_
        refine HQ.pu (Pu.fieldB fo42_0 rfl) ⟨rfl, trivial⟩ rfl rfl rfl ?_
        refine HQ.on rfl rfl hg47 ?_
        refine HQ.op [1] [1] (OT.loadB sc39 rfl) ⟨rfl, trivial⟩ ⟨rfl, trivial⟩ rfl rfl rfl rfl (fun _ => rfl) fun _ => ?_
        refine HQ.on rfl rfl hg47 ?_
        refine HQ.pu (Pu.len ul39) ⟨rfl, trivial⟩ rfl rfl rfl ?_
        refine HQ.on rfl rfl hg47 ?_
        refine HQ.pu Pu.geq ⟨rfl, rfl, trivial⟩ rfl rfl rfl ?_
        refine HQ.pu (Pu.pickOF hg47) ⟨rfl, rfl, trivial⟩ rfl rfl rfl ?_
        exact HQ.mid ⟨rfl, rfl, rfl, rfl, rfl, trivial⟩ ⟨rfl, trivial⟩ rfl
    refine HQ.pu Pu.move ⟨rfl, trivial⟩ rfl rfl rfl ?_
    obtain ⟨c54, h55, H⟩ := bnd H
    refine HQ.cutAt 7 [(46, .bool c54), (1, .int .i64 p1), (2, BP b1 0), (4, .slice none 0 0), (5, .bool false)] [(1, Box b1 [.slice a_0 (List.length p0.Cells) c_0, .slice a_1 (List.length p0.Wet) c_1, .int .i64 p0.Fuse, .bool p0.Dead])] ?_ ?_
    · clear H
      have H := h55
      rcases brk H with ⟨hg48, H⟩ | ⟨hg48, H⟩
      · obtain rfl := Option.some.inj H
        refine HQ.off rfl rfl hg48 rfl ?_
        refine HQ.off rfl rfl hg48 rfl ?_
        refine HQ.off rfl rfl hg48 rfl ?_
        refine HQ.off rfl rfl hg48 rfl ?_
        refine HQ.off rfl rfl hg48 rfl ?_
        refine HQ.off rfl rfl hg48 rfl ?_
        refine HQ.pu (Pu.pickC1 hg48) ⟨rfl, rfl, trivial⟩ rfl rfl rfl ?_
        exact HQ.mid ⟨rfl, rfl, rfl, rfl, rfl, trivial⟩ ⟨rfl, trivial⟩ rfl
      · refine HQ.on rfl rfl hg48 ?_
        refine HQ.pu (Pu.fieldB fo42_0 rfl) ⟨rfl, trivial⟩ rfl rfl rfl ?_
        refine HQ.on rfl rfl hg48 ?_
        refine HQ.op [1] [1] (OT.loadB sc39 rfl) ⟨rfl, trivial⟩ ⟨rfl, trivial⟩ rfl rfl rfl rfl (fun _ => rfl) fun _ => ?_
        refine HQ.on rfl rfl hg48 ?_
        refine HQ.pu Pu.move ⟨rfl, trivial⟩ rfl rfl rfl ?_
        refine HQ.on rfl rfl hg48 ?_
        obtain ⟨h49, H⟩ := asr H
        refine HQ.op [] [] (OT.indexB ul39 sz140 hb_0 h49) ⟨rfl, rfl, trivial⟩ trivial rfl rfl rfl rfl (fun _ => rfl) fun _ => ?_
        refine HQ.on rfl rfl hg48 ?_
        refine HQ.pu (Pu.fieldE fo140_0 rfl) ⟨rfl, trivial⟩ rfl rfl rfl ?_
        refine HQ.on rfl rfl hg48 ?_
        obtain ⟨⟨a50, c51⟩, hb52, hn53⟩ := BorS.nest hb_0 h49
        refine HQ.op [] [] (OT.loadN (v := .bool ((gt p0.Cells p1).Bad)) sc4 hn53 hlTCell rfl) ⟨rfl, trivial⟩ trivial rfl rfl rfl rfl (fun _ => rfl) fun _ => ?_
        obtain rfl := Option.some.inj H
        refine HQ.pu (Pu.pickC0 hg48) ⟨rfl, rfl, trivial⟩ rfl rfl rfl ?_
        exact HQ.mid ⟨rfl, rfl, rfl, rfl, rfl, trivial⟩ ⟨rfl, trivial⟩ rfl
    refine HQ.pu Pu.move ⟨rfl, trivial⟩ rfl rfl rfl ?_
    obtain ⟨c62, h63, H⟩ := bnd H
    refine HQ.cutAt 9 [(56, .bool c62), (1, .int .i64 p1), (2, BP b1 0), (4, .slice none 0 0), (5, .bool false)] [(1, Box b1 [.slice a_0 (List.length p0.Cells) c_0, .slice a_1 (List.length p0.Wet) c_1, .int .i64 p0.Fuse, .bool p0.Dead])] ?_ ?_
    · clear H
      have H := h63
      rcases brk H with ⟨hg56, H⟩ | ⟨hg56, H⟩
      · obtain rfl := Option.some.inj H
        refine HQ.off rfl rfl hg56 rfl ?_
        refine HQ.off rfl rfl hg56 rfl ?_
        refine HQ.off rfl rfl hg56 rfl ?_
        refine HQ.off rfl rfl hg56 rfl ?_
        refine HQ.off rfl rfl hg56 rfl ?_
        refine HQ.off rfl rfl hg56 rfl ?_
        refine HQ.off rfl rfl hg56 rfl ?_
        refine HQ.off rfl rfl hg56 rfl ?_
        refine HQ.pu (Pu.pickC1 hg56) ⟨rfl, rfl, trivial⟩ rfl rfl rfl ?_
        exact HQ.mid ⟨rfl, rfl, rfl, rfl, rfl, trivial⟩ ⟨rfl, trivial⟩ rfl
      · refine HQ.on rfl rfl hg56 ?_
        refine HQ.pu (Pu.fieldB fo42_0 rfl) ⟨rfl, trivial⟩ rfl rfl rfl ?_
        refine HQ.on rfl rfl hg56 ?_
        refine HQ.op [1] [1] (OT.loadB sc39 rfl) ⟨rfl, trivial⟩ ⟨rfl, trivial⟩ rfl rfl rfl rfl (fun _ => rfl) fun _ => ?_
        refine HQ.on rfl rfl hg56 ?_
        refine HQ.pu Pu.move ⟨rfl, trivial⟩ rfl rfl rfl ?_
        refine HQ.on rfl rfl hg56 ?_
        obtain ⟨h57, H⟩ := asr H
        refine HQ.op [] [] (OT.indexB ul39 sz140 hb_0 h57) ⟨rfl, rfl, trivial⟩ trivial rfl rfl rfl rfl (fun _ => rfl) fun _ => ?_
        refine HQ.on rfl rfl hg56 ?_
        refine HQ.pu (Pu.fieldE fo140_1 rfl) ⟨rfl, trivial⟩ rfl rfl rfl ?_
        refine HQ.on rfl rfl hg56 ?_
        obtain ⟨⟨a58, c59⟩, hb60, hn61⟩ := BorS.nest hb_0 h57
        refine HQ.op [] [] (OT.loadN (v := .slice a58 (List.length ((gt p0.Cells p1).B)) c59) sc37 hn61 hlTCell rfl) ⟨rfl, trivial⟩ trivial rfl rfl rfl rfl (fun _ => rfl) fun _ => ?_
        refine HQ.on rfl rfl hg56 ?_
        refine HQ.pu (Pu.len ul37) ⟨rfl, trivial⟩ rfl rfl rfl ?_
        refine HQ.on rfl rfl hg56 ?_
        refine HQ.pu Pu.eql ⟨rfl, rfl, trivial⟩ rfl rfl rfl ?_
        obtain rfl := Option.some.inj H
        refine HQ.pu (Pu.pickC0 hg56) ⟨rfl, rfl, trivial⟩ rfl rfl rfl ?_
        exact HQ.mid ⟨rfl, rfl, rfl, rfl, rfl, trivial⟩ ⟨rfl, trivial⟩ rfl
    refine HQ.done ?_
    refine HQ.keep [(56, _), (1, _), (2, _), (4, _), (5, _)] ⟨rfl, rfl, rfl, rfl, rfl, trivial⟩ ?_
    rcases brk H with ⟨hc, H⟩ | ⟨hc, H⟩
    · refine HQ.condT rfl hc ?_
      clear hc
      refine HQ.rseq ?_
      refine HQ.pu Pu.assign ⟨rfl, trivial⟩ rfl rfl rfl ?_
      refine HQ.pu Pu.assign ⟨rfl, trivial⟩ rfl rfl rfl ?_
      refine HQ.done ?_
      refine HQ.keep [(1, _), (2, _), (4, _), (5, _)] ⟨rfl, rfl, rfl, rfl, trivial⟩ ?_
      refine HQ.ret ?_
      refine HQ.thenR ?_
      obtain rfl := Option.some.inj H
      refine HQ.nil kU8 5 rfl ?_
      exact HQ.fin (vs := [_, _]) Try.results110 (none, 0) ⟨rfl, rfl, trivial⟩ rfl [5] ⟨rfl, trivial⟩ rfl
    · refine HQ.condF rfl hc ?_
      clear hc
      refine HQ.skipThen ?_
      refine HQ.rseq ?_
      refine HQ.pu (Pu.fieldB fo42_0 rfl) ⟨rfl, trivial⟩ rfl rfl rfl ?_
      refine HQ.op [1] [1] (OT.loadB sc39 rfl) ⟨rfl, trivial⟩ ⟨rfl, trivial⟩ rfl rfl rfl rfl (fun _ => rfl) fun _ => ?_
      refine HQ.pu Pu.move ⟨rfl, trivial⟩ rfl rfl rfl ?_
      obtain ⟨h64, H⟩ := asr H
      refine HQ.op [] [] (OT.indexB ul39 sz140 hb_0 h64) ⟨rfl, rfl, trivial⟩ trivial rfl rfl rfl rfl (fun _ => rfl) fun _ => ?_
      refine HQ.pu (Pu.fieldE fo140_1 rfl) ⟨rfl, trivial⟩ rfl rfl rfl ?_
      obtain ⟨⟨a65, c66⟩, hb67, hn68⟩ := BorS.nest hb_0 h64
      refine HQ.op [] [] (OT.loadN (v := .slice a65 (List.length ((gt p0.Cells p1).B)) c66) sc37 hn68 hlTCell rfl) ⟨rfl, trivial⟩ trivial rfl rfl rfl rfl (fun _ => rfl) fun _ => ?_
      obtain ⟨t69, h70, H⟩ := bnd H
      refine HQ.op [] [6] (OT.call (us := [_]) (Pre := []) [.tmp 62] Try.call154 rfl rfl fun w F hs hF hp => slices_Clone_byte_byte_c (hb67.pass hp) h70) ⟨rfl, rfl, trivial⟩ trivial rfl rfl rfl rfl (fun _ => rfl) fun ⟨a71, c72⟩ => ?_
      refine HQ.pu Pu.assign ⟨rfl, trivial⟩ rfl rfl rfl ?_
      refine HQ.pu Pu.assign ⟨rfl, trivial⟩ rfl rfl rfl ?_
      refine HQ.done ?_
      refine HQ.keep [(4, _), (5, _)] ⟨rfl, rfl, trivial⟩ ?_
      refine HQ.ret ?_
      obtain rfl := Option.some.inj H
      exact HQ.fin (vs := [_, _]) Try.results110 (a71, c72) ⟨rfl, rfl, trivial⟩ rfl [6] ⟨rfl, trivial⟩ rfl
  · rintro r rfl a w hr
    obtain rfl := Option.some.inj H
    exact hr

/-! impl.Get2 -/
theorem impl_Get2_c {w : World} {p0 : (List Int)} {p1 : Int} {a_0 : Option Addr} {c_0 : Nat} (hb_0 : BorS kU8 a_0 c_0 p0 w.heap (Lt w Nil)) {r : Int × Bool} (H : impl_Get2 p0 p1 = some r) :
    Calls Try.prog 164 #[.slice a_0 (List.length p0) c_0, .int .i64 p1] w (Rt w Nil (fun _ : Unit => .tuple #[.int .i64 r.1, .bool r.2]) (fun _ => [])) := by
  rw [impl_Get2] at H
  refine Calls.enter0 (N := 28) (us := [_, _]) Try.func164 rfl rfl rfl ?_
  refine HQ.rseq ?_
  refine HQ.pu Pu.assign ⟨rfl, trivial⟩ rfl rfl rfl ?_
  refine HQ.pu Pu.assign ⟨rfl, trivial⟩ rfl rfl rfl ?_
  refine HQ.done ?_
  refine HQ.keep [(0, _), (1, _), (4, _), (5, _)] ⟨rfl, rfl, rfl, rfl, trivial⟩ ?_
  refine HQ.seq ?_
  refine HQ.rseq ?_
  refine HQ.pu Pu.move ⟨rfl, trivial⟩ rfl rfl rfl ?_
  refine HQ.pu Pu.lss ⟨rfl, rfl, trivial⟩ rfl rfl rfl ?_
  refine HQ.pu Pu.move ⟨rfl, trivial⟩ rfl rfl rfl ?_
  refine HQ.cutAt 6 [(14, .bool ((decide (p1 < 0)) || (decide (p1 > (wrap64 (((List.length p0 : Nat) : Int) - 2)))))), (0, .slice a_0 (List.length p0) c_0), (1, .int .i64 p1), (4, .int .i64 0), (5, .bool false)] [] ?_ ?_
  · rcases Bool.eq_false_or_eq_true (decide (p1 < 0)) with hg1 | hg1
    · refine HQ.off rfl rfl hg1 rfl ?_
      refine HQ.off rfl rfl hg1 rfl ?_
      refine HQ.off rfl rfl hg1 rfl ?_
      refine HQ.off rfl rfl hg1 rfl ?_
      refine HQ.off rfl rfl hg1 rfl ?_
      refine HQ.pu (Pu.pickOT (u := (decide (p1 > (wrap64 (((List.length p0 : Nat) : Int) - 2))))) hg1) ⟨rfl, rfl, trivial⟩ rfl rfl rfl ?_
      exact HQ.mid ⟨rfl, rfl, rfl, rfl, rfl, trivial⟩ trivial rfl
    · refine HQ.on rfl rfl hg1 ?_
      refine HQ.pu Pu.move ⟨rfl, trivial⟩ rfl rfl rfl ?_
      refine HQ.on rfl rfl hg1 ?_
      refine HQ.pu Pu.move ⟨rfl, trivial⟩ rfl rfl rfl ?_
      refine HQ.on rfl rfl hg1 ?_
      refine HQ.pu (Pu.len ul37) ⟨rfl, trivial⟩ rfl rfl rfl ?_
      refine HQ.on rfl rfl hg1 ?_
      refine HQ.pu Pu.sub ⟨rfl, rfl, trivial⟩ rfl rfl rfl ?_
      refine HQ.on rfl rfl hg1 ?_
      refine HQ.pu Pu.gtr ⟨rfl, rfl, trivial⟩ rfl rfl rfl ?_
      refine HQ.pu (Pu.pickOF hg1) ⟨rfl, rfl, trivial⟩ rfl rfl rfl ?_
      exact HQ.mid ⟨rfl, rfl, rfl, rfl, rfl, trivial⟩ trivial rfl
  refine HQ.done ?_
  refine HQ.keep [(14, _), (0, _), (1, _), (4, _), (5, _)] ⟨rfl, rfl, rfl, rfl, rfl, trivial⟩ ?_
  rcases brk H with ⟨hc, H⟩ | ⟨hc, H⟩
  · refine HQ.condT rfl hc ?_
    clear hc
    refine HQ.rseq ?_
    refine HQ.pu Pu.assign ⟨rfl, trivial⟩ rfl rfl rfl ?_
    refine HQ.pu Pu.assign ⟨rfl, trivial⟩ rfl rfl rfl ?_
    refine HQ.done ?_
    refine HQ.keep [(0, _), (1, _), (4, _), (5, _)] ⟨rfl, rfl, rfl, rfl, trivial⟩ ?_
    refine HQ.ret ?_
    refine HQ.thenR ?_
    obtain rfl := Option.some.inj H
    exact HQ.fin (vs := [_, _]) Try.results164 () ⟨rfl, rfl, trivial⟩ rfl [] trivial rfl
  · refine HQ.condF rfl hc ?_
    clear hc
    refine HQ.skipThen ?_
    obtain ⟨h3, H⟩ := asr H
    obtain ⟨h4, H⟩ := asr H
    refine HQ.drawS mixd [(0, .slice a_0 (List.length p0) c_0), (1, .int .i64 p1), (4, .int .i64 0), (5, .bool false)] 12 [⟨[], [], []⟩, ⟨[], [], []⟩, ⟨[], [], [0, 1]⟩, ⟨[], [], [2]⟩, ⟨[], [], [3]⟩, ⟨[], [], [4]⟩, ⟨[], [], []⟩, ⟨[], [], []⟩, ⟨[], [], [7]⟩, ⟨[], [], [6, 8]⟩, ⟨[], [], [9]⟩, ⟨[], [], [10]⟩] [] (fun (g2 : Unit) => [.slice a_0 (List.length p0) c_0, .int .i64 p1, EP a_0 p1 1 0, .int .u8 (gt p0 p1), .int .i64 (IntKind.i64.wrap (gt p0 p1)), .int .i64 (wrap64 ((IntKind.i64.wrap (gt p0 p1)) * 2 ^ (min (Int.toNat 8) 64))), .slice a_0 (List.length p0) c_0, .int .i64 p1, .int .i64 (wrap64 (p1 + 1)), EP a_0 (wrap64 (p1 + 1)) 1 0, .int .u8 (gt p0 (wrap64 (p1 + 1))), .int .i64 (IntKind.i64.wrap (gt p0 (wrap64 (p1 + 1))))]) (fun (g2 : Unit) => []) () [] [] [] ⟨rfl, rfl, rfl, rfl, trivial⟩ trivial rfl (by kernel_rfl) (fun _ => rfl) (by kernel_rfl) (fun _ => rfl) ⟨?_, ?_, ?_, ?_, ?_, ?_, ?_, ?_, ?_, ?_, ?_, ?_, trivial⟩ fun g2 => ?_
    · exact OpOK.of (fun g2 => [(.tmp 0, .slice a_0 (List.length p0) c_0)]) _ _ (fun g2 _ => g2) rfl rfl (fun _ => ⟨rfl, trivial⟩) (fun g2 => Pu.toOT Pu.move) (fun _ _ => ⟨rfl, rfl, trivial⟩)
    · exact OpOK.of (fun g2 => [(.tmp 1, .int .i64 p1)]) _ _ (fun g2 _ => g2) rfl rfl (fun _ => ⟨rfl, trivial⟩) (fun g2 => Pu.toOT Pu.move) (fun _ _ => ⟨rfl, rfl, trivial⟩)
    · exact OpOK.of (fun g2 => [(.tmp 15, .slice a_0 (List.length p0) c_0), (.tmp 16, .int .i64 p1)]) _ _ (fun g2 _ => g2) rfl rfl (fun _ => ⟨rfl, rfl, trivial⟩) (fun g2 => OT.indexB ul37 sz5 hb_0 h3) (fun _ _ => ⟨rfl, rfl, trivial⟩)
    · exact OpOK.of (fun g2 => [(.tmp 17, EP a_0 p1 1 0)]) _ _ (fun g2 _ => g2) rfl rfl (fun _ => ⟨rfl, trivial⟩) (fun g2 => OT.loadF sc5 hb_0 h3 rfl) (fun _ _ => ⟨rfl, rfl, trivial⟩)
    · exact OpOK.of (fun g2 => [(.tmp 18, .int .u8 (gt p0 p1))]) _ _ (fun g2 _ => g2) rfl rfl (fun _ => ⟨rfl, trivial⟩) (fun g2 => Pu.toOT (Pu.conv ul5 ul3)) (fun _ _ => ⟨rfl, rfl, trivial⟩)
    · exact OpOK.of (fun g2 => [(.tmp 19, .int .i64 (IntKind.i64.wrap (gt p0 p1))), (.const (.int .u64 8), .int .u64 8)]) _ _ (fun g2 _ => g2) rfl rfl (fun _ => ⟨rfl, rfl, trivial⟩) (fun g2 => Pu.toOT (Pu.shl (by decide))) (fun _ _ => ⟨rfl, rfl, trivial⟩)
    · exact OpOK.of (fun g2 => [(.tmp 0, .slice a_0 (List.length p0) c_0)]) _ _ (fun g2 _ => g2) rfl rfl (fun _ => ⟨rfl, trivial⟩) (fun g2 => Pu.toOT Pu.move) (fun _ _ => ⟨rfl, rfl, trivial⟩)
    · exact OpOK.of (fun g2 => [(.tmp 1, .int .i64 p1)]) _ _ (fun g2 _ => g2) rfl rfl (fun _ => ⟨rfl, trivial⟩) (fun g2 => Pu.toOT Pu.move) (fun _ _ => ⟨rfl, rfl, trivial⟩)
    · exact OpOK.of (fun g2 => [(.tmp 22, .int .i64 p1), (.const (.int .i64 1), .int .i64 1)]) _ _ (fun g2 _ => g2) rfl rfl (fun _ => ⟨rfl, rfl, trivial⟩) (fun g2 => Pu.toOT Pu.add) (fun _ _ => ⟨rfl, rfl, trivial⟩)
    · exact OpOK.of (fun g2 => [(.tmp 21, .slice a_0 (List.length p0) c_0), (.tmp 23, .int .i64 (wrap64 (p1 + 1)))]) _ _ (fun g2 _ => g2) rfl rfl (fun _ => ⟨rfl, rfl, trivial⟩) (fun g2 => OT.indexB ul37 sz5 hb_0 h4) (fun _ _ => ⟨rfl, rfl, trivial⟩)
    · exact OpOK.of (fun g2 => [(.tmp 24, EP a_0 (wrap64 (p1 + 1)) 1 0)]) _ _ (fun g2 _ => g2) rfl rfl (fun _ => ⟨rfl, trivial⟩) (fun g2 => OT.loadF sc5 hb_0 h4 rfl) (fun _ _ => ⟨rfl, rfl, trivial⟩)
    · exact OpOK.of (fun g2 => [(.tmp 25, .int .u8 (gt p0 (wrap64 (p1 + 1))))]) _ _ (fun g2 _ => g2) rfl rfl (fun _ => ⟨rfl, trivial⟩) (fun g2 => Pu.toOT (Pu.conv ul5 ul3)) (fun _ _ => ⟨rfl, rfl, trivial⟩)
    refine HQ.keep [(4, _), (5, _), (20, _), (26, _)] ⟨rfl, rfl, rfl, rfl, trivial⟩ ?_
    refine HQ.keepR [] trivial rfl ?_
    refine HQ.pu Pu.or ⟨rfl, rfl, trivial⟩ rfl rfl rfl ?_
    refine HQ.pu Pu.assign ⟨rfl, trivial⟩ rfl rfl rfl ?_
    refine HQ.pu Pu.assign ⟨rfl, trivial⟩ rfl rfl rfl ?_
    refine HQ.done ?_
    refine HQ.keep [(4, _), (5, _)] ⟨rfl, rfl, trivial⟩ ?_
    refine HQ.ret ?_
    obtain rfl := Option.some.inj H
    exact HQ.fin (vs := [_, _]) Try.results164 () ⟨rfl, rfl, trivial⟩ rfl [] trivial rfl

/-! impl.in -/
theorem impl_in_c {w : World} {p0 : Int} {p1 : Int} {p2 : Int}   {r : Bool} (H : impl_in p0 p1 p2 = some r) :
    Calls Try.prog 91 #[.int .i64 p0, .int .i64 p1, .int .i64 p2] w (Rt w Nil (fun _ : Unit => .bool r) (fun _ => [])) := by
  rw [impl_in] at H
  refine Calls.enter0 (N := 15) (us := [_, _, _]) Try.func91 rfl rfl rfl ?_
  refine HQ.rseq ?_
  refine HQ.pu Pu.assign ⟨rfl, trivial⟩ rfl rfl rfl ?_
  refine HQ.done ?_
  refine HQ.keep [(0, _), (1, _), (2, _), (6, _)] ⟨rfl, rfl, rfl, rfl, trivial⟩ ?_
  refine HQ.rseq ?_
  refine HQ.pu Pu.move ⟨rfl, trivial⟩ rfl rfl rfl ?_
  refine HQ.pu Pu.move ⟨rfl, trivial⟩ rfl rfl rfl ?_
  refine HQ.pu Pu.leq ⟨rfl, rfl, trivial⟩ rfl rfl rfl ?_
  refine HQ.pu Pu.move ⟨rfl, trivial⟩ rfl rfl rfl ?_
  refine HQ.cutAt 4 [(14, .bool ((decide (p1 ≤ p0)) && (decide (p0 ≤ p2)))), (6, .bool false)] [] ?_ ?_
  · rcases Bool.eq_false_or_eq_true (decide (p1 ≤ p0)) with hg1 | hg1
    · refine HQ.on rfl rfl hg1 ?_
      refine HQ.pu Pu.move ⟨rfl, trivial⟩ rfl rfl rfl ?_
      refine HQ.on rfl rfl hg1 ?_
      refine HQ.pu Pu.move ⟨rfl, trivial⟩ rfl rfl rfl ?_
      refine HQ.on rfl rfl hg1 ?_
      refine HQ.pu Pu.leq ⟨rfl, rfl, trivial⟩ rfl rfl rfl ?_
      refine HQ.pu (Pu.pickAT hg1) ⟨rfl, rfl, trivial⟩ rfl rfl rfl ?_
      exact HQ.mid ⟨rfl, rfl, trivial⟩ trivial rfl
    · refine HQ.off rfl rfl hg1 rfl ?_
      refine HQ.off rfl rfl hg1 rfl ?_
      refine HQ.off rfl rfl hg1 rfl ?_
      refine HQ.pu (Pu.pickAF (u := (decide (p0 ≤ p2))) hg1) ⟨rfl, rfl, trivial⟩ rfl rfl rfl ?_
      exact HQ.mid ⟨rfl, rfl, trivial⟩ trivial rfl
  refine HQ.pu Pu.assign ⟨rfl, trivial⟩ rfl rfl rfl ?_
  refine HQ.done ?_
  refine HQ.keep [(6, _)] ⟨rfl, trivial⟩ ?_
  refine HQ.ret ?_
  obtain rfl := Option.some.inj H
  exact HQ.fin (vs := [_]) Try.results91 () ⟨rfl, trivial⟩ rfl [] trivial rfl

end Go.Proofs.Sx
