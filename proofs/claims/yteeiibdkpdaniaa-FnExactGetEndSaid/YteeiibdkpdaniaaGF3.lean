import Derived.Test.YteeiibdkpdaniaaGF2
import Derived.KernelRfl
namespace Go.Proofs.Sx
open Go.RowKit
set_option linter.unusedVariables false
set_option linter.unusedSimpArgs false
set_option maxRecDepth 20000
set_option maxHeartbeats 1000000
/-! spec.GetEnd -/
theorem spec_GetEnd_c {w : World} {k : Nat} {p0 : Int} {p1 : (List Int)} {a_0 : Option Addr} {c_0 : Nat} (hb_0 : BorS kU8 a_0 c_0 p1 w.heap (Lt w Nil)) {r : TTx × Int × Bool} (H : spec_GetEnd k p0 p1 = some r) :
    Calls Try.prog 29 #[.int .i64 p0, .slice a_0 (List.length p1) c_0] w (Rt w Nil (fun g : Option Addr × Nat => .tuple #[.agg #[.int .i64 r.1.Seq, .int .i64 r.1.Root, .int .i64 r.1.Size, .slice g.1 (List.length r.1.Puts) g.2], .int .i64 r.2.1, .bool r.2.2]) (fun g => [OwnS kTChange g.1 g.2 r.1.Puts])) := by
  rw [spec_GetEnd] at H
  refine Calls.enter0 (N := 78) (us := [_, _]) Try.func29 rfl rfl rfl ?_
  refine HQ.rseq ?_
  refine HQ.op [] [1] (OT.alloc zc47) trivial trivial rfl rfl rfl rfl (fun _ => rfl) fun b1 => ?_
  refine HQ.pu Pu.assign ⟨rfl, trivial⟩ rfl rfl rfl ?_
  refine HQ.pu Pu.assign ⟨rfl, trivial⟩ rfl rfl rfl ?_
  refine HQ.done ?_
  refine HQ.keep [(0, _), (1, _), (4, _), (5, _), (6, _)] ⟨rfl, rfl, rfl, rfl, rfl, trivial⟩ ?_
  refine HQ.seq ?_
  refine HQ.rseq ?_
  refine HQ.pu Pu.move ⟨rfl, trivial⟩ rfl rfl rfl ?_
  refine HQ.pu (Pu.len ul27) ⟨rfl, trivial⟩ rfl rfl rfl ?_
  refine HQ.pu Pu.neq ⟨rfl, rfl, trivial⟩ rfl rfl rfl ?_
  refine HQ.pu Pu.move ⟨rfl, trivial⟩ rfl rfl rfl ?_
  obtain ⟨c4, h5, H⟩ := bnd H
  refine HQ.cutAt 5 [(21, .bool c4), (0, .int .i64 p0), (1, .slice a_0 (List.length p1) c_0), (4, BP b1 0), (5, .int .i64 0), (6, .bool false)] [(1, Box b1 [.int .i64 0, .int .i64 0, .int .i64 0, .slice none 0 0])] ?_ ?_
  · clear H
    have H := h5
    rcases brk H with ⟨hg2, H⟩ | ⟨hg2, H⟩
    · obtain rfl := Option.some.inj H
      refine HQ.off rfl rfl hg2 rfl ?_
      refine HQ.off rfl rfl hg2 rfl ?_
      refine HQ.off rfl rfl hg2 rfl ?_
      refine HQ.off rfl rfl hg2 rfl ?_
      refine HQ.pu (Pu.pickC1 hg2) ⟨rfl, rfl, trivial⟩ rfl rfl rfl ?_
      exact HQ.mid ⟨rfl, rfl, rfl, rfl, rfl, rfl, trivial⟩ ⟨rfl, trivial⟩ rfl
    · refine HQ.on rfl rfl hg2 ?_
      refine HQ.pu Pu.move ⟨rfl, trivial⟩ rfl rfl rfl ?_
      refine HQ.on rfl rfl hg2 ?_
      obtain ⟨h3, H⟩ := asr H
      refine HQ.op [] [] (OT.indexB ul27 sz5 hb_0 h3) ⟨rfl, rfl, trivial⟩ trivial rfl rfl rfl rfl (fun _ => rfl) fun _ => ?_
      refine HQ.on rfl rfl hg2 ?_
      refine HQ.op [] [] (OT.loadF sc5 hb_0 h3 rfl) ⟨rfl, trivial⟩ trivial rfl rfl rfl rfl (fun _ => rfl) fun _ => ?_
      refine HQ.on rfl rfl hg2 ?_
      refine HQ.pu Pu.neq ⟨rfl, rfl, trivial⟩ rfl rfl rfl ?_
      obtain rfl := Option.some.inj H
      refine HQ.pu (Pu.pickC0 hg2) ⟨rfl, rfl, trivial⟩ rfl rfl rfl ?_
      exact HQ.mid ⟨rfl, rfl, rfl, rfl, rfl, rfl, trivial⟩ ⟨rfl, trivial⟩ rfl
  refine HQ.done ?_
  refine HQ.keep [(21, _), (0, _), (1, _), (4, _), (5, _), (6, _)] ⟨rfl, rfl, rfl, rfl, rfl, rfl, trivial⟩ ?_
  rcases brk H with ⟨hc, H⟩ | ⟨hc, H⟩
  · refine HQ.condT rfl hc ?_
    clear hc
    refine HQ.rseq ?_
    refine HQ.pu (Pu.build (us := []) (cs := [.int .i64 0, .int .i64 0, .int .i64 0, .slice none 0 0]) [] st47 rfl rfl rfl) trivial rfl rfl rfl ?_
    refine HQ.opN [1] [1] [] (OT.storeC (cs' := [.int .i64 0, .int .i64 0, .int .i64 0, .slice none 0 0]) sz47 rfl rfl rfl rfl rfl) ⟨rfl, rfl, trivial⟩ ⟨rfl, trivial⟩ rfl rfl rfl (fun _ => rfl) fun _ => ?_
    refine HQ.pu Pu.assign ⟨rfl, trivial⟩ rfl rfl rfl ?_
    refine HQ.pu Pu.assign ⟨rfl, trivial⟩ rfl rfl rfl ?_
    refine HQ.done ?_
    refine HQ.keep [(0, _), (1, _), (4, _), (5, _), (6, _)] ⟨rfl, rfl, rfl, rfl, rfl, trivial⟩ ?_
    refine HQ.ret ?_
    refine HQ.thenR ?_
    obtain rfl := Option.some.inj H
    refine HQ.nil kTChange 2 rfl ?_
    exact HQ.fin (vs := [_, _, _]) Try.results29 (none, 0) ⟨⟨_, _, 1, rfl, rfl, ag47, sz47, rfl⟩, rfl, rfl, trivial⟩ rfl [2] ⟨rfl, trivial⟩ rfl
  · refine HQ.condF rfl hc ?_
    clear hc
    refine HQ.skipThen ?_
    refine HQ.rseq ?_
    refine HQ.pu Pu.move ⟨rfl, trivial⟩ rfl rfl rfl ?_
    obtain ⟨t6, h7, H⟩ := bnd H
    refine HQ.op [] [] (OT.call (us := [_, _]) (Pre := []) [.tmp 24, .const (.int .i64 1)] Try.call70 rfl rfl fun w F hs hF hp => spec_Get2_c (hb_0.pass hp) h7) ⟨rfl, rfl, rfl, trivial⟩ trivial rfl rfl rfl rfl (fun _ => rfl) fun _ => ?_
    refine HQ.pu Pu.move ⟨rfl, trivial⟩ rfl rfl rfl ?_
    refine HQ.pu (Pu.extract rfl) ⟨rfl, trivial⟩ rfl rfl rfl ?_
    refine HQ.pu (Pu.extract rfl) ⟨rfl, trivial⟩ rfl rfl rfl ?_
    refine HQ.pu Pu.assign ⟨rfl, trivial⟩ rfl rfl rfl ?_
    refine HQ.pu Pu.assign ⟨rfl, trivial⟩ rfl rfl rfl ?_
    refine HQ.done ?_
    refine HQ.keep [(0, _), (1, _), (4, _), (5, _), (6, _), (7, _)] ⟨rfl, rfl, rfl, rfl, rfl, rfl, trivial⟩ ?_
    refine HQ.rseq ?_
    refine HQ.pu Pu.move ⟨rfl, trivial⟩ rfl rfl rfl ?_
    obtain ⟨t8, h9, H⟩ := bnd H
    refine HQ.op [] [] (OT.call (us := [_, _]) (Pre := []) [.tmp 29, .const (.int .i64 3)] Try.call70 rfl rfl fun w F hs hF hp => spec_Get2_c (hb_0.pass hp) h9) ⟨rfl, rfl, rfl, trivial⟩ trivial rfl rfl rfl rfl (fun _ => rfl) fun _ => ?_
    refine HQ.pu Pu.move ⟨rfl, trivial⟩ rfl rfl rfl ?_
    refine HQ.pu (Pu.extract rfl) ⟨rfl, trivial⟩ rfl rfl rfl ?_
    refine HQ.pu (Pu.extract rfl) ⟨rfl, trivial⟩ rfl rfl rfl ?_
    refine HQ.pu Pu.assign ⟨rfl, trivial⟩ rfl rfl rfl ?_
    refine HQ.pu Pu.assign ⟨rfl, trivial⟩ rfl rfl rfl ?_
    refine HQ.done ?_
    refine HQ.keep [(0, _), (1, _), (4, _), (5, _), (6, _), (7, _), (9, _)] ⟨rfl, rfl, rfl, rfl, rfl, rfl, rfl, trivial⟩ ?_
    obtain ⟨h11, H⟩ := asr H
    obtain ⟨h12, H⟩ := asr H
    refine HQ.drawS mixd [(0, .int .i64 p0), (1, .slice a_0 (List.length p1) c_0), (4, BP b1 0), (5, .int .i64 0), (6, .bool false), (7, .int .i64 t6.1), (9, .int .i64 t8.1)] 11 [⟨[], [], []⟩, ⟨[], [], []⟩, ⟨[], [], [1]⟩, ⟨[], [], [2]⟩, ⟨[], [], [3]⟩, ⟨[], [], []⟩, ⟨[], [], [5]⟩, ⟨[], [], [6]⟩, ⟨[], [], [7]⟩, ⟨[], [], [0, 4, 8]⟩, ⟨[], [0], []⟩] [⟨some 10, none⟩] (fun (g10 : Nat) => [.int .i64 t8.1, .slice a_0 (List.length p1) c_0, EP a_0 5 1 0, .int .u8 (gt p1 5), .int .i64 (IntKind.i64.wrap (gt p1 5)), .slice a_0 (List.length p1) c_0, EP a_0 6 1 0, .int .u8 (gt p1 6), .int .i64 (IntKind.i64.wrap (gt p1 6)), .agg #[.int .i64 t8.1, .int .i64 (IntKind.i64.wrap (gt p1 5)), .int .i64 (IntKind.i64.wrap (gt p1 6)), .slice none 0 0], BP g10 0]) (fun (g10 : Nat) => [Box g10 [.int .i64 0, .int .i64 0, .int .i64 0, .slice none 0 0]]) 0 [] [3] [] ⟨rfl, rfl, rfl, rfl, rfl, rfl, rfl, trivial⟩ trivial rfl (by kernel_rfl) (fun _ => rfl) (by kernel_rfl) (fun _ => rfl) ⟨?_, ?_, ?_, ?_, ?_, ?_, ?_, ?_, ?_, ?_, ?_, trivial⟩ fun g10 => ?_
    · exact OpOK.of (fun g10 => [(.tmp 9, .int .i64 t8.1)]) _ _ (fun g10 _ => g10) rfl rfl (fun _ => ⟨rfl, trivial⟩) (fun g10 => Pu.toOT Pu.move) (fun _ _ => ⟨rfl, rfl, ⟨rfl, trivial⟩⟩)
    · exact OpOK.of (fun g10 => [(.tmp 1, .slice a_0 (List.length p1) c_0)]) _ _ (fun g10 _ => g10) rfl rfl (fun _ => ⟨rfl, trivial⟩) (fun g10 => Pu.toOT Pu.move) (fun _ _ => ⟨rfl, rfl, ⟨rfl, trivial⟩⟩)
    · exact OpOK.of (fun g10 => [(.tmp 34, .slice a_0 (List.length p1) c_0), (.const (.int .i64 5), .int .i64 5)]) _ _ (fun g10 _ => g10) rfl rfl (fun _ => ⟨rfl, rfl, trivial⟩) (fun g10 => OT.indexB ul27 sz5 hb_0 h11) (fun _ _ => ⟨rfl, rfl, ⟨rfl, trivial⟩⟩)
    · exact OpOK.of (fun g10 => [(.tmp 35, EP a_0 5 1 0)]) _ _ (fun g10 _ => g10) rfl rfl (fun _ => ⟨rfl, trivial⟩) (fun g10 => OT.loadF sc5 hb_0 h11 rfl) (fun _ _ => ⟨rfl, rfl, ⟨rfl, trivial⟩⟩)
    · exact OpOK.of (fun g10 => [(.tmp 36, .int .u8 (gt p1 5))]) _ _ (fun g10 _ => g10) rfl rfl (fun _ => ⟨rfl, trivial⟩) (fun g10 => Pu.toOT (Pu.conv ul5 ul3)) (fun _ _ => ⟨rfl, rfl, ⟨rfl, trivial⟩⟩)
    · exact OpOK.of (fun g10 => [(.tmp 1, .slice a_0 (List.length p1) c_0)]) _ _ (fun g10 _ => g10) rfl rfl (fun _ => ⟨rfl, trivial⟩) (fun g10 => Pu.toOT Pu.move) (fun _ _ => ⟨rfl, rfl, ⟨rfl, trivial⟩⟩)
    · exact OpOK.of (fun g10 => [(.tmp 38, .slice a_0 (List.length p1) c_0), (.const (.int .i64 6), .int .i64 6)]) _ _ (fun g10 _ => g10) rfl rfl (fun _ => ⟨rfl, rfl, trivial⟩) (fun g10 => OT.indexB ul27 sz5 hb_0 h12) (fun _ _ => ⟨rfl, rfl, ⟨rfl, trivial⟩⟩)
    · exact OpOK.of (fun g10 => [(.tmp 39, EP a_0 6 1 0)]) _ _ (fun g10 _ => g10) rfl rfl (fun _ => ⟨rfl, trivial⟩) (fun g10 => OT.loadF sc5 hb_0 h12 rfl) (fun _ _ => ⟨rfl, rfl, ⟨rfl, trivial⟩⟩)
    · exact OpOK.of (fun g10 => [(.tmp 40, .int .u8 (gt p1 6))]) _ _ (fun g10 _ => g10) rfl rfl (fun _ => ⟨rfl, trivial⟩) (fun g10 => Pu.toOT (Pu.conv ul5 ul3)) (fun _ _ => ⟨rfl, rfl, ⟨rfl, trivial⟩⟩)
    · exact OpOK.of (fun g10 => [(.tmp 33, .int .i64 t8.1), (.tmp 37, .int .i64 (IntKind.i64.wrap (gt p1 5))), (.tmp 41, .int .i64 (IntKind.i64.wrap (gt p1 6)))]) _ _ (fun g10 _ => g10) rfl rfl (fun _ => ⟨rfl, rfl, rfl, trivial⟩) (fun g10 => Pu.toOT (Pu.build (us := [.int .i64 t8.1, .int .i64 (IntKind.i64.wrap (gt p1 5)), .int .i64 (IntKind.i64.wrap (gt p1 6))]) (cs := [.int .i64 t8.1, .int .i64 (IntKind.i64.wrap (gt p1 5)), .int .i64 (IntKind.i64.wrap (gt p1 6)), .slice none 0 0]) [(0, .tmp 33), (1, .tmp 37), (2, .tmp 41)] st47 rfl rfl rfl)) (fun _ _ => ⟨rfl, rfl, ⟨rfl, trivial⟩⟩)
    · exact OpOK.of (fun g10 => []) _ _ (fun g10 x => x) rfl rfl (fun _ => trivial) (fun g10 => OT.alloc zc47) (fun _ _ => ⟨rfl, rfl, ⟨rfl, trivial⟩⟩)
    refine HQ.keep [(0, _), (1, _), (4, _), (5, _), (6, _), (7, _), (42, _), (11, _)] ⟨rfl, rfl, rfl, rfl, rfl, rfl, rfl, rfl, trivial⟩ ?_
    refine HQ.keepR [(1, _), (3, _)] ⟨rfl, rfl, trivial⟩ rfl ?_
    refine HQ.opN [3] [3] [] (OT.storeC (cs' := [.int .i64 t8.1, .int .i64 (IntKind.i64.wrap (gt p1 5)), .int .i64 (IntKind.i64.wrap (gt p1 6)), .slice none 0 0]) sz47 rfl rfl rfl rfl rfl) ⟨rfl, rfl, trivial⟩ ⟨rfl, trivial⟩ rfl rfl rfl (fun _ => rfl) fun _ => ?_
    refine HQ.done ?_
    refine HQ.keep [(0, _), (1, _), (4, _), (5, _), (6, _), (7, _), (11, _)] ⟨rfl, rfl, rfl, rfl, rfl, rfl, rfl, trivial⟩ ?_
    refine HQ.seq ?_
    refine HQ.rseq ?_
    refine HQ.pu Pu.assign ⟨rfl, trivial⟩ rfl rfl rfl ?_
    refine HQ.done ?_
    refine HQ.keep [(0, _), (1, _), (4, _), (5, _), (6, _), (7, _), (11, _), (12, _)] ⟨rfl, rfl, rfl, rfl, rfl, rfl, rfl, rfl, trivial⟩ ?_
    refine HQ.block ?_
    obtain ⟨o18, h34, H⟩ := bnd H
    refine HQ.loop h34 0 (fun (s : Int) (g : Unit) => match s, g with | i15, () => [(0, .int .i64 p0), (1, .slice a_0 (List.length p1) c_0), (4, BP b1 0), (5, .int .i64 0), (6, .bool false), (7, .int .i64 t6.1), (11, BP g10 0), (12, .int .i64 i15)]) (fun (s : Int) (g : Unit) => match s, g with | i15, () => [(1, Box b1 [.int .i64 0, .int .i64 0, .int .i64 0, .slice none 0 0]), (3, Box g10 [.int .i64 t8.1, .int .i64 (IntKind.i64.wrap (gt p1 5)), .int .i64 (IntKind.i64.wrap (gt p1 6)), .slice none 0 0])]) (fun r => bodyPost Try.prog Try.f29 (Rt w Nil (fun g : Option Addr × Nat => .tuple #[.agg #[.int .i64 r.1.Seq, .int .i64 r.1.Root, .int .i64 r.1.Size, .slice g.1 (List.length r.1.Puts) g.2], .int .i64 r.2.1, .bool r.2.2]) (fun g => [OwnS kTChange g.1 g.2 r.1.Puts])) .ret) () ⟨rfl, rfl, rfl, rfl, rfl, rfl, rfl, rfl, trivial⟩ ⟨rfl, rfl, trivial⟩ rfl ?_ ?_ ?_
    · clear H h34
      rintro i15 _ o H
      rw [spec_GetEnd_b0] at H
      refine HQ.keep [(0, _), (1, _), (4, _), (5, _), (6, _), (7, _), (11, _), (12, _)] ⟨rfl, rfl, rfl, rfl, rfl, rfl, rfl, rfl, trivial⟩ ?_
      refine HQ.keepR [(1, _), (3, _)] ⟨rfl, rfl, trivial⟩ rfl ?_
      refine HQ.seq ?_
      refine HQ.rseq ?_
      refine HQ.pu Pu.move ⟨rfl, trivial⟩ rfl rfl rfl ?_
      refine HQ.pu Pu.move ⟨rfl, trivial⟩ rfl rfl rfl ?_
      refine HQ.pu (Pu.len ul27) ⟨rfl, trivial⟩ rfl rfl rfl ?_
      refine HQ.pu Pu.lss ⟨rfl, rfl, trivial⟩ rfl rfl rfl ?_
      refine HQ.done ?_
      refine HQ.keep [(0, _), (1, _), (4, _), (5, _), (6, _), (7, _), (11, _), (12, _), (43, _), (44, _), (45, _), (46, _)] ⟨rfl, rfl, rfl, rfl, rfl, rfl, rfl, rfl, rfl, rfl, rfl, rfl, trivial⟩ ?_
      rcases brk H with ⟨hc, H⟩ | ⟨hc, H⟩
      · refine HQ.condT rfl hc ?_
        clear hc
        refine HQ.skipThen ?_
        refine HQ.seq ?_
        refine HQ.block ?_
        refine HQ.rseq ?_
        refine HQ.pu Pu.move ⟨rfl, trivial⟩ rfl rfl rfl ?_
        refine HQ.pu Pu.move ⟨rfl, trivial⟩ rfl rfl rfl ?_
        obtain ⟨h17, H⟩ := asr H
        refine HQ.op [] [] (OT.indexB ul27 sz5 hb_0 h17) ⟨rfl, rfl, trivial⟩ trivial rfl rfl rfl rfl (fun _ => rfl) fun _ => ?_
        refine HQ.op [] [] (OT.loadF sc5 hb_0 h17 rfl) ⟨rfl, trivial⟩ trivial rfl rfl rfl rfl (fun _ => rfl) fun _ => ?_
        refine HQ.pu Pu.neq ⟨rfl, rfl, trivial⟩ rfl rfl rfl ?_
        refine HQ.done ?_
        refine HQ.keep [(0, _), (1, _), (4, _), (5, _), (6, _), (7, _), (11, _), (12, _), (43, _), (44, _), (45, _), (46, _), (49, _), (50, _), (51, _), (52, _), (53, _)] ⟨rfl, rfl, rfl, rfl, rfl, rfl, rfl, rfl, rfl, rfl, rfl, rfl, rfl, rfl, rfl, rfl, rfl, trivial⟩ ?_
        rcases brk H with ⟨hc, H⟩ | ⟨hc, H⟩
        · refine HQ.condT rfl hc ?_
          clear hc
          refine HQ.rseq ?_
          refine HQ.pu (Pu.build (us := []) (cs := [.int .i64 0, .int .i64 0, .int .i64 0, .slice none 0 0]) [] st47 rfl rfl rfl) trivial rfl rfl rfl ?_
          refine HQ.opN [1] [1] [] (OT.storeC (cs' := [.int .i64 0, .int .i64 0, .int .i64 0, .slice none 0 0]) sz47 rfl rfl rfl rfl rfl) ⟨rfl, rfl, trivial⟩ ⟨rfl, trivial⟩ rfl rfl rfl (fun _ => rfl) fun _ => ?_
          refine HQ.pu Pu.assign ⟨rfl, trivial⟩ rfl rfl rfl ?_
          refine HQ.pu Pu.assign ⟨rfl, trivial⟩ rfl rfl rfl ?_
          refine HQ.done ?_
          refine HQ.keep [(0, _), (1, _), (4, _), (5, _), (6, _), (7, _), (11, _), (12, _), (43, _), (44, _), (45, _), (46, _), (49, _), (50, _), (51, _), (52, _), (53, _), (54, _)] ⟨rfl, rfl, rfl, rfl, rfl, rfl, rfl, rfl, rfl, rfl, rfl, rfl, rfl, rfl, rfl, rfl, rfl, rfl, trivial⟩ ?_
          refine HQ.ret ?_
          refine HQ.blkR ?_
          refine HQ.thenR ?_
          obtain rfl := Option.some.inj H
          refine HQ.nil kTChange 4 rfl ?_
          refine HQ.retL ?_
          exact HQ.fin (vs := [_, _, _]) Try.results29 (none, 0) ⟨⟨_, _, 1, rfl, rfl, ag47, sz47, rfl⟩, rfl, rfl, trivial⟩ rfl [4] ⟨rfl, trivial⟩ rfl
        · refine HQ.condF rfl hc ?_
          clear hc
          refine HQ.skip ?_
          refine HQ.blkN ?_
          refine HQ.thenN ?_
          refine HQ.regionQ ?_
          refine HQ.pu Pu.move ⟨rfl, trivial⟩ rfl rfl rfl ?_
          refine HQ.pu Pu.add ⟨rfl, rfl, trivial⟩ rfl rfl rfl ?_
          refine HQ.pu Pu.assign ⟨rfl, trivial⟩ rfl rfl rfl ?_
          refine HQ.done ?_
          refine HQ.keep [(0, _), (1, _), (4, _), (5, _), (6, _), (7, _), (11, _), (12, _), (43, _), (44, _), (45, _), (46, _), (49, _), (50, _), (51, _), (52, _), (53, _), (47, _), (48, _)] ⟨rfl, rfl, rfl, rfl, rfl, rfl, rfl, rfl, rfl, rfl, rfl, rfl, rfl, rfl, rfl, rfl, rfl, rfl, rfl, trivial⟩ ?_
          obtain rfl := Option.some.inj H
          exact HQ.next () ⟨rfl, rfl, rfl, rfl, rfl, rfl, rfl, rfl, trivial⟩ ⟨rfl, rfl, trivial⟩ rfl
      · refine HQ.condF rfl hc ?_
        clear hc
        refine HQ.exit ?_
        refine HQ.thenE ?_
        obtain rfl := Option.some.inj H
        exact HQ.out () ⟨rfl, rfl, rfl, rfl, rfl, rfl, rfl, rfl, trivial⟩ ⟨rfl, rfl, trivial⟩ rfl
    · rintro i19 rfl _
      clear h34
      replace H := H
      refine HQ.keep [(0, _), (1, _), (4, _), (5, _), (6, _), (7, _), (11, _), (12, _)] ⟨rfl, rfl, rfl, rfl, rfl, rfl, rfl, rfl, trivial⟩ ?_
      refine HQ.keepR [(1, _), (3, _)] ⟨rfl, rfl, trivial⟩ rfl ?_
      refine HQ.blkE ?_
      refine HQ.thenN ?_
      refine HQ.seq ?_
      refine HQ.seq ?_
      refine HQ.dStart mixd ?_
      refine HQ.dPart [(0, .int .i64 p0), (1, .slice a_0 (List.length p1) c_0), (4, BP b1 0), (5, .int .i64 0), (6, .bool false), (7, .int .i64 t6.1), (11, BP g10 0)] 2 [⟨[], [], []⟩, ⟨[], [], []⟩] [] (fun (g20 : Unit) => [.int .i64 t6.1, .int .i64 p0]) (fun (g20 : Unit) => []) () [] [] [] ⟨rfl, rfl, rfl, rfl, rfl, rfl, rfl, trivial⟩ trivial rfl (by kernel_rfl) (by kernel_rfl) (fun _ => rfl) (by kernel_rfl) (fun _ => rfl) rfl ⟨?_, ?_, trivial⟩ fun g20 => ?_
      · exact OpOK2.of (fun g20 => [(.tmp 7, .int .i64 t6.1)]) _ _ (fun g20 _ => g20) rfl rfl (fun _ => ⟨rfl, trivial⟩) (fun g20 => Pu.toOT Pu.move) (fun _ _ => ⟨rfl, rfl, trivial⟩)
      · exact OpOK2.of (fun g20 => [(.tmp 0, .int .i64 p0)]) _ _ (fun g20 _ => g20) rfl rfl (fun _ => ⟨rfl, trivial⟩) (fun g20 => Pu.toOT Pu.move) (fun _ _ => ⟨rfl, rfl, trivial⟩)
      refine HQ.keep [(1, _), (4, _), (5, _), (6, _), (11, _), (55, _), (56, _)] ⟨rfl, rfl, rfl, rfl, rfl, rfl, rfl, trivial⟩ ?_
      refine HQ.keepR [(1, _), (3, _)] ⟨rfl, rfl, trivial⟩ rfl ?_
      refine HQ.dRun 7 rfl rfl (by kernel_rfl) (by kernel_rfl) ?_
      refine HQ.pu Pu.neq ⟨rfl, rfl, trivial⟩ rfl rfl rfl ?_
      refine HQ.pu Pu.move ⟨rfl, trivial⟩ rfl rfl rfl ?_
      obtain ⟨c24, h25, H⟩ := bnd H
      refine HQ.cutAt 4 [(62, .bool c24), (1, .slice a_0 (List.length p1) c_0), (4, BP b1 0), (5, .int .i64 0), (6, .bool false), (11, BP g10 0)] [(1, Box b1 [.int .i64 0, .int .i64 0, .int .i64 0, .slice none 0 0]), (3, Box g10 [.int .i64 t8.1, .int .i64 (IntKind.i64.wrap (gt p1 5)), .int .i64 (IntKind.i64.wrap (gt p1 6)), .slice none 0 0])] ?_ ?_
      · clear H
        have H := h25
        rcases brk H with ⟨hg21, H⟩ | ⟨hg21, H⟩
        · obtain rfl := Option.some.inj H
          refine HQ.off rfl rfl hg21 rfl ?_
          refine HQ.off rfl rfl hg21 rfl ?_
          refine HQ.off rfl rfl hg21 rfl ?_
          refine HQ.pu (Pu.pickC1 hg21) ⟨rfl, rfl, trivial⟩ rfl rfl rfl ?_
          exact HQ.mid ⟨rfl, rfl, rfl, rfl, rfl, rfl, trivial⟩ ⟨rfl, rfl, trivial⟩ rfl
        · refine HQ.on rfl rfl hg21 ?_
          refine HQ.op [3] [3] (OT.loadBA (vs := [.int .i64 t8.1, .int .i64 (IntKind.i64.wrap (gt p1 5)), .int .i64 (IntKind.i64.wrap (gt p1 6)), .slice none 0 0]) ag47 sz47 rfl rfl) ⟨rfl, trivial⟩ ⟨rfl, trivial⟩ rfl rfl rfl rfl (fun _ => rfl) fun _ => ?_
          refine HQ.on rfl rfl hg21 ?_
          obtain ⟨t22, h23, H⟩ := bnd H
          refine HQ.op [] [] (OT.call (us := [_]) (Pre := []) [.tmp 59] Try.call19 rfl rfl fun w F hs hF hp => spec_TxOk_c nilB h23) ⟨rfl, rfl, trivial⟩ trivial rfl rfl rfl rfl (fun _ => rfl) fun _ => ?_
          refine HQ.on rfl rfl hg21 ?_
          refine HQ.pu Pu.not ⟨rfl, trivial⟩ rfl rfl rfl ?_
          obtain rfl := Option.some.inj H
          refine HQ.pu (Pu.pickC0 hg21) ⟨rfl, rfl, trivial⟩ rfl rfl rfl ?_
          exact HQ.mid ⟨rfl, rfl, rfl, rfl, rfl, rfl, trivial⟩ ⟨rfl, rfl, trivial⟩ rfl
      refine HQ.pu Pu.move ⟨rfl, trivial⟩ rfl rfl rfl ?_
      refine HQ.done ?_
      obtain ⟨c30, h31, H⟩ := bnd H
      refine HQ.dMid (m' := 17) [(71, .bool c30), (1, .slice a_0 (List.length p1) c_0), (4, BP b1 0), (5, .int .i64 0), (6, .bool false), (11, BP g10 0)] [(1, Box b1 [.int .i64 0, .int .i64 0, .int .i64 0, .slice none 0 0]), (3, Box g10 [.int .i64 t8.1, .int .i64 (IntKind.i64.wrap (gt p1 5)), .int .i64 (IntKind.i64.wrap (gt p1 6)), .slice none 0 0])] (fun hmid => ?_) ?_
      · clear H
        have H := h31
        rcases brk H with ⟨hg26, H⟩ | ⟨hg26, H⟩
        · obtain rfl := Option.some.inj H
          refine HQ.dPart [(1, .slice a_0 (List.length p1) c_0), (4, BP b1 0), (5, .int .i64 0), (6, .bool false), (11, BP g10 0), (63, .bool c24)] 15 [⟨[], [], []⟩, ⟨[], [], []⟩, ⟨[], [], []⟩, ⟨[], [], []⟩, ⟨[], [], []⟩, ⟨[], [], []⟩, ⟨[], [], []⟩, ⟨[], [], []⟩, ⟨[], [], []⟩, ⟨[], [], []⟩, ⟨[], [], []⟩, ⟨[], [], []⟩, ⟨[], [], []⟩, ⟨[], [], []⟩, ⟨[], [], []⟩] [] (fun (g29 : Unit) => [undef, undef, undef, undef, undef, undef, undef, undef, undef, undef, undef, undef, undef, undef, undef]) (fun (g29 : Unit) => []) () [] [] [] ⟨rfl, rfl, rfl, rfl, rfl, rfl, trivial⟩ trivial rfl (by kernel_rfl) (by kernel_rfl) (fun _ => rfl) (by kernel_rfl) (fun _ => rfl) rfl ⟨?_, ?_, ?_, ?_, ?_, ?_, trivial⟩ fun g29 => ?_
          · exact OpOK2.off rfl rfl rfl hg26 rfl rfl (fun _ => ⟨rfl, trivial⟩)
          · exact OpOK2.off rfl rfl rfl hg26 rfl rfl (fun _ => ⟨rfl, trivial⟩)
          · exact OpOK2.off rfl rfl rfl hg26 rfl rfl (fun _ => ⟨rfl, trivial⟩)
          · exact OpOK2.off rfl rfl rfl hg26 rfl rfl (fun _ => ⟨rfl, trivial⟩)
          · exact OpOK2.off rfl rfl rfl hg26 rfl rfl (fun _ => ⟨rfl, trivial⟩)
          · exact OpOK2.off rfl rfl rfl hg26 rfl rfl (fun _ => ⟨rfl, trivial⟩)
          refine HQ.keep [(1, _), (4, _), (5, _), (6, _), (11, _), (63, _), (67, _), (69, _)] ⟨rfl, rfl, rfl, rfl, rfl, rfl, rfl, rfl, trivial⟩ ?_
          refine HQ.keepR [(1, _), (3, _)] ⟨rfl, rfl, trivial⟩ rfl ?_
          refine HQ.dRun 1 rfl rfl (by kernel_rfl) (by kernel_rfl) ?_
          refine HQ.off rfl rfl hg26 rfl ?_
          refine HQ.done ?_
          refine HQ.dRun 1 rfl rfl (by kernel_rfl) (by kernel_rfl) ?_
          refine HQ.pu (Pu.pickC1 hg26) ⟨rfl, rfl, trivial⟩ rfl rfl rfl ?_
          refine HQ.done ?_
          exact HQ.dUse hmid ⟨rfl, rfl, rfl, rfl, rfl, rfl, trivial⟩ ⟨rfl, rfl, trivial⟩ rfl
        · obtain ⟨h28, H⟩ := asr H
          refine HQ.dPart [(1, .slice a_0 (List.length p1) c_0), (4, BP b1 0), (5, .int .i64 0), (6, .bool false), (11, BP g10 0), (63, .bool c24)] 15 [⟨[], [], []⟩, ⟨[], [], []⟩, ⟨[], [], []⟩, ⟨[], [], []⟩, ⟨[], [], []⟩, ⟨[], [], []⟩, ⟨[], [], []⟩, ⟨[], [], []⟩, ⟨[], [], []⟩, ⟨[], [], []⟩, ⟨[], [], [9]⟩, ⟨[], [], [10]⟩, ⟨[], [], [11]⟩, ⟨[], [], []⟩, ⟨[0], [0], [13]⟩] [⟨none, none⟩] (fun (g27 : Unit) => [undef, undef, undef, undef, undef, undef, undef, undef, undef, .slice a_0 (List.length p1) c_0, EP a_0 7 1 0, .int .u8 (gt p1 7), .int .i64 (IntKind.i64.wrap (gt p1 7)), BP g10 2, .int .i64 (IntKind.i64.wrap (gt p1 6))]) (fun (g27 : Unit) => [Box g10 [.int .i64 t8.1, .int .i64 (IntKind.i64.wrap (gt p1 5)), .int .i64 (IntKind.i64.wrap (gt p1 6)), .slice none 0 0]]) () [3] [3] [] ⟨rfl, rfl, rfl, rfl, rfl, rfl, trivial⟩ ⟨rfl, trivial⟩ rfl (by kernel_rfl) (by kernel_rfl) (fun _ => rfl) (by kernel_rfl) (fun _ => rfl) rfl ⟨?_, ?_, ?_, ?_, ?_, ?_, trivial⟩ fun g27 => ?_
          · exact OpOK2.on (fun g27 => [(.tmp 1, .slice a_0 (List.length p1) c_0)]) _ _ (fun g27 _ => g27) rfl rfl rfl hg26 (fun _ => ⟨rfl, trivial⟩) (fun g27 => Pu.toOT Pu.move) (fun _ _ => ⟨rfl, rfl, ⟨rfl, trivial⟩⟩)
          · exact OpOK2.on (fun g27 => [(.tmp 64, .slice a_0 (List.length p1) c_0), (.const (.int .i64 7), .int .i64 7)]) _ _ (fun g27 _ => g27) rfl rfl rfl hg26 (fun _ => ⟨rfl, rfl, trivial⟩) (fun g27 => OT.indexB ul27 sz5 hb_0 h28) (fun _ _ => ⟨rfl, rfl, ⟨rfl, trivial⟩⟩)
          · exact OpOK2.on (fun g27 => [(.tmp 65, EP a_0 7 1 0)]) _ _ (fun g27 _ => g27) rfl rfl rfl hg26 (fun _ => ⟨rfl, trivial⟩) (fun g27 => OT.loadF sc5 hb_0 h28 rfl) (fun _ _ => ⟨rfl, rfl, ⟨rfl, trivial⟩⟩)
          · exact OpOK2.on (fun g27 => [(.tmp 66, .int .u8 (gt p1 7))]) _ _ (fun g27 _ => g27) rfl rfl rfl hg26 (fun _ => ⟨rfl, trivial⟩) (fun g27 => Pu.toOT (Pu.conv ul5 ul3)) (fun _ _ => ⟨rfl, rfl, ⟨rfl, trivial⟩⟩)
          · exact OpOK2.on (fun g27 => [(.tmp 11, BP g10 0)]) _ _ (fun g27 _ => g27) rfl rfl rfl hg26 (fun _ => ⟨rfl, trivial⟩) (fun g27 => Pu.toOT (Pu.fieldB fo47_2 rfl)) (fun _ _ => ⟨rfl, rfl, ⟨rfl, trivial⟩⟩)
          · exact OpOK2.on (fun g27 => [(.tmp 68, BP g10 2)]) _ _ (fun g27 _ => g27) rfl rfl rfl hg26 (fun _ => ⟨rfl, trivial⟩) (fun g27 => OT.loadB sc3 rfl) (fun _ _ => ⟨rfl, rfl, ⟨rfl, trivial⟩⟩)
          refine HQ.keep [(1, _), (4, _), (5, _), (6, _), (11, _), (63, _), (67, _), (69, _)] ⟨rfl, rfl, rfl, rfl, rfl, rfl, rfl, rfl, trivial⟩ ?_
          refine HQ.keepR [(1, _), (3, _)] ⟨rfl, rfl, trivial⟩ rfl ?_
          refine HQ.dRun 1 rfl rfl (by kernel_rfl) (by kernel_rfl) ?_
          refine HQ.on rfl rfl hg26 ?_
          refine HQ.pu Pu.gtr ⟨rfl, rfl, trivial⟩ rfl rfl rfl ?_
          refine HQ.done ?_
          obtain rfl := Option.some.inj H
          refine HQ.dRun 1 rfl rfl (by kernel_rfl) (by kernel_rfl) ?_
          refine HQ.pu (Pu.pickC0 hg26) ⟨rfl, rfl, trivial⟩ rfl rfl rfl ?_
          refine HQ.done ?_
          exact HQ.dUse hmid ⟨rfl, rfl, rfl, rfl, rfl, rfl, trivial⟩ ⟨rfl, rfl, trivial⟩ rfl
      refine HQ.dEnd rfl ?_
      refine HQ.thenN ?_
      refine HQ.keep [(71, _), (1, _), (4, _), (5, _), (6, _), (11, _)] ⟨rfl, rfl, rfl, rfl, rfl, rfl, trivial⟩ ?_
      rcases brk H with ⟨hc, H⟩ | ⟨hc, H⟩
      · refine HQ.condT rfl hc ?_
        clear hc
        refine HQ.rseq ?_
        refine HQ.pu (Pu.build (us := []) (cs := [.int .i64 0, .int .i64 0, .int .i64 0, .slice none 0 0]) [] st47 rfl rfl rfl) trivial rfl rfl rfl ?_
        refine HQ.opN [1] [1] [] (OT.storeC (cs' := [.int .i64 0, .int .i64 0, .int .i64 0, .slice none 0 0]) sz47 rfl rfl rfl rfl rfl) ⟨rfl, rfl, trivial⟩ ⟨rfl, trivial⟩ rfl rfl rfl (fun _ => rfl) fun _ => ?_
        refine HQ.pu Pu.assign ⟨rfl, trivial⟩ rfl rfl rfl ?_
        refine HQ.pu Pu.assign ⟨rfl, trivial⟩ rfl rfl rfl ?_
        refine HQ.done ?_
        refine HQ.keep [(1, _), (4, _), (5, _), (6, _), (11, _)] ⟨rfl, rfl, rfl, rfl, rfl, trivial⟩ ?_
        refine HQ.ret ?_
        refine HQ.thenR ?_
        obtain rfl := Option.some.inj H
        refine HQ.nil kTChange 5 rfl ?_
        exact HQ.fin (vs := [_, _, _]) Try.results29 (none, 0) ⟨⟨_, _, 1, rfl, rfl, ag47, sz47, rfl⟩, rfl, rfl, trivial⟩ rfl [5] ⟨rfl, trivial⟩ rfl
      · refine HQ.condF rfl hc ?_
        clear hc
        refine HQ.skipThen ?_
        obtain ⟨h33, H⟩ := asr H
        refine HQ.drawS mixd [(1, .slice a_0 (List.length p1) c_0), (4, BP b1 0), (5, .int .i64 0), (6, .bool false), (11, BP g10 0)] 6 [⟨[0], [0], []⟩, ⟨[], [], []⟩, ⟨[], [], [1]⟩, ⟨[], [], [2]⟩, ⟨[], [], [3]⟩, ⟨[1], [2], [0]⟩] [⟨none, none⟩, ⟨none, some 5⟩, ⟨some 5, none⟩] (fun (g32 : Unit) => [.agg #[.int .i64 t8.1, .int .i64 (IntKind.i64.wrap (gt p1 5)), .int .i64 (IntKind.i64.wrap (gt p1 6)), .slice none 0 0], .slice a_0 (List.length p1) c_0, EP a_0 7 1 0, .int .u8 (gt p1 7), .int .i64 (IntKind.i64.wrap (gt p1 7)), undef]) (fun (g32 : Unit) => [Box g10 [.int .i64 t8.1, .int .i64 (IntKind.i64.wrap (gt p1 5)), .int .i64 (IntKind.i64.wrap (gt p1 6)), .slice none 0 0], Box b1 [.int .i64 0, .int .i64 0, .int .i64 0, .slice none 0 0], Box b1 [.int .i64 t8.1, .int .i64 (IntKind.i64.wrap (gt p1 5)), .int .i64 (IntKind.i64.wrap (gt p1 6)), .slice none 0 0]]) () [3, 1] [3, 1] [] ⟨rfl, rfl, rfl, rfl, rfl, trivial⟩ ⟨rfl, rfl, trivial⟩ rfl (by kernel_rfl) (fun _ => rfl) (by kernel_rfl) (fun _ => rfl) ⟨?_, ?_, ?_, ?_, ?_, ?_, trivial⟩ fun g32 => ?_
        · exact OpOK.of (fun g32 => [(.tmp 11, BP g10 0)]) _ _ (fun g32 _ => g32) rfl rfl (fun _ => ⟨rfl, trivial⟩) (fun g32 => OT.loadBA (vs := [.int .i64 t8.1, .int .i64 (IntKind.i64.wrap (gt p1 5)), .int .i64 (IntKind.i64.wrap (gt p1 6)), .slice none 0 0]) ag47 sz47 rfl rfl) (fun _ _ => ⟨rfl, rfl, ⟨rfl, rfl, rfl, trivial⟩⟩)
        · exact OpOK.of (fun g32 => [(.tmp 1, .slice a_0 (List.length p1) c_0)]) _ _ (fun g32 _ => g32) rfl rfl (fun _ => ⟨rfl, trivial⟩) (fun g32 => Pu.toOT Pu.move) (fun _ _ => ⟨rfl, rfl, ⟨rfl, rfl, rfl, trivial⟩⟩)
        · exact OpOK.of (fun g32 => [(.tmp 74, .slice a_0 (List.length p1) c_0), (.const (.int .i64 7), .int .i64 7)]) _ _ (fun g32 _ => g32) rfl rfl (fun _ => ⟨rfl, rfl, trivial⟩) (fun g32 => OT.indexB ul27 sz5 hb_0 h33) (fun _ _ => ⟨rfl, rfl, ⟨rfl, rfl, rfl, trivial⟩⟩)
        · exact OpOK.of (fun g32 => [(.tmp 75, EP a_0 7 1 0)]) _ _ (fun g32 _ => g32) rfl rfl (fun _ => ⟨rfl, trivial⟩) (fun g32 => OT.loadF sc5 hb_0 h33 rfl) (fun _ _ => ⟨rfl, rfl, ⟨rfl, rfl, rfl, trivial⟩⟩)
        · exact OpOK.of (fun g32 => [(.tmp 76, .int .u8 (gt p1 7))]) _ _ (fun g32 _ => g32) rfl rfl (fun _ => ⟨rfl, trivial⟩) (fun g32 => Pu.toOT (Pu.conv ul5 ul3)) (fun _ _ => ⟨rfl, rfl, ⟨rfl, rfl, rfl, trivial⟩⟩)
        · exact OpOK.of (fun g32 => [(.tmp 4, BP b1 0), (.tmp 73, .agg #[.int .i64 t8.1, .int .i64 (IntKind.i64.wrap (gt p1 5)), .int .i64 (IntKind.i64.wrap (gt p1 6)), .slice none 0 0])]) _ _ (fun g32 _ => g32) rfl rfl (fun _ => ⟨rfl, rfl, trivial⟩) (fun g32 => OT.storeC (cs' := [.int .i64 t8.1, .int .i64 (IntKind.i64.wrap (gt p1 5)), .int .i64 (IntKind.i64.wrap (gt p1 6)), .slice none 0 0]) sz47 rfl rfl rfl rfl rfl) (fun _ _ => ⟨rfl, rfl, ⟨rfl, rfl, rfl, trivial⟩⟩)
        refine HQ.keep [(4, _), (5, _), (6, _), (77, _)] ⟨rfl, rfl, rfl, rfl, trivial⟩ ?_
        refine HQ.keepR [(1, _), (3, _)] ⟨rfl, rfl, trivial⟩ rfl ?_
        refine HQ.pu Pu.assign ⟨rfl, trivial⟩ rfl rfl rfl ?_
        refine HQ.pu Pu.assign ⟨rfl, trivial⟩ rfl rfl rfl ?_
        refine HQ.done ?_
        refine HQ.keep [(4, _), (5, _), (6, _)] ⟨rfl, rfl, rfl, trivial⟩ ?_
        refine HQ.ret ?_
        obtain rfl := Option.some.inj H
        refine HQ.nil kTChange 6 rfl ?_
        exact HQ.fin (vs := [_, _, _]) Try.results29 (none, 0) ⟨⟨_, _, 1, rfl, rfl, ag47, sz47, rfl⟩, rfl, rfl, trivial⟩ rfl [6] ⟨rfl, trivial⟩ rfl
    · rintro r rfl a w hr
      obtain rfl := Option.some.inj H
      exact hr

/-! impl.in -/
theorem impl_in_c {w : World} {p0 : Int} {p1 : Int} {p2 : Int}   {r : Bool} (H : impl_in p0 p1 p2 = some r) :
    Calls Try.prog 60 #[.int .i64 p0, .int .i64 p1, .int .i64 p2] w (Rt w Nil (fun _ : Unit => .bool r) (fun _ => [])) := by
  rw [impl_in] at H
  refine Calls.enter0 (N := 15) (us := [_, _, _]) Try.func60 rfl rfl rfl ?_
  refine HQ.rseq ?_
  refine HQ.pu Pu.assign ⟨rfl, trivial⟩ rfl rfl rfl ?_
  refine HQ.done ?_
  refine HQ.keep [(0, _), (1, _), (2, _), (6, _)] ⟨rfl, rfl, rfl, rfl, trivial⟩ ?_
  refine HQ.rseq ?_
  refine HQ.pu Pu.move ⟨rfl, trivial⟩ rfl rfl rfl ?_
  refine HQ.pu Pu.move ⟨rfl, trivial⟩ rfl rfl rfl ?_
  refine HQ.pu Pu.leq ⟨rfl, rfl, trivial⟩ rfl rfl rfl ?_
  refine HQ.pu Pu.move ⟨rfl, trivial⟩ rfl rfl rfl ?_
  refine HQ.cutAt 4 [(14, .bool ((decide (p1 ≤ p0)) && (decide (p0 ≤ p2)))), (6, .bool false)] [] ?_ ?_
  · rcases Bool.eq_false_or_eq_true (decide (p1 ≤ p0)) with hg1 | hg1
    · refine HQ.on rfl rfl hg1 ?_
      refine HQ.pu Pu.move ⟨rfl, trivial⟩ rfl rfl rfl ?_
      refine HQ.on rfl rfl hg1 ?_
      refine HQ.pu Pu.move ⟨rfl, trivial⟩ rfl rfl rfl ?_
      refine HQ.on rfl rfl hg1 ?_
      refine HQ.pu Pu.leq ⟨rfl, rfl, trivial⟩ rfl rfl rfl ?_
      refine HQ.pu (Pu.pickAT hg1) ⟨rfl, rfl, trivial⟩ rfl rfl rfl ?_
      exact HQ.mid ⟨rfl, rfl, trivial⟩ trivial rfl
    · refine HQ.off rfl rfl hg1 rfl ?_
      refine HQ.off rfl rfl hg1 rfl ?_
      refine HQ.off rfl rfl hg1 rfl ?_
      refine HQ.pu (Pu.pickAF (u := (decide (p0 ≤ p2))) hg1) ⟨rfl, rfl, trivial⟩ rfl rfl rfl ?_
      exact HQ.mid ⟨rfl, rfl, trivial⟩ trivial rfl
  refine HQ.pu Pu.assign ⟨rfl, trivial⟩ rfl rfl rfl ?_
  refine HQ.done ?_
  refine HQ.keep [(6, _)] ⟨rfl, trivial⟩ ?_
  refine HQ.ret ?_
  obtain rfl := Option.some.inj H
  exact HQ.fin (vs := [_]) Try.results60 () ⟨rfl, trivial⟩ rfl [] trivial rfl

/-! impl.Get2 -/
theorem impl_Get2_c {w : World} {p0 : (List Int)} {p1 : Int} {a_0 : Option Addr} {c_0 : Nat} (hb_0 : BorS kU8 a_0 c_0 p0 w.heap (Lt w Nil)) {r : Int × Bool} (H : impl_Get2 p0 p1 = some r) :
    Calls Try.prog 71 #[.slice a_0 (List.length p0) c_0, .int .i64 p1] w (Rt w Nil (fun _ : Unit => .tuple #[.int .i64 r.1, .bool r.2]) (fun _ => [])) := by
  rw [impl_Get2] at H
  refine Calls.enter0 (N := 28) (us := [_, _]) Try.func71 rfl rfl rfl ?_
  refine HQ.rseq ?_
  refine HQ.pu Pu.assign ⟨rfl, trivial⟩ rfl rfl rfl ?_
  refine HQ.pu Pu.assign ⟨rfl, trivial⟩ rfl rfl rfl ?_
  refine HQ.done ?_
  refine HQ.keep [(0, _), (1, _), (4, _), (5, _)] ⟨rfl, rfl, rfl, rfl, trivial⟩ ?_
  refine HQ.seq ?_
  refine HQ.rseq ?_
  refine HQ.pu Pu.move ⟨rfl, trivial⟩ rfl rfl rfl ?_
  refine HQ.pu Pu.lss ⟨rfl, rfl, trivial⟩ rfl rfl rfl ?_
  refine HQ.pu Pu.move ⟨rfl, trivial⟩ rfl rfl rfl ?_
  refine HQ.cutAt 6 [(14, .bool ((decide (p1 < 0)) || (decide (p1 > (wrap64 (((List.length p0 : Nat) : Int) - 2)))))), (0, .slice a_0 (List.length p0) c_0), (1, .int .i64 p1), (4, .int .i64 0), (5, .bool false)] [] ?_ ?_
  · rcases Bool.eq_false_or_eq_true (decide (p1 < 0)) with hg1 | hg1
    · refine HQ.off rfl rfl hg1 rfl ?_
      refine HQ.off rfl rfl hg1 rfl ?_
      refine HQ.off rfl rfl hg1 rfl ?_
      refine HQ.off rfl rfl hg1 rfl ?_
      refine HQ.off rfl rfl hg1 rfl ?_
      refine HQ.pu (Pu.pickOT (u := (decide (p1 > (wrap64 (((List.length p0 : Nat) : Int) - 2))))) hg1) ⟨rfl, rfl, trivial⟩ rfl rfl rfl ?_
      exact HQ.mid ⟨rfl, rfl, rfl, rfl, rfl, trivial⟩ trivial rfl
    · refine HQ.on rfl rfl hg1 ?_
      refine HQ.pu Pu.move ⟨rfl, trivial⟩ rfl rfl rfl ?_
      refine HQ.on rfl rfl hg1 ?_
      refine HQ.pu Pu.move ⟨rfl, trivial⟩ rfl rfl rfl ?_
      refine HQ.on rfl rfl hg1 ?_
      refine HQ.pu (Pu.len ul27) ⟨rfl, trivial⟩ rfl rfl rfl ?_
      refine HQ.on rfl rfl hg1 ?_
      refine HQ.pu Pu.sub ⟨rfl, rfl, trivial⟩ rfl rfl rfl ?_
      refine HQ.on rfl rfl hg1 ?_
      refine HQ.pu Pu.gtr ⟨rfl, rfl, trivial⟩ rfl rfl rfl ?_
      refine HQ.pu (Pu.pickOF hg1) ⟨rfl, rfl, trivial⟩ rfl rfl rfl ?_
      exact HQ.mid ⟨rfl, rfl, rfl, rfl, rfl, trivial⟩ trivial rfl
  refine HQ.done ?_
  refine HQ.keep [(14, _), (0, _), (1, _), (4, _), (5, _)] ⟨rfl, rfl, rfl, rfl, rfl, trivial⟩ ?_
  rcases brk H with ⟨hc, H⟩ | ⟨hc, H⟩
  · refine HQ.condT rfl hc ?_
    clear hc
    refine HQ.rseq ?_
    refine HQ.pu Pu.assign ⟨rfl, trivial⟩ rfl rfl rfl ?_
    refine HQ.pu Pu.assign ⟨rfl, trivial⟩ rfl rfl rfl ?_
    refine HQ.done ?_
    refine HQ.keep [(0, _), (1, _), (4, _), (5, _)] ⟨rfl, rfl, rfl, rfl, trivial⟩ ?_
    refine HQ.ret ?_
    refine HQ.thenR ?_
    obtain rfl := Option.some.inj H
    exact HQ.fin (vs := [_, _]) Try.results71 () ⟨rfl, rfl, trivial⟩ rfl [] trivial rfl
  · refine HQ.condF rfl hc ?_
    clear hc
    refine HQ.skipThen ?_
    obtain ⟨h3, H⟩ := asr H
    obtain ⟨h4, H⟩ := asr H
    refine HQ.drawS mixd [(0, .slice a_0 (List.length p0) c_0), (1, .int .i64 p1), (4, .int .i64 0), (5, .bool false)] 12 [⟨[], [], []⟩, ⟨[], [], []⟩, ⟨[], [], [0, 1]⟩, ⟨[], [], [2]⟩, ⟨[], [], [3]⟩, ⟨[], [], [4]⟩, ⟨[], [], []⟩, ⟨[], [], []⟩, ⟨[], [], [7]⟩, ⟨[], [], [6, 8]⟩, ⟨[], [], [9]⟩, ⟨[], [], [10]⟩] [] (fun (g2 : Unit) => [.slice a_0 (List.length p0) c_0, .int .i64 p1, EP a_0 p1 1 0, .int .u8 (gt p0 p1), .int .i64 (IntKind.i64.wrap (gt p0 p1)), .int .i64 (wrap64 ((IntKind.i64.wrap (gt p0 p1)) * 2 ^ (min (Int.toNat 8) 64))), .slice a_0 (List.length p0) c_0, .int .i64 p1, .int .i64 (wrap64 (p1 + 1)), EP a_0 (wrap64 (p1 + 1)) 1 0, .int .u8 (gt p0 (wrap64 (p1 + 1))), .int .i64 (IntKind.i64.wrap (gt p0 (wrap64 (p1 + 1))))]) (fun (g2 : Unit) => []) () [] [] [] ⟨rfl, rfl, rfl, rfl, trivial⟩ trivial rfl (by kernel_rfl) (fun _ => rfl) (by kernel_rfl) (fun _ => rfl) ⟨?_, ?_, ?_, ?_, ?_, ?_, ?_, ?_, ?_, ?_, ?_, ?_, trivial⟩ fun g2 => ?_
    · exact OpOK.of (fun g2 => [(.tmp 0, .slice a_0 (List.length p0) c_0)]) _ _ (fun g2 _ => g2) rfl rfl (fun _ => ⟨rfl, trivial⟩) (fun g2 => Pu.toOT Pu.move) (fun _ _ => ⟨rfl, rfl, trivial⟩)
    · exact OpOK.of (fun g2 => [(.tmp 1, .int .i64 p1)]) _ _ (fun g2 _ => g2) rfl rfl (fun _ => ⟨rfl, trivial⟩) (fun g2 => Pu.toOT Pu.move) (fun _ _ => ⟨rfl, rfl, trivial⟩)
    · exact OpOK.of (fun g2 => [(.tmp 15, .slice a_0 (List.length p0) c_0), (.tmp 16, .int .i64 p1)]) _ _ (fun g2 _ => g2) rfl rfl (fun _ => ⟨rfl, rfl, trivial⟩) (fun g2 => OT.indexB ul27 sz5 hb_0 h3) (fun _ _ => ⟨rfl, rfl, trivial⟩)
    · exact OpOK.of (fun g2 => [(.tmp 17, EP a_0 p1 1 0)]) _ _ (fun g2 _ => g2) rfl rfl (fun _ => ⟨rfl, trivial⟩) (fun g2 => OT.loadF sc5 hb_0 h3 rfl) (fun _ _ => ⟨rfl, rfl, trivial⟩)
    · exact OpOK.of (fun g2 => [(.tmp 18, .int .u8 (gt p0 p1))]) _ _ (fun g2 _ => g2) rfl rfl (fun _ => ⟨rfl, trivial⟩) (fun g2 => Pu.toOT (Pu.conv ul5 ul3)) (fun _ _ => ⟨rfl, rfl, trivial⟩)
    · exact OpOK.of (fun g2 => [(.tmp 19, .int .i64 (IntKind.i64.wrap (gt p0 p1))), (.const (.int .u64 8), .int .u64 8)]) _ _ (fun g2 _ => g2) rfl rfl (fun _ => ⟨rfl, rfl, trivial⟩) (fun g2 => Pu.toOT (Pu.shl (by decide))) (fun _ _ => ⟨rfl, rfl, trivial⟩)
    · exact OpOK.of (fun g2 => [(.tmp 0, .slice a_0 (List.length p0) c_0)]) _ _ (fun g2 _ => g2) rfl rfl (fun _ => ⟨rfl, trivial⟩) (fun g2 => Pu.toOT Pu.move) (fun _ _ => ⟨rfl, rfl, trivial⟩)
    · exact OpOK.of (fun g2 => [(.tmp 1, .int .i64 p1)]) _ _ (fun g2 _ => g2) rfl rfl (fun _ => ⟨rfl, trivial⟩) (fun g2 => Pu.toOT Pu.move) (fun _ _ => ⟨rfl, rfl, trivial⟩)
    · exact OpOK.of (fun g2 => [(.tmp 22, .int .i64 p1), (.const (.int .i64 1), .int .i64 1)]) _ _ (fun g2 _ => g2) rfl rfl (fun _ => ⟨rfl, rfl, trivial⟩) (fun g2 => Pu.toOT Pu.add) (fun _ _ => ⟨rfl, rfl, trivial⟩)
    · exact OpOK.of (fun g2 => [(.tmp 21, .slice a_0 (List.length p0) c_0), (.tmp 23, .int .i64 (wrap64 (p1 + 1)))]) _ _ (fun g2 _ => g2) rfl rfl (fun _ => ⟨rfl, rfl, trivial⟩) (fun g2 => OT.indexB ul27 sz5 hb_0 h4) (fun _ _ => ⟨rfl, rfl, trivial⟩)
    · exact OpOK.of (fun g2 => [(.tmp 24, EP a_0 (wrap64 (p1 + 1)) 1 0)]) _ _ (fun g2 _ => g2) rfl rfl (fun _ => ⟨rfl, trivial⟩) (fun g2 => OT.loadF sc5 hb_0 h4 rfl) (fun _ _ => ⟨rfl, rfl, trivial⟩)
    · exact OpOK.of (fun g2 => [(.tmp 25, .int .u8 (gt p0 (wrap64 (p1 + 1))))]) _ _ (fun g2 _ => g2) rfl rfl (fun _ => ⟨rfl, trivial⟩) (fun g2 => Pu.toOT (Pu.conv ul5 ul3)) (fun _ _ => ⟨rfl, rfl, trivial⟩)
    refine HQ.keep [(4, _), (5, _), (20, _), (26, _)] ⟨rfl, rfl, rfl, rfl, trivial⟩ ?_
    refine HQ.keepR [] trivial rfl ?_
    refine HQ.pu Pu.or ⟨rfl, rfl, trivial⟩ rfl rfl rfl ?_
    refine HQ.pu Pu.assign ⟨rfl, trivial⟩ rfl rfl rfl ?_
    refine HQ.pu Pu.assign ⟨rfl, trivial⟩ rfl rfl rfl ?_
    refine HQ.done ?_
    refine HQ.keep [(4, _), (5, _)] ⟨rfl, rfl, trivial⟩ ?_
    refine HQ.ret ?_
    obtain rfl := Option.some.inj H
    exact HQ.fin (vs := [_, _]) Try.results71 () ⟨rfl, rfl, trivial⟩ rfl [] trivial rfl

/-! (impl.Tx).numbersOk -/
theorem impl_Tx_numbersOk_c {w : World} {p0 : TTx} {a_0 : Option Addr} {c_0 : Nat} (hb_0 : BorS kTChange a_0 c_0 p0.Puts w.heap (Lt w Nil)) {r : Bool} (H : impl_Tx_numbersOk p0 = some r) :
    Calls Try.prog 62 #[.agg #[.int .i64 p0.Seq, .int .i64 p0.Root, .int .i64 p0.Size, .slice a_0 (List.length p0.Puts) c_0]] w (Rt w Nil (fun _ : Unit => .bool r) (fun _ => [])) := by
  rw [impl_Tx_numbersOk] at H
  refine Calls.enter0 (N := 19) (us := [_]) Try.func62 rfl rfl rfl ?_
  refine HQ.rseq ?_
  refine HQ.op [] [1] (OT.box (cs := [.int .i64 p0.Seq, .int .i64 p0.Root, .int .i64 p0.Size, .slice a_0 (List.length p0.Puts) c_0]) rfl) ⟨rfl, trivial⟩ trivial rfl rfl rfl rfl (fun _ => rfl) fun b1 => ?_
  refine HQ.pu Pu.assign ⟨rfl, trivial⟩ rfl rfl rfl ?_
  refine HQ.done ?_
  refine HQ.keep [(1, _), (2, _)] ⟨rfl, rfl, trivial⟩ ?_
  refine HQ.rseq ?_
  refine HQ.pu (Pu.fieldB fo47_0 rfl) ⟨rfl, trivial⟩ rfl rfl rfl ?_
  refine HQ.op [1] [1] (OT.loadB sc3 rfl) ⟨rfl, trivial⟩ ⟨rfl, trivial⟩ rfl rfl rfl rfl (fun _ => rfl) fun _ => ?_
  obtain ⟨t2, h3, H⟩ := bnd H
  refine HQ.op [] [] (OT.call (us := [_, _, _]) (Pre := []) [.tmp 4, .const (.int .i64 1), .const (.int .i64 65535)] Try.call60 rfl rfl fun w F hs hF hp => impl_in_c h3) ⟨rfl, rfl, rfl, rfl, trivial⟩ trivial rfl rfl rfl rfl (fun _ => rfl) fun _ => ?_
  refine HQ.pu Pu.move ⟨rfl, trivial⟩ rfl rfl rfl ?_
  obtain ⟨c7, h8, H⟩ := bnd H
  refine HQ.cutAt 4 [(10, .bool c7), (1, BP b1 0), (2, .bool false)] [(1, Box b1 [.int .i64 p0.Seq, .int .i64 p0.Root, .int .i64 p0.Size, .slice a_0 (List.length p0.Puts) c_0])] ?_ ?_
  · clear H
    have H := h8
    rcases brk H with ⟨hg4, H⟩ | ⟨hg4, H⟩
    · refine HQ.on rfl rfl hg4 ?_
      refine HQ.pu (Pu.fieldB fo47_2 rfl) ⟨rfl, trivial⟩ rfl rfl rfl ?_
      refine HQ.on rfl rfl hg4 ?_
      refine HQ.op [1] [1] (OT.loadB sc3 rfl) ⟨rfl, trivial⟩ ⟨rfl, trivial⟩ rfl rfl rfl rfl (fun _ => rfl) fun _ => ?_
      refine HQ.on rfl rfl hg4 ?_
      obtain ⟨t5, h6, H⟩ := bnd H
      refine HQ.op [] [] (OT.call (us := [_, _, _]) (Pre := []) [.tmp 8, .const (.int .i64 1), .const (.int .i64 48)] Try.call60 rfl rfl fun w F hs hF hp => impl_in_c h6) ⟨rfl, rfl, rfl, rfl, trivial⟩ trivial rfl rfl rfl rfl (fun _ => rfl) fun _ => ?_
      obtain rfl := Option.some.inj H
      refine HQ.pu (Pu.pickC1 hg4) ⟨rfl, rfl, trivial⟩ rfl rfl rfl ?_
      exact HQ.mid ⟨rfl, rfl, rfl, trivial⟩ ⟨rfl, trivial⟩ rfl
    · obtain rfl := Option.some.inj H
      refine HQ.off rfl rfl hg4 rfl ?_
      refine HQ.off rfl rfl hg4 rfl ?_
      refine HQ.off rfl rfl hg4 rfl ?_
      refine HQ.pu (Pu.pickC0 hg4) ⟨rfl, rfl, trivial⟩ rfl rfl rfl ?_
      exact HQ.mid ⟨rfl, rfl, rfl, trivial⟩ ⟨rfl, trivial⟩ rfl
  refine HQ.pu Pu.move ⟨rfl, trivial⟩ rfl rfl rfl ?_
  obtain ⟨c12, h13, H⟩ := bnd H
  refine HQ.cutAt 7 [(18, .bool c12), (2, .bool false)] [(1, Box b1 [.int .i64 p0.Seq, .int .i64 p0.Root, .int .i64 p0.Size, .slice a_0 (List.length p0.Puts) c_0])] ?_ ?_
  · clear H
    have H := h13
    rcases brk H with ⟨hg9, H⟩ | ⟨hg9, H⟩
    · refine HQ.on rfl rfl hg9 ?_
      refine HQ.pu (Pu.fieldB fo47_1 rfl) ⟨rfl, trivial⟩ rfl rfl rfl ?_
      refine HQ.on rfl rfl hg9 ?_
      refine HQ.op [1] [1] (OT.loadB sc3 rfl) ⟨rfl, trivial⟩ ⟨rfl, trivial⟩ rfl rfl rfl rfl (fun _ => rfl) fun _ => ?_
      refine HQ.on rfl rfl hg9 ?_
      refine HQ.pu (Pu.fieldB fo47_2 rfl) ⟨rfl, trivial⟩ rfl rfl rfl ?_
      refine HQ.on rfl rfl hg9 ?_
      refine HQ.op [1] [1] (OT.loadB sc3 rfl) ⟨rfl, trivial⟩ ⟨rfl, trivial⟩ rfl rfl rfl rfl (fun _ => rfl) fun _ => ?_
      refine HQ.on rfl rfl hg9 ?_
      refine HQ.pu Pu.sub ⟨rfl, rfl, trivial⟩ rfl rfl rfl ?_
      refine HQ.on rfl rfl hg9 ?_
      obtain ⟨t10, h11, H⟩ := bnd H
      refine HQ.op [] [] (OT.call (us := [_, _, _]) (Pre := []) [.tmp 13, .const (.int .i64 0), .tmp 16] Try.call60 rfl rfl fun w F hs hF hp => impl_in_c h11) ⟨rfl, rfl, rfl, rfl, trivial⟩ trivial rfl rfl rfl rfl (fun _ => rfl) fun _ => ?_
      obtain rfl := Option.some.inj H
      refine HQ.pu (Pu.pickC1 hg9) ⟨rfl, rfl, trivial⟩ rfl rfl rfl ?_
      exact HQ.mid ⟨rfl, rfl, trivial⟩ ⟨rfl, trivial⟩ rfl
    · obtain rfl := Option.some.inj H
      refine HQ.off rfl rfl hg9 rfl ?_
      refine HQ.off rfl rfl hg9 rfl ?_
      refine HQ.off rfl rfl hg9 rfl ?_
      refine HQ.off rfl rfl hg9 rfl ?_
      refine HQ.off rfl rfl hg9 rfl ?_
      refine HQ.off rfl rfl hg9 rfl ?_
      refine HQ.pu (Pu.pickC0 hg9) ⟨rfl, rfl, trivial⟩ rfl rfl rfl ?_
      exact HQ.mid ⟨rfl, rfl, trivial⟩ ⟨rfl, trivial⟩ rfl
  refine HQ.pu Pu.assign ⟨rfl, trivial⟩ rfl rfl rfl ?_
  refine HQ.done ?_
  refine HQ.keep [(2, _)] ⟨rfl, trivial⟩ ?_
  refine HQ.ret ?_
  obtain rfl := Option.some.inj H
  exact HQ.fin (vs := [_]) Try.results62 () ⟨rfl, trivial⟩ rfl [] trivial rfl

/-! slices.Clone(()byte,byte) -/
theorem slices_Clone_byte_byte_c {w : World} {p0 : (List Int)} {a_0 : Option Addr} {c_0 : Nat} (hb_0 : BorS kU8 a_0 c_0 p0 w.heap (Lt w Nil)) {r : (List Int)} (H : slices_Clone_byte_byte p0 = some r) :
    Calls Try.prog 52 #[.slice a_0 (List.length p0) c_0] w (Rt w Nil (fun g : Option Addr × Nat => .slice g.1 (List.length r) g.2) (fun g => [OwnS kU8 g.1 g.2 r])) := by
  rw [slices_Clone_byte_byte] at H
  obtain ⟨h5, H⟩ := asr H
  obtain rfl := Option.some.inj H
  refine Calls.enter0 (N := 8) (us := [_]) Try.func52 rfl rfl rfl ?_
  refine HQ.rseq ?_
  refine HQ.pu Pu.assign ⟨rfl, trivial⟩ rfl rfl rfl ?_
  refine HQ.done ?_
  refine HQ.seq ?_
  refine HQ.rseq ?_
  refine HQ.pu Pu.move ⟨rfl, trivial⟩ rfl rfl rfl ?_
  refine HQ.pu (Pu.eqlNil ul27) ⟨rfl, rfl, trivial⟩ rfl rfl rfl ?_
  refine HQ.done ?_
  cases a_0 with
  | none =>
    refine HQ.condT rfl rfl ?_
    have hp : p0 = [] := by
      rcases hb_0.2 with h | ⟨b, off, cs, ty, fz, h, _⟩
      · exact h
      · cases h
    subst hp
    refine HQ.rseq ?_
    refine HQ.pu Pu.assign ⟨rfl, trivial⟩ rfl rfl rfl ?_
    refine HQ.done ?_
    refine HQ.ret ?_
    refine HQ.thenR ?_
    refine HQ.nil kU8 1 rfl ?_
    exact HQ.fin (vs := [_]) Try.results52 (none, 0) ⟨rfl, trivial⟩ rfl [1] ⟨rfl, trivial⟩ rfl
  | some a =>
    refine HQ.condF rfl rfl ?_
    refine HQ.skipThen ?_
    refine HQ.rseq ?_
    refine HQ.op [] [1] (OT.buildF (us := []) (ys := ([] : (List Int))) (enc := (encI .u8)) (hl := fun _ => ⟨rfl, rfl⟩) [] sl27.ul sl27.szE sl27.zc rfl rfl rfl rfl rfl) trivial trivial rfl rfl rfl rfl (fun _ => rfl) fun ⟨a1, c2⟩ => ?_
    refine HQ.pu Pu.move ⟨rfl, trivial⟩ rfl rfl rfl ?_
    refine HQ.op [1] [1] (OT.appendF (enc := (encI .u8)) (hl := fun _ => ⟨rfl, rfl⟩) sl27 ul27 hb_0 (by simpa using h5)) ⟨rfl, rfl, trivial⟩ ⟨rfl, trivial⟩ rfl rfl rfl rfl (fun _ => rfl) fun ⟨a3, c4⟩ => ?_
    refine HQ.pu Pu.assign ⟨rfl, trivial⟩ rfl rfl rfl ?_
    refine HQ.done ?_
    refine HQ.ret ?_
    exact HQ.fin (vs := [_]) Try.results52 (a3, c4) ⟨rfl, trivial⟩ rfl [1] ⟨rfl, trivial⟩ rfl

/-! impl.Put2 -/
theorem impl_Put2_c {w : World} {p0 : (List Int)} {p1 : Int} {a_0 : Option Addr} {c_0 : Nat} (hb_0 : BorS kU8 a_0 c_0 p0 w.heap (Lt w Nil)) {r : (List Int)} (H : impl_Put2 p0 p1 = some r) :
    Calls Try.prog 78 #[.slice a_0 (List.length p0) c_0, .int .i64 p1] w (Rt w Nil (fun g : Option Addr × Nat => .slice g.1 (List.length r) g.2) (fun g => [OwnS kU8 g.1 g.2 r])) := by
  rw [impl_Put2] at H
  refine Calls.enter0 (N := 20) (us := [_, _]) Try.func78 rfl rfl rfl ?_
  refine HQ.rseq ?_
  refine HQ.pu Pu.assign ⟨rfl, trivial⟩ rfl rfl rfl ?_
  refine HQ.done ?_
  refine HQ.keep [(0, _), (1, _), (4, _)] ⟨rfl, rfl, rfl, trivial⟩ ?_
  refine HQ.rseq ?_
  refine HQ.pu Pu.move ⟨rfl, trivial⟩ rfl rfl rfl ?_
  obtain ⟨t1, h2, H⟩ := bnd H
  refine HQ.op [] [1] (OT.call (us := [_]) (Pre := []) [.tmp 6] Try.call52 rfl rfl fun w F hs hF hp => slices_Clone_byte_byte_c (hb_0.pass hp) h2) ⟨rfl, rfl, trivial⟩ trivial rfl rfl rfl rfl (fun _ => rfl) fun ⟨a3, c4⟩ => ?_
  refine HQ.pu Pu.assign ⟨rfl, trivial⟩ rfl rfl rfl ?_
  refine HQ.done ?_
  refine HQ.keep [(1, _), (4, _), (5, _)] ⟨rfl, rfl, rfl, trivial⟩ ?_
  refine HQ.seq ?_
  refine HQ.rseq ?_
  refine HQ.pu Pu.move ⟨rfl, trivial⟩ rfl rfl rfl ?_
  obtain ⟨t5, h6, H⟩ := bnd H
  refine HQ.op [] [] (OT.call (us := [_, _, _]) (Pre := []) [.tmp 8, .const (.int .i64 0), .const (.int .i64 65535)] Try.call60 rfl rfl fun w F hs hF hp => impl_in_c h6) ⟨rfl, rfl, rfl, rfl, trivial⟩ trivial rfl rfl rfl rfl (fun _ => rfl) fun _ => ?_
  refine HQ.pu Pu.not ⟨rfl, trivial⟩ rfl rfl rfl ?_
  refine HQ.done ?_
  refine HQ.keep [(1, _), (4, _), (5, _), (10, _)] ⟨rfl, rfl, rfl, rfl, trivial⟩ ?_
  rcases brk H with ⟨hc, H⟩ | ⟨hc, H⟩
  · refine HQ.condT rfl hc ?_
    clear hc
    refine HQ.rseq ?_
    refine HQ.pu Pu.move ⟨rfl, trivial⟩ rfl rfl rfl ?_
    refine HQ.pu Pu.assign ⟨rfl, trivial⟩ rfl rfl rfl ?_
    refine HQ.done ?_
    refine HQ.keep [(1, _), (4, _), (5, _)] ⟨rfl, rfl, rfl, trivial⟩ ?_
    refine HQ.ret ?_
    refine HQ.thenR ?_
    obtain rfl := Option.some.inj H
    exact HQ.fin (vs := [_]) Try.results78 (a3, c4) ⟨rfl, trivial⟩ rfl [1] ⟨rfl, trivial⟩ rfl
  · refine HQ.condF rfl hc ?_
    clear hc
    refine HQ.skipThen ?_
    refine HQ.rseq ?_
    refine HQ.pu Pu.move ⟨rfl, trivial⟩ rfl rfl rfl ?_
    refine HQ.pu Pu.move ⟨rfl, trivial⟩ rfl rfl rfl ?_
    refine HQ.pu (Pu.shr (by decide)) ⟨rfl, rfl, trivial⟩ rfl rfl rfl ?_
    refine HQ.pu (Pu.conv ul3 ul5) ⟨rfl, trivial⟩ rfl rfl rfl ?_
    refine HQ.pu Pu.move ⟨rfl, trivial⟩ rfl rfl rfl ?_
    refine HQ.pu (Pu.conv ul3 ul5) ⟨rfl, trivial⟩ rfl rfl rfl ?_
    refine HQ.op [] [2] (OT.buildF (us := [.int .u8 (IntKind.u8.wrap (Int.fdiv p1 (2 ^ (min (Int.toNat 8) 64)))), .int .u8 (IntKind.u8.wrap p1)]) (ys := ([(IntKind.u8.wrap (Int.fdiv p1 (2 ^ (min (Int.toNat 8) 64)))), (IntKind.u8.wrap p1)] : (List Int))) (enc := (encI .u8)) (hl := fun _ => ⟨rfl, rfl⟩) [.tmp 15, .tmp 17] sl27.ul sl27.szE sl27.zc rfl rfl rfl rfl rfl) ⟨rfl, rfl, trivial⟩ trivial rfl rfl rfl rfl (fun _ => rfl) fun ⟨a7, c8⟩ => ?_
    obtain ⟨h11, H⟩ := asr H
    refine HQ.op [1, 2] [1, 2] (OT.appendG (enc := (encI .u8)) (hl := fun _ => ⟨rfl, rfl⟩) sl27 ul27 h11) ⟨rfl, rfl, trivial⟩ ⟨rfl, rfl, trivial⟩ rfl rfl rfl rfl (fun _ => rfl) fun ⟨a9, c10⟩ => ?_
    refine HQ.pu Pu.assign ⟨rfl, trivial⟩ rfl rfl rfl ?_
    refine HQ.done ?_
    refine HQ.keep [(4, _)] ⟨rfl, trivial⟩ ?_
    refine HQ.ret ?_
    obtain rfl := Option.some.inj H
    exact HQ.fin (vs := [_]) Try.results78 (a9, c10) ⟨rfl, trivial⟩ rfl [1] ⟨rfl, trivial⟩ rfl

/-! impl.endCell -/
theorem impl_endCell_c {w : World} {p0 : Int} {p1 : TTx} {p2 : Int} {a_0 : Option Addr} {c_0 : Nat} (hb_0 : BorS kTChange a_0 c_0 p1.Puts w.heap (Lt w Nil)) {r : (List Int)} (H : impl_endCell p0 p1 p2 = some r) :
    Calls Try.prog 74 #[.int .i64 p0, .agg #[.int .i64 p1.Seq, .int .i64 p1.Root, .int .i64 p1.Size, .slice a_0 (List.length p1.Puts) c_0], .int .i64 p2] w (Rt w Nil (fun g : Option Addr × Nat => .slice g.1 (List.length r) g.2) (fun g => [OwnS kU8 g.1 g.2 r])) := by
  rw [impl_endCell] at H
  refine Calls.enter0 (N := 23) (us := [_, _, _]) Try.func74 rfl rfl rfl ?_
  refine HQ.rseq ?_
  refine HQ.op [] [1] (OT.box (cs := [.int .i64 p1.Seq, .int .i64 p1.Root, .int .i64 p1.Size, .slice a_0 (List.length p1.Puts) c_0]) rfl) ⟨rfl, trivial⟩ trivial rfl rfl rfl rfl (fun _ => rfl) fun b1 => ?_
  refine HQ.pu Pu.assign ⟨rfl, trivial⟩ rfl rfl rfl ?_
  refine HQ.done ?_
  refine HQ.keep [(0, _), (2, _), (4, _), (6, _)] ⟨rfl, rfl, rfl, rfl, trivial⟩ ?_
  obtain ⟨t5, h6, H⟩ := bnd H
  obtain ⟨t9, h10, H⟩ := bnd H
  refine HQ.drawS mixd [(0, .int .i64 p0), (2, .int .i64 p2), (4, BP b1 0), (6, .slice none 0 0)] 15 [⟨[], [0], []⟩, ⟨[], [], []⟩, ⟨[0], [1, 0], [0, 1]⟩, ⟨[], [], []⟩, ⟨[2], [2], [3]⟩, ⟨[1], [3, 1], [2, 4]⟩, ⟨[], [], []⟩, ⟨[2], [2], [6]⟩, ⟨[], [], [7]⟩, ⟨[], [], []⟩, ⟨[2], [2], [9]⟩, ⟨[], [], [10]⟩, ⟨[], [], []⟩, ⟨[], [], [12]⟩, ⟨[], [4], [8, 11, 13]⟩] [⟨some 0, none⟩, ⟨some 2, none⟩, ⟨none, none⟩, ⟨some 5, none⟩, ⟨some 14, none⟩] (fun (g2 : (Option Addr × Nat) × (Option Addr × Nat) × (Option Addr × Nat) × (Option Addr × Nat)) => [.slice g2.1.1 (List.length ([2] : (List Int))) g2.1.2, .int .i64 p0, .slice g2.2.1.1 (List.length t5) g2.2.1.2, BP b1 0, .int .i64 p1.Seq, .slice g2.2.2.1.1 (List.length t9) g2.2.2.1.2, BP b1 1, .int .i64 p1.Root, .int .u8 (IntKind.u8.wrap p1.Root), BP b1 2, .int .i64 p1.Size, .int .u8 (IntKind.u8.wrap p1.Size), .int .i64 p2, .int .u8 (IntKind.u8.wrap p2), .slice g2.2.2.2.1 (List.length ([(IntKind.u8.wrap p1.Root), (IntKind.u8.wrap p1.Size), (IntKind.u8.wrap p2)] : (List Int))) g2.2.2.2.2]) (fun (g2 : (Option Addr × Nat) × (Option Addr × Nat) × (Option Addr × Nat) × (Option Addr × Nat)) => [OwnS kU8 g2.1.1 g2.1.2 ([2] : (List Int)), OwnS kU8 g2.2.1.1 g2.2.1.2 t5, Box b1 [.int .i64 p1.Seq, .int .i64 p1.Root, .int .i64 p1.Size, .slice a_0 (List.length p1.Puts) c_0], OwnS kU8 g2.2.2.1.1 g2.2.2.1.2 t9, OwnS kU8 g2.2.2.2.1 g2.2.2.2.2 ([(IntKind.u8.wrap p1.Root), (IntKind.u8.wrap p1.Size), (IntKind.u8.wrap p2)] : (List Int))]) ((none, 0), (none, 0), (none, 0), (none, 0)) [1] [2, 3, 1, 4, 5] [] ⟨rfl, rfl, rfl, rfl, trivial⟩ ⟨rfl, trivial⟩ rfl (by kernel_rfl) (fun _ => rfl) (by kernel_rfl) (fun _ => rfl) ⟨?_, ?_, ?_, ?_, ?_, ?_, ?_, ?_, ?_, ?_, ?_, ?_, ?_, ?_, ?_, trivial⟩ fun g2 => ?_
  · exact OpOK.of (fun g2 => [(.const (.int .u8 2), .int .u8 2)]) _ _ (fun g2 x => (x, g2.2.1, g2.2.2.1, g2.2.2.2)) rfl rfl (fun _ => ⟨rfl, trivial⟩) (fun g2 => OT.buildF (us := [.int .u8 2]) (ys := ([2] : (List Int))) (enc := (encI .u8)) (hl := fun _ => ⟨rfl, rfl⟩) [.const (.int .u8 2)] sl27.ul sl27.szE sl27.zc rfl rfl rfl rfl rfl) (fun _ _ => ⟨rfl, rfl, ⟨rfl, rfl, rfl, rfl, rfl, trivial⟩⟩)
  · exact OpOK.of (fun g2 => [(.tmp 0, .int .i64 p0)]) _ _ (fun g2 _ => g2) rfl rfl (fun _ => ⟨rfl, trivial⟩) (fun g2 => Pu.toOT Pu.move) (fun _ _ => ⟨rfl, rfl, ⟨rfl, rfl, rfl, rfl, rfl, trivial⟩⟩)
  · exact OpOK.of (fun g2 => [(.func 78, .func (.func 78) #[] #[]), (.tmp 7, .slice g2.1.1 (List.length ([2] : (List Int))) g2.1.2), (.tmp 8, .int .i64 p0)]) _ _ (fun g2 x => (g2.1, x, g2.2.2.1, g2.2.2.2)) rfl rfl (fun _ => ⟨rfl, rfl, rfl, trivial⟩) (fun g2 => OT.call (us := [_, _]) (Pre := [OwnS kU8 g2.1.1 g2.1.2 ([2] : (List Int))]) [.tmp 7, .tmp 8] Try.call78 rfl rfl fun w F hs hF hp => impl_Put2_c (hs.lend hF 0 rfl) h6) (fun _ _ => ⟨rfl, rfl, ⟨rfl, rfl, rfl, rfl, rfl, trivial⟩⟩)
  · exact OpOK.of (fun g2 => [(.tmp 4, BP b1 0)]) _ _ (fun g2 _ => g2) rfl rfl (fun _ => ⟨rfl, trivial⟩) (fun g2 => Pu.toOT (Pu.fieldB fo47_0 rfl)) (fun _ _ => ⟨rfl, rfl, ⟨rfl, rfl, rfl, rfl, rfl, trivial⟩⟩)
  · exact OpOK.of (fun g2 => [(.tmp 10, BP b1 0)]) _ _ (fun g2 _ => g2) rfl rfl (fun _ => ⟨rfl, trivial⟩) (fun g2 => OT.loadB sc3 rfl) (fun _ _ => ⟨rfl, rfl, ⟨rfl, rfl, rfl, rfl, rfl, trivial⟩⟩)
  · exact OpOK.of (fun g2 => [(.func 78, .func (.func 78) #[] #[]), (.tmp 9, .slice g2.2.1.1 (List.length t5) g2.2.1.2), (.tmp 11, .int .i64 p1.Seq)]) _ _ (fun g2 x => (g2.1, g2.2.1, x, g2.2.2.2)) rfl rfl (fun _ => ⟨rfl, rfl, rfl, trivial⟩) (fun g2 => OT.call (us := [_, _]) (Pre := [OwnS kU8 g2.2.1.1 g2.2.1.2 t5]) [.tmp 9, .tmp 11] Try.call78 rfl rfl fun w F hs hF hp => impl_Put2_c (hs.lend hF 0 rfl) h10) (fun _ _ => ⟨rfl, rfl, ⟨rfl, rfl, rfl, rfl, rfl, trivial⟩⟩)
  · exact OpOK.of (fun g2 => [(.tmp 4, BP b1 0)]) _ _ (fun g2 _ => g2) rfl rfl (fun _ => ⟨rfl, trivial⟩) (fun g2 => Pu.toOT (Pu.fieldB fo47_1 rfl)) (fun _ _ => ⟨rfl, rfl, ⟨rfl, rfl, rfl, rfl, rfl, trivial⟩⟩)
  · exact OpOK.of (fun g2 => [(.tmp 13, BP b1 1)]) _ _ (fun g2 _ => g2) rfl rfl (fun _ => ⟨rfl, trivial⟩) (fun g2 => OT.loadB sc3 rfl) (fun _ _ => ⟨rfl, rfl, ⟨rfl, rfl, rfl, rfl, rfl, trivial⟩⟩)
  · exact OpOK.of (fun g2 => [(.tmp 14, .int .i64 p1.Root)]) _ _ (fun g2 _ => g2) rfl rfl (fun _ => ⟨rfl, trivial⟩) (fun g2 => Pu.toOT (Pu.conv ul3 ul5)) (fun _ _ => ⟨rfl, rfl, ⟨rfl, rfl, rfl, rfl, rfl, trivial⟩⟩)
  · exact OpOK.of (fun g2 => [(.tmp 4, BP b1 0)]) _ _ (fun g2 _ => g2) rfl rfl (fun _ => ⟨rfl, trivial⟩) (fun g2 => Pu.toOT (Pu.fieldB fo47_2 rfl)) (fun _ _ => ⟨rfl, rfl, ⟨rfl, rfl, rfl, rfl, rfl, trivial⟩⟩)
  · exact OpOK.of (fun g2 => [(.tmp 16, BP b1 2)]) _ _ (fun g2 _ => g2) rfl rfl (fun _ => ⟨rfl, trivial⟩) (fun g2 => OT.loadB sc3 rfl) (fun _ _ => ⟨rfl, rfl, ⟨rfl, rfl, rfl, rfl, rfl, trivial⟩⟩)
  · exact OpOK.of (fun g2 => [(.tmp 17, .int .i64 p1.Size)]) _ _ (fun g2 _ => g2) rfl rfl (fun _ => ⟨rfl, trivial⟩) (fun g2 => Pu.toOT (Pu.conv ul3 ul5)) (fun _ _ => ⟨rfl, rfl, ⟨rfl, rfl, rfl, rfl, rfl, trivial⟩⟩)
  · exact OpOK.of (fun g2 => [(.tmp 2, .int .i64 p2)]) _ _ (fun g2 _ => g2) rfl rfl (fun _ => ⟨rfl, trivial⟩) (fun g2 => Pu.toOT Pu.move) (fun _ _ => ⟨rfl, rfl, ⟨rfl, rfl, rfl, rfl, rfl, trivial⟩⟩)
  · exact OpOK.of (fun g2 => [(.tmp 19, .int .i64 p2)]) _ _ (fun g2 _ => g2) rfl rfl (fun _ => ⟨rfl, trivial⟩) (fun g2 => Pu.toOT (Pu.conv ul3 ul5)) (fun _ _ => ⟨rfl, rfl, ⟨rfl, rfl, rfl, rfl, rfl, trivial⟩⟩)
  · exact OpOK.of (fun g2 => [(.tmp 15, .int .u8 (IntKind.u8.wrap p1.Root)), (.tmp 18, .int .u8 (IntKind.u8.wrap p1.Size)), (.tmp 20, .int .u8 (IntKind.u8.wrap p2))]) _ _ (fun g2 x => (g2.1, g2.2.1, g2.2.2.1, x)) rfl rfl (fun _ => ⟨rfl, rfl, rfl, trivial⟩) (fun g2 => OT.buildF (us := [.int .u8 (IntKind.u8.wrap p1.Root), .int .u8 (IntKind.u8.wrap p1.Size), .int .u8 (IntKind.u8.wrap p2)]) (ys := ([(IntKind.u8.wrap p1.Root), (IntKind.u8.wrap p1.Size), (IntKind.u8.wrap p2)] : (List Int))) (enc := (encI .u8)) (hl := fun _ => ⟨rfl, rfl⟩) [.tmp 15, .tmp 18, .tmp 20] sl27.ul sl27.szE sl27.zc rfl rfl rfl rfl rfl) (fun _ _ => ⟨rfl, rfl, ⟨rfl, rfl, rfl, rfl, rfl, trivial⟩⟩)
  refine HQ.keep [(6, _), (12, _), (21, _)] ⟨rfl, rfl, rfl, trivial⟩ ?_
  refine HQ.keepR [(1, _), (2, _), (3, _), (4, _), (5, _)] ⟨rfl, rfl, rfl, rfl, rfl, trivial⟩ rfl ?_
  obtain ⟨h17, H⟩ := asr H
  refine HQ.op [4, 5] [4, 5] (OT.appendG (enc := (encI .u8)) (hl := fun _ => ⟨rfl, rfl⟩) sl27 ul27 h17) ⟨rfl, rfl, trivial⟩ ⟨rfl, rfl, trivial⟩ rfl rfl rfl rfl (fun _ => rfl) fun ⟨a15, c16⟩ => ?_
  refine HQ.pu Pu.assign ⟨rfl, trivial⟩ rfl rfl rfl ?_
  refine HQ.done ?_
  refine HQ.keep [(6, _)] ⟨rfl, trivial⟩ ?_
  refine HQ.ret ?_
  obtain rfl := Option.some.inj H
  exact HQ.fin (vs := [_]) Try.results74 (a15, c16) ⟨rfl, trivial⟩ rfl [4] ⟨rfl, trivial⟩ rfl

end Go.Proofs.Sx
