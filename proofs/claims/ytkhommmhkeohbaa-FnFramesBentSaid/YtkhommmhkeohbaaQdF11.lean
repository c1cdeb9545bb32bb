import Derived.Test.YtkhommmhkeohbaaQdF10
import Derived.KernelRfl
namespace Go.Proofs.Sx
open Go.RowKit
set_option linter.unusedVariables false
set_option linter.unusedSimpArgs false
set_option maxRecDepth 20000
set_option maxHeartbeats 1000000
/-! spec.GetEnd -/
theorem spec_GetEnd_c {w : World} {k : Nat} {p0 : Int} {p1 : (List Int)} {a_0 : Option Addr} {c_0 : Nat} (hb_0 : BorS kU8 a_0 c_0 p1 w.heap (Lt w Nil)) {r : TTx × Int × Bool} (H : spec_GetEnd k p0 p1 = some r) :
    Calls Try.prog 62 #[.int .i64 p0, .slice a_0 (List.length p1) c_0] w (Rt w Nil (fun g : Option Addr × Nat => .tuple #[.agg #[.int .i64 r.1.Seq, .int .i64 r.1.Root, .int .i64 r.1.Size, .slice g.1 (List.length r.1.Puts) g.2], .int .i64 r.2.1, .bool r.2.2]) (fun g => [OwnS kTChange g.1 g.2 r.1.Puts])) := by
  rw [spec_GetEnd] at H
  refine Calls.enter0 (N := 78) (us := [_, _]) Try.func62 rfl rfl rfl ?_
  refine HQ.rseq ?_
  refine HQ.op [] [1] (OT.alloc zc57) trivial trivial rfl rfl rfl rfl (fun _ => rfl) fun b1 => ?_
  refine HQ.pu Pu.assign ⟨rfl, trivial⟩ rfl rfl rfl ?_
  refine HQ.pu Pu.assign ⟨rfl, trivial⟩ rfl rfl rfl ?_
  refine HQ.done ?_
  refine HQ.keep [(0, _), (1, _), (4, _), (5, _), (6, _)] ⟨rfl, rfl, rfl, rfl, rfl, trivial⟩ ?_
  refine HQ.seq ?_
  refine HQ.rseq ?_
  refine HQ.pu Pu.move ⟨rfl, trivial⟩ rfl rfl rfl ?_
  refine HQ.pu (Pu.len ul22) ⟨rfl, trivial⟩ rfl rfl rfl ?_
  refine HQ.pu Pu.neq ⟨rfl, rfl, trivial⟩ rfl rfl rfl ?_
  refine HQ.pu Pu.move ⟨rfl, trivial⟩ rfl rfl rfl ?_
  obtain ⟨c4, h5, H⟩ := bnd H
  refine HQ.cutAt 5 [(21, .bool c4), (0, .int .i64 p0), (1, .slice a_0 (List.length p1) c_0), (4, BP b1 0), (5, .int .i64 0), (6, .bool false)] [(1, Box b1 [.int .i64 0, .int .i64 0, .int .i64 0, .slice none 0 0])] ?_ ?_
  · clear H
    have H := h5
    rcases brk H with ⟨hg2, H⟩ | ⟨hg2, H⟩
    · obtain rfl := Option.some.inj H
      refine HQ.off rfl rfl hg2 rfl ?_
      refine HQ.off rfl rfl hg2 rfl ?_
      refine HQ.off rfl rfl hg2 rfl ?_
      refine HQ.off rfl rfl hg2 rfl ?_
      refine HQ.pu (Pu.pickC1 hg2) ⟨rfl, rfl, trivial⟩ rfl rfl rfl ?_
      exact HQ.mid ⟨rfl, rfl, rfl, rfl, rfl, rfl, trivial⟩ ⟨rfl, trivial⟩ rfl
    · refine HQ.on rfl rfl hg2 ?_
      refine HQ.pu Pu.move ⟨rfl, trivial⟩ rfl rfl rfl ?_
      refine HQ.on rfl rfl hg2 ?_
      obtain ⟨h3, H⟩ := asr H
      refine HQ.op [] [] (OT.indexB ul22 sz5 hb_0 h3) ⟨rfl, rfl, trivial⟩ trivial rfl rfl rfl rfl (fun _ => rfl) fun _ => ?_
      refine HQ.on rfl rfl hg2 ?_
      refine HQ.op [] [] (OT.loadF sc5 hb_0 h3 rfl) ⟨rfl, trivial⟩ trivial rfl rfl rfl rfl (fun _ => rfl) fun _ => ?_
      refine HQ.on rfl rfl hg2 ?_
      refine HQ.pu Pu.neq ⟨rfl, rfl, trivial⟩ rfl rfl rfl ?_
      obtain rfl := Option.some.inj H
      refine HQ.pu (Pu.pickC0 hg2) ⟨rfl, rfl, trivial⟩ rfl rfl rfl ?_
      exact HQ.mid ⟨rfl, rfl, rfl, rfl, rfl, rfl, trivial⟩ ⟨rfl, trivial⟩ rfl
  refine HQ.done ?_
  refine HQ.keep [(21, _), (0, _), (1, _), (4, _), (5, _), (6, _)] ⟨rfl, rfl, rfl, rfl, rfl, rfl, trivial⟩ ?_
  rcases brk H with ⟨hc, H⟩ | ⟨hc, H⟩
  · refine HQ.condT rfl hc ?_
    clear hc
    refine HQ.rseq ?_
    refine HQ.pu (Pu.build (us := []) (cs := [.int .i64 0, .int .i64 0, .int .i64 0, .slice none 0 0]) [] st57 rfl rfl rfl) trivial rfl rfl rfl ?_
    refine HQ.opN [1] [1] [] (OT.storeC (cs' := [.int .i64 0, .int .i64 0, .int .i64 0, .slice none 0 0]) sz57 rfl rfl rfl rfl rfl) ⟨rfl, rfl, trivial⟩ ⟨rfl, trivial⟩ rfl rfl rfl (fun _ => rfl) fun _ => ?_
    refine HQ.pu Pu.assign ⟨rfl, trivial⟩ rfl rfl rfl ?_
    refine HQ.pu Pu.assign ⟨rfl, trivial⟩ rfl rfl rfl ?_
    refine HQ.done ?_
    refine HQ.keep [(0, _), (1, _), (4, _), (5, _), (6, _)] ⟨rfl, rfl, rfl, rfl, rfl, trivial⟩ ?_
    refine HQ.ret ?_
    refine HQ.thenR ?_
    obtain rfl := Option.some.inj H
    refine HQ.nil kTChange 2 rfl ?_
    exact HQ.fin (vs := [_, _, _]) Try.results62 (none, 0) ⟨⟨_, _, 1, rfl, rfl, ag57, sz57, rfl⟩, rfl, rfl, trivial⟩ rfl [2] ⟨rfl, trivial⟩ rfl
  · refine HQ.condF rfl hc ?_
    clear hc
    refine HQ.skipThen ?_
    refine HQ.rseq ?_
    refine HQ.pu Pu.move ⟨rfl, trivial⟩ rfl rfl rfl ?_
    obtain ⟨t6, h7, H⟩ := bnd H
    refine HQ.op [] [] (OT.call (us := [_, _]) (Pre := []) [.tmp 24, .const (.int .i64 1)] Try.call113 rfl rfl fun w F hs hF hp => spec_Get2_c (hb_0.pass hp) h7) ⟨rfl, rfl, rfl, trivial⟩ trivial rfl rfl rfl rfl (fun _ => rfl) fun _ => ?_
    refine HQ.pu Pu.move ⟨rfl, trivial⟩ rfl rfl rfl ?_
    refine HQ.pu (Pu.extract rfl) ⟨rfl, trivial⟩ rfl rfl rfl ?_
    refine HQ.pu (Pu.extract rfl) ⟨rfl, trivial⟩ rfl rfl rfl ?_
    refine HQ.pu Pu.assign ⟨rfl, trivial⟩ rfl rfl rfl ?_
    refine HQ.pu Pu.assign ⟨rfl, trivial⟩ rfl rfl rfl ?_
    refine HQ.done ?_
    refine HQ.keep [(0, _), (1, _), (4, _), (5, _), (6, _), (7, _)] ⟨rfl, rfl, rfl, rfl, rfl, rfl, trivial⟩ ?_
    refine HQ.rseq ?_
    refine HQ.pu Pu.move ⟨rfl, trivial⟩ rfl rfl rfl ?_
    obtain ⟨t8, h9, H⟩ := bnd H
    refine HQ.op [] [] (OT.call (us := [_, _]) (Pre := []) [.tmp 29, .const (.int .i64 3)] Try.call113 rfl rfl fun w F hs hF hp => spec_Get2_c (hb_0.pass hp) h9) ⟨rfl, rfl, rfl, trivial⟩ trivial rfl rfl rfl rfl (fun _ => rfl) fun _ => ?_
    refine HQ.pu Pu.move ⟨rfl, trivial⟩ rfl rfl rfl ?_
    refine HQ.pu (Pu.extract rfl) ⟨rfl, trivial⟩ rfl rfl rfl ?_
    refine HQ.pu (Pu.extract rfl) ⟨rfl, trivial⟩ rfl rfl rfl ?_
    refine HQ.pu Pu.assign ⟨rfl, trivial⟩ rfl rfl rfl ?_
    refine HQ.pu Pu.assign ⟨rfl, trivial⟩ rfl rfl rfl ?_
    refine HQ.done ?_
    refine HQ.keep [(0, _), (1, _), (4, _), (5, _), (6, _), (7, _), (9, _)] ⟨rfl, rfl, rfl, rfl, rfl, rfl, rfl, trivial⟩ ?_
    obtain ⟨h11, H⟩ := asr H
    obtain ⟨h12, H⟩ := asr H
    refine HQ.drawS mixd [(0, .int .i64 p0), (1, .slice a_0 (List.length p1) c_0), (4, BP b1 0), (5, .int .i64 0), (6, .bool false), (7, .int .i64 t6.1), (9, .int .i64 t8.1)] 11 [⟨[], [], []⟩, ⟨[], [], []⟩, ⟨[], [], [1]⟩, ⟨[], [], [2]⟩, ⟨[], [], [3]⟩, ⟨[], [], []⟩, ⟨[], [], [5]⟩, ⟨[], [], [6]⟩, ⟨[], [], [7]⟩, ⟨[], [], [0, 4, 8]⟩, ⟨[], [0], []⟩] [⟨some 10, none⟩] (fun (g10 : Nat) => [.int .i64 t8.1, .slice a_0 (List.length p1) c_0, EP a_0 5 1 0, .int .u8 (gt p1 5), .int .i64 (IntKind.i64.wrap (gt p1 5)), .slice a_0 (List.length p1) c_0, EP a_0 6 1 0, .int .u8 (gt p1 6), .int .i64 (IntKind.i64.wrap (gt p1 6)), .agg #[.int .i64 t8.1, .int .i64 (IntKind.i64.wrap (gt p1 5)), .int .i64 (IntKind.i64.wrap (gt p1 6)), .slice none 0 0], BP g10 0]) (fun (g10 : Nat) => [Box g10 [.int .i64 0, .int .i64 0, .int .i64 0, .slice none 0 0]]) 0 [] [3] [] ⟨rfl, rfl, rfl, rfl, rfl, rfl, rfl, trivial⟩ trivial rfl (by kernel_rfl) (fun _ => rfl) (by kernel_rfl) (fun _ => rfl) ⟨?_, ?_, ?_, ?_, ?_, ?_, ?_, ?_, ?_, ?_, ?_, trivial⟩ fun g10 => ?_
    · exact OpOK.of (fun g10 => [(.tmp 9, .int .i64 t8.1)]) _ _ (fun g10 _ => g10) rfl rfl (fun _ => ⟨rfl, trivial⟩) (fun g10 => Pu.toOT Pu.move) (fun _ _ => ⟨rfl, rfl, ⟨rfl, trivial⟩⟩)
    · exact OpOK.of (fun g10 => [(.tmp 1, .slice a_0 (List.length p1) c_0)]) _ _ (fun g10 _ => g10) rfl rfl (fun _ => ⟨rfl, trivial⟩) (fun g10 => Pu.toOT Pu.move) (fun _ _ => ⟨rfl, rfl, ⟨rfl, trivial⟩⟩)
    · exact OpOK.of (fun g10 => [(.tmp 34, .slice a_0 (List.length p1) c_0), (.const (.int .i64 5), .int .i64 5)]) _ _ (fun g10 _ => g10) rfl rfl (fun _ => ⟨rfl, rfl, trivial⟩) (fun g10 => OT.indexB ul22 sz5 hb_0 h11) (fun _ _ => ⟨rfl, rfl, ⟨rfl, trivial⟩⟩)
    · exact OpOK.of (fun g10 => [(.tmp 35, EP a_0 5 1 0)]) _ _ (fun g10 _ => g10) rfl rfl (fun _ => ⟨rfl, trivial⟩) (fun g10 => OT.loadF sc5 hb_0 h11 rfl) (fun _ _ => ⟨rfl, rfl, ⟨rfl, trivial⟩⟩)
    · exact OpOK.of (fun g10 => [(.tmp 36, .int .u8 (gt p1 5))]) _ _ (fun g10 _ => g10) rfl rfl (fun _ => ⟨rfl, trivial⟩) (fun g10 => Pu.toOT (Pu.conv ul5 ul3)) (fun _ _ => ⟨rfl, rfl, ⟨rfl, trivial⟩⟩)
    · exact OpOK.of (fun g10 => [(.tmp 1, .slice a_0 (List.length p1) c_0)]) _ _ (fun g10 _ => g10) rfl rfl (fun _ => ⟨rfl, trivial⟩) (fun g10 => Pu.toOT Pu.move) (fun _ _ => ⟨rfl, rfl, ⟨rfl, trivial⟩⟩)
    · exact OpOK.of (fun g10 => [(.tmp 38, .slice a_0 (List.length p1) c_0), (.const (.int .i64 6), .int .i64 6)]) _ _ (fun g10 _ => g10) rfl rfl (fun _ => ⟨rfl, rfl, trivial⟩) (fun g10 => OT.indexB ul22 sz5 hb_0 h12) (fun _ _ => ⟨rfl, rfl, ⟨rfl, trivial⟩⟩)
    · exact OpOK.of (fun g10 => [(.tmp 39, EP a_0 6 1 0)]) _ _ (fun g10 _ => g10) rfl rfl (fun _ => ⟨rfl, trivial⟩) (fun g10 => OT.loadF sc5 hb_0 h12 rfl) (fun _ _ => ⟨rfl, rfl, ⟨rfl, trivial⟩⟩)
    · exact OpOK.of (fun g10 => [(.tmp 40, .int .u8 (gt p1 6))]) _ _ (fun g10 _ => g10) rfl rfl (fun _ => ⟨rfl, trivial⟩) (fun g10 => Pu.toOT (Pu.conv ul5 ul3)) (fun _ _ => ⟨rfl, rfl, ⟨rfl, trivial⟩⟩)
    · exact OpOK.of (fun g10 => [(.tmp 33, .int .i64 t8.1), (.tmp 37, .int .i64 (IntKind.i64.wrap (gt p1 5))), (.tmp 41, .int .i64 (IntKind.i64.wrap (gt p1 6)))]) _ _ (fun g10 _ => g10) rfl rfl (fun _ => ⟨rfl, rfl, rfl, trivial⟩) (fun g10 => Pu.toOT (Pu.build (us := [.int .i64 t8.1, .int .i64 (IntKind.i64.wrap (gt p1 5)), .int .i64 (IntKind.i64.wrap (gt p1 6))]) (cs := [.int .i64 t8.1, .int .i64 (IntKind.i64.wrap (gt p1 5)), .int .i64 (IntKind.i64.wrap (gt p1 6)), .slice none 0 0]) [(0, .tmp 33), (1, .tmp 37), (2, .tmp 41)] st57 rfl rfl rfl)) (fun _ _ => ⟨rfl, rfl, ⟨rfl, trivial⟩⟩)
    · exact OpOK.of (fun g10 => []) _ _ (fun g10 x => x) rfl rfl (fun _ => trivial) (fun g10 => OT.alloc zc57) (fun _ _ => ⟨rfl, rfl, ⟨rfl, trivial⟩⟩)
    refine HQ.keep [(0, _), (1, _), (4, _), (5, _), (6, _), (7, _), (42, _), (11, _)] ⟨rfl, rfl, rfl, rfl, rfl, rfl, rfl, rfl, trivial⟩ ?_
    refine HQ.keepR [(1, _), (3, _)] ⟨rfl, rfl, trivial⟩ rfl ?_
    refine HQ.opN [3] [3] [] (OT.storeC (cs' := [.int .i64 t8.1, .int .i64 (IntKind.i64.wrap (gt p1 5)), .int .i64 (IntKind.i64.wrap (gt p1 6)), .slice none 0 0]) sz57 rfl rfl rfl rfl rfl) ⟨rfl, rfl, trivial⟩ ⟨rfl, trivial⟩ rfl rfl rfl (fun _ => rfl) fun _ => ?_
    refine HQ.done ?_
    refine HQ.keep [(0, _), (1, _), (4, _), (5, _), (6, _), (7, _), (11, _)] ⟨rfl, rfl, rfl, rfl, rfl, rfl, rfl, trivial⟩ ?_
    refine HQ.seq ?_
    refine HQ.rseq ?_
    refine HQ.pu Pu.assign ⟨rfl, trivial⟩ rfl rfl rfl ?_
    refine HQ.done ?_
    refine HQ.keep [(0, _), (1, _), (4, _), (5, _), (6, _), (7, _), (11, _), (12, _)] ⟨rfl, rfl, rfl, rfl, rfl, rfl, rfl, rfl, trivial⟩ ?_
    refine HQ.block ?_
    obtain ⟨o18, h34, H⟩ := bnd H
    refine HQ.loop h34 0 (fun (s : Int) (g : Unit) => match s, g with | i15, () => [(0, .int .i64 p0), (1, .slice a_0 (List.length p1) c_0), (4, BP b1 0), (5, .int .i64 0), (6, .bool false), (7, .int .i64 t6.1), (11, BP g10 0), (12, .int .i64 i15)]) (fun (s : Int) (g : Unit) => match s, g with | i15, () => [(1, Box b1 [.int .i64 0, .int .i64 0, .int .i64 0, .slice none 0 0]), (3, Box g10 [.int .i64 t8.1, .int .i64 (IntKind.i64.wrap (gt p1 5)), .int .i64 (IntKind.i64.wrap (gt p1 6)), .slice none 0 0])]) (fun r => bodyPost Try.prog Try.f62 (Rt w Nil (fun g : Option Addr × Nat => .tuple #[.agg #[.int .i64 r.1.Seq, .int .i64 r.1.Root, .int .i64 r.1.Size, .slice g.1 (List.length r.1.Puts) g.2], .int .i64 r.2.1, .bool r.2.2]) (fun g => [OwnS kTChange g.1 g.2 r.1.Puts])) .ret) () ⟨rfl, rfl, rfl, rfl, rfl, rfl, rfl, rfl, trivial⟩ ⟨rfl, rfl, trivial⟩ rfl ?_ ?_ ?_
    · clear H h34
      rintro i15 _ o H
      rw [spec_GetEnd_b0] at H
      refine HQ.keep [(0, _), (1, _), (4, _), (5, _), (6, _), (7, _), (11, _), (12, _)] ⟨rfl, rfl, rfl, rfl, rfl, rfl, rfl, rfl, trivial⟩ ?_
      refine HQ.keepR [(1, _), (3, _)] ⟨rfl, rfl, trivial⟩ rfl ?_
      refine HQ.seq ?_
      refine HQ.rseq ?_
      refine HQ.pu Pu.move ⟨rfl, trivial⟩ rfl rfl rfl ?_
      refine HQ.pu Pu.move ⟨rfl, trivial⟩ rfl rfl rfl ?_
      refine HQ.pu (Pu.len ul22) ⟨rfl, trivial⟩ rfl rfl rfl ?_
      refine HQ.pu Pu.lss ⟨rfl, rfl, trivial⟩ rfl rfl rfl ?_
      refine HQ.done ?_
      refine HQ.keep [(0, _), (1, _), (4, _), (5, _), (6, _), (7, _), (11, _), (12, _), (46, _)] ⟨rfl, rfl, rfl, rfl, rfl, rfl, rfl, rfl, rfl, trivial⟩ ?_
      rcases brk H with ⟨hc, H⟩ | ⟨hc, H⟩
      · refine HQ.condT rfl hc ?_
        clear hc
        refine HQ.skipThen ?_
        refine HQ.seq ?_
        refine HQ.block ?_
        refine HQ.rseq ?_
        refine HQ.pu Pu.move ⟨rfl, trivial⟩ rfl rfl rfl ?_
        refine HQ.pu Pu.move ⟨rfl, trivial⟩ rfl rfl rfl ?_
        obtain ⟨h17, H⟩ := asr H
        refine HQ.op [] [] (OT.indexB ul22 sz5 hb_0 h17) ⟨rfl, rfl, trivial⟩ trivial rfl rfl rfl rfl (fun _ => rfl) fun _ => ?_
        refine HQ.op [] [] (OT.loadF sc5 hb_0 h17 rfl) ⟨rfl, trivial⟩ trivial rfl rfl rfl rfl (fun _ => rfl) fun _ => ?_
        refine HQ.pu Pu.neq ⟨rfl, rfl, trivial⟩ rfl rfl rfl ?_
        refine HQ.done ?_
        refine HQ.keep [(0, _), (1, _), (4, _), (5, _), (6, _), (7, _), (11, _), (12, _), (53, _)] ⟨rfl, rfl, rfl, rfl, rfl, rfl, rfl, rfl, rfl, trivial⟩ ?_
        rcases brk H with ⟨hc, H⟩ | ⟨hc, H⟩
        · refine HQ.condT rfl hc ?_
          clear hc
          refine HQ.rseq ?_
          refine HQ.pu (Pu.build (us := []) (cs := [.int .i64 0, .int .i64 0, .int .i64 0, .slice none 0 0]) [] st57 rfl rfl rfl) trivial rfl rfl rfl ?_
          refine HQ.opN [1] [1] [] (OT.storeC (cs' := [.int .i64 0, .int .i64 0, .int .i64 0, .slice none 0 0]) sz57 rfl rfl rfl rfl rfl) ⟨rfl, rfl, trivial⟩ ⟨rfl, trivial⟩ rfl rfl rfl (fun _ => rfl) fun _ => ?_
          refine HQ.pu Pu.assign ⟨rfl, trivial⟩ rfl rfl rfl ?_
          refine HQ.pu Pu.assign ⟨rfl, trivial⟩ rfl rfl rfl ?_
          refine HQ.done ?_
          refine HQ.keep [(0, _), (1, _), (4, _), (5, _), (6, _), (7, _), (11, _), (12, _)] ⟨rfl, rfl, rfl, rfl, rfl, rfl, rfl, rfl, trivial⟩ ?_
          refine HQ.ret ?_
          refine HQ.blkR ?_
          refine HQ.thenR ?_
          obtain rfl := Option.some.inj H
          refine HQ.nil kTChange 4 rfl ?_
          refine HQ.retL ?_
          exact HQ.fin (vs := [_, _, _]) Try.results62 (none, 0) ⟨⟨_, _, 1, rfl, rfl, ag57, sz57, rfl⟩, rfl, rfl, trivial⟩ rfl [4] ⟨rfl, trivial⟩ rfl
        · refine HQ.condF rfl hc ?_
          clear hc
          refine HQ.skip ?_
          refine HQ.blkN ?_
          refine HQ.thenN ?_
          refine HQ.regionQ ?_
          refine HQ.pu Pu.move ⟨rfl, trivial⟩ rfl rfl rfl ?_
          refine HQ.pu Pu.add ⟨rfl, rfl, trivial⟩ rfl rfl rfl ?_
          refine HQ.pu Pu.assign ⟨rfl, trivial⟩ rfl rfl rfl ?_
          refine HQ.done ?_
          refine HQ.keep [(0, _), (1, _), (4, _), (5, _), (6, _), (7, _), (11, _), (12, _)] ⟨rfl, rfl, rfl, rfl, rfl, rfl, rfl, rfl, trivial⟩ ?_
          obtain rfl := Option.some.inj H
          exact HQ.next () ⟨rfl, rfl, rfl, rfl, rfl, rfl, rfl, rfl, trivial⟩ ⟨rfl, rfl, trivial⟩ rfl
      · refine HQ.condF rfl hc ?_
        clear hc
        refine HQ.exit ?_
        refine HQ.thenE ?_
        obtain rfl := Option.some.inj H
        exact HQ.out () ⟨rfl, rfl, rfl, rfl, rfl, rfl, rfl, rfl, trivial⟩ ⟨rfl, rfl, trivial⟩ rfl
    · rintro i19 rfl _
      clear h34
      replace H := H
      refine HQ.keep [(0, _), (1, _), (4, _), (5, _), (6, _), (7, _), (11, _), (12, _)] ⟨rfl, rfl, rfl, rfl, rfl, rfl, rfl, rfl, trivial⟩ ?_
      refine HQ.keepR [(1, _), (3, _)] ⟨rfl, rfl, trivial⟩ rfl ?_
      refine HQ.blkE ?_
      refine HQ.thenN ?_
      refine HQ.seq ?_
      refine HQ.seq ?_
      refine HQ.dStart mixd ?_
      refine HQ.dPart [(0, .int .i64 p0), (1, .slice a_0 (List.length p1) c_0), (4, BP b1 0), (5, .int .i64 0), (6, .bool false), (7, .int .i64 t6.1), (11, BP g10 0)] 2 [⟨[], [], []⟩, ⟨[], [], []⟩] [] (fun (g20 : Unit) => [.int .i64 t6.1, .int .i64 p0]) (fun (g20 : Unit) => []) () [] [] [] ⟨rfl, rfl, rfl, rfl, rfl, rfl, rfl, trivial⟩ trivial rfl (by kernel_rfl) (by kernel_rfl) (fun _ => rfl) (by kernel_rfl) (fun _ => rfl) rfl ⟨?_, ?_, trivial⟩ fun g20 => ?_
      · exact OpOK2.of (fun g20 => [(.tmp 7, .int .i64 t6.1)]) _ _ (fun g20 _ => g20) rfl rfl (fun _ => ⟨rfl, trivial⟩) (fun g20 => Pu.toOT Pu.move) (fun _ _ => ⟨rfl, rfl, trivial⟩)
      · exact OpOK2.of (fun g20 => [(.tmp 0, .int .i64 p0)]) _ _ (fun g20 _ => g20) rfl rfl (fun _ => ⟨rfl, trivial⟩) (fun g20 => Pu.toOT Pu.move) (fun _ _ => ⟨rfl, rfl, trivial⟩)
      refine HQ.keep [(1, _), (4, _), (5, _), (6, _), (11, _), (55, _), (56, _)] ⟨rfl, rfl, rfl, rfl, rfl, rfl, rfl, trivial⟩ ?_
      refine HQ.keepR [(1, _), (3, _)] ⟨rfl, rfl, trivial⟩ rfl ?_
      refine HQ.dRun 7 rfl rfl (by kernel_rfl) (by kernel_rfl) ?_
      refine HQ.pu Pu.neq ⟨rfl, rfl, trivial⟩ rfl rfl rfl ?_
      refine HQ.pu Pu.move ⟨rfl, trivial⟩ rfl rfl rfl ?_
      obtain ⟨c24, h25, H⟩ := bnd H
      refine HQ.cutAt 4 [(62, .bool c24), (1, .slice a_0 (List.length p1) c_0), (4, BP b1 0), (5, .int .i64 0), (6, .bool false), (11, BP g10 0)] [(1, Box b1 [.int .i64 0, .int .i64 0, .int .i64 0, .slice none 0 0]), (3, Box g10 [.int .i64 t8.1, .int .i64 (IntKind.i64.wrap (gt p1 5)), .int .i64 (IntKind.i64.wrap (gt p1 6)), .slice none 0 0])] ?_ ?_
      · clear H
        have H := h25
        rcases brk H with ⟨hg21, H⟩ | ⟨hg21, H⟩
        · obtain rfl := Option.some.inj H
          refine HQ.off rfl rfl hg21 rfl ?_
          refine HQ.off rfl rfl hg21 rfl ?_
          refine HQ.off rfl rfl hg21 rfl ?_
          refine HQ.pu (Pu.pickC1 hg21) ⟨rfl, rfl, trivial⟩ rfl rfl rfl ?_
          exact HQ.mid ⟨rfl, rfl, rfl, rfl, rfl, rfl, trivial⟩ ⟨rfl, rfl, trivial⟩ rfl
        · refine HQ.on rfl rfl hg21 ?_
          refine HQ.op [3] [3] (OT.loadBA (vs := [.int .i64 t8.1, .int .i64 (IntKind.i64.wrap (gt p1 5)), .int .i64 (IntKind.i64.wrap (gt p1 6)), .slice none 0 0]) ag57 sz57 rfl rfl) ⟨rfl, trivial⟩ ⟨rfl, trivial⟩ rfl rfl rfl rfl (fun _ => rfl) fun _ => ?_
          refine HQ.on rfl rfl hg21 ?_
          obtain ⟨t22, h23, H⟩ := bnd H
          refine HQ.op [] [] (OT.call (us := [_]) (Pre := []) [.tmp 59] Try.call36 rfl rfl fun w F hs hF hp => spec_TxOk_c (p0 := (⟨t8.1, (IntKind.i64.wrap (gt p1 5)), (IntKind.i64.wrap (gt p1 6)), ([] : (List TChange))⟩ : TTx)) nilB h23) ⟨rfl, rfl, trivial⟩ trivial rfl rfl rfl rfl (fun _ => rfl) fun _ => ?_
          refine HQ.on rfl rfl hg21 ?_
          refine HQ.pu Pu.not ⟨rfl, trivial⟩ rfl rfl rfl ?_
          obtain rfl := Option.some.inj H
          refine HQ.pu (Pu.pickC0 hg21) ⟨rfl, rfl, trivial⟩ rfl rfl rfl ?_
          exact HQ.mid ⟨rfl, rfl, rfl, rfl, rfl, rfl, trivial⟩ ⟨rfl, rfl, trivial⟩ rfl
      refine HQ.pu Pu.move ⟨rfl, trivial⟩ rfl rfl rfl ?_
      refine HQ.done ?_
      obtain ⟨c30, h31, H⟩ := bnd H
      refine HQ.dMid (m' := 17) [(71, .bool c30), (1, .slice a_0 (List.length p1) c_0), (4, BP b1 0), (5, .int .i64 0), (6, .bool false), (11, BP g10 0)] [(1, Box b1 [.int .i64 0, .int .i64 0, .int .i64 0, .slice none 0 0]), (3, Box g10 [.int .i64 t8.1, .int .i64 (IntKind.i64.wrap (gt p1 5)), .int .i64 (IntKind.i64.wrap (gt p1 6)), .slice none 0 0])] (fun hmid => ?_) ?_
      · clear H
        have H := h31
        rcases brk H with ⟨hg26, H⟩ | ⟨hg26, H⟩
        · obtain rfl := Option.some.inj H
          refine HQ.dPart [(1, .slice a_0 (List.length p1) c_0), (4, BP b1 0), (5, .int .i64 0), (6, .bool false), (11, BP g10 0), (63, .bool c24)] 15 [⟨[], [], []⟩, ⟨[], [], []⟩, ⟨[], [], []⟩, ⟨[], [], []⟩, ⟨[], [], []⟩, ⟨[], [], []⟩, ⟨[], [], []⟩, ⟨[], [], []⟩, ⟨[], [], []⟩, ⟨[], [], []⟩, ⟨[], [], []⟩, ⟨[], [], []⟩, ⟨[], [], []⟩, ⟨[], [], []⟩, ⟨[], [], []⟩] [] (fun (g29 : Unit) => [undef, undef, undef, undef, undef, undef, undef, undef, undef, undef, undef, undef, undef, undef, undef]) (fun (g29 : Unit) => []) () [] [] [] ⟨rfl, rfl, rfl, rfl, rfl, rfl, trivial⟩ trivial rfl (by kernel_rfl) (by kernel_rfl) (fun _ => rfl) (by kernel_rfl) (fun _ => rfl) rfl ⟨?_, ?_, ?_, ?_, ?_, ?_, trivial⟩ fun g29 => ?_
          · exact OpOK2.off rfl rfl rfl hg26 rfl rfl (fun _ => ⟨rfl, trivial⟩)
          · exact OpOK2.off rfl rfl rfl hg26 rfl rfl (fun _ => ⟨rfl, trivial⟩)
          · exact OpOK2.off rfl rfl rfl hg26 rfl rfl (fun _ => ⟨rfl, trivial⟩)
          · exact OpOK2.off rfl rfl rfl hg26 rfl rfl (fun _ => ⟨rfl, trivial⟩)
          · exact OpOK2.off rfl rfl rfl hg26 rfl rfl (fun _ => ⟨rfl, trivial⟩)
          · exact OpOK2.off rfl rfl rfl hg26 rfl rfl (fun _ => ⟨rfl, trivial⟩)
          refine HQ.keep [(1, _), (4, _), (5, _), (6, _), (11, _), (63, _), (67, _), (69, _)] ⟨rfl, rfl, rfl, rfl, rfl, rfl, rfl, rfl, trivial⟩ ?_
          refine HQ.keepR [(1, _), (3, _)] ⟨rfl, rfl, trivial⟩ rfl ?_
          refine HQ.dRun 1 rfl rfl (by kernel_rfl) (by kernel_rfl) ?_
          refine HQ.off rfl rfl hg26 rfl ?_
          refine HQ.done ?_
          refine HQ.dRun 1 rfl rfl (by kernel_rfl) (by kernel_rfl) ?_
          refine HQ.pu (Pu.pickC1 hg26) ⟨rfl, rfl, trivial⟩ rfl rfl rfl ?_
          refine HQ.done ?_
          exact HQ.dUse hmid ⟨rfl, rfl, rfl, rfl, rfl, rfl, trivial⟩ ⟨rfl, rfl, trivial⟩ rfl
        · obtain ⟨h28, H⟩ := asr H
          refine HQ.dPart [(1, .slice a_0 (List.length p1) c_0), (4, BP b1 0), (5, .int .i64 0), (6, .bool false), (11, BP g10 0), (63, .bool c24)] 15 [⟨[], [], []⟩, ⟨[], [], []⟩, ⟨[], [], []⟩, ⟨[], [], []⟩, ⟨[], [], []⟩, ⟨[], [], []⟩, ⟨[], [], []⟩, ⟨[], [], []⟩, ⟨[], [], []⟩, ⟨[], [], []⟩, ⟨[], [], [9]⟩, ⟨[], [], [10]⟩, ⟨[], [], [11]⟩, ⟨[], [], []⟩, ⟨[0], [0], [13]⟩] [⟨none, none⟩] (fun (g27 : Unit) => [undef, undef, undef, undef, undef, undef, undef, undef, undef, .slice a_0 (List.length p1) c_0, EP a_0 7 1 0, .int .u8 (gt p1 7), .int .i64 (IntKind.i64.wrap (gt p1 7)), BP g10 2, .int .i64 (IntKind.i64.wrap (gt p1 6))]) (fun (g27 : Unit) => [Box g10 [.int .i64 t8.1, .int .i64 (IntKind.i64.wrap (gt p1 5)), .int .i64 (IntKind.i64.wrap (gt p1 6)), .slice none 0 0]]) () [3] [3] [] ⟨rfl, rfl, rfl, rfl, rfl, rfl, trivial⟩ ⟨rfl, trivial⟩ rfl (by kernel_rfl) (by kernel_rfl) (fun _ => rfl) (by kernel_rfl) (fun _ => rfl) rfl ⟨?_, ?_, ?_, ?_, ?_, ?_, trivial⟩ fun g27 => ?_
          · exact OpOK2.on (fun g27 => [(.tmp 1, .slice a_0 (List.length p1) c_0)]) _ _ (fun g27 _ => g27) rfl rfl rfl hg26 (fun _ => ⟨rfl, trivial⟩) (fun g27 => Pu.toOT Pu.move) (fun _ _ => ⟨rfl, rfl, ⟨rfl, trivial⟩⟩)
          · exact OpOK2.on (fun g27 => [(.tmp 64, .slice a_0 (List.length p1) c_0), (.const (.int .i64 7), .int .i64 7)]) _ _ (fun g27 _ => g27) rfl rfl rfl hg26 (fun _ => ⟨rfl, rfl, trivial⟩) (fun g27 => OT.indexB ul22 sz5 hb_0 h28) (fun _ _ => ⟨rfl, rfl, ⟨rfl, trivial⟩⟩)
          · exact OpOK2.on (fun g27 => [(.tmp 65, EP a_0 7 1 0)]) _ _ (fun g27 _ => g27) rfl rfl rfl hg26 (fun _ => ⟨rfl, trivial⟩) (fun g27 => OT.loadF sc5 hb_0 h28 rfl) (fun _ _ => ⟨rfl, rfl, ⟨rfl, trivial⟩⟩)
          · exact OpOK2.on (fun g27 => [(.tmp 66, .int .u8 (gt p1 7))]) _ _ (fun g27 _ => g27) rfl rfl rfl hg26 (fun _ => ⟨rfl, trivial⟩) (fun g27 => Pu.toOT (Pu.conv ul5 ul3)) (fun _ _ => ⟨rfl, rfl, ⟨rfl, trivial⟩⟩)
          · exact OpOK2.on (fun g27 => [(.tmp 11, BP g10 0)]) _ _ (fun g27 _ => g27) rfl rfl rfl hg26 (fun _ => ⟨rfl, trivial⟩) (fun g27 => Pu.toOT (Pu.fieldB fo57_2 rfl)) (fun _ _ => ⟨rfl, rfl, ⟨rfl, trivial⟩⟩)
          · exact OpOK2.on (fun g27 => [(.tmp 68, BP g10 2)]) _ _ (fun g27 _ => g27) rfl rfl rfl hg26 (fun _ => ⟨rfl, trivial⟩) (fun g27 => OT.loadB sc3 rfl) (fun _ _ => ⟨rfl, rfl, ⟨rfl, trivial⟩⟩)
          refine HQ.keep [(1, _), (4, _), (5, _), (6, _), (11, _), (63, _), (67, _), (69, _)] ⟨rfl, rfl, rfl, rfl, rfl, rfl, rfl, rfl, trivial⟩ ?_
          refine HQ.keepR [(1, _), (3, _)] ⟨rfl, rfl, trivial⟩ rfl ?_
          refine HQ.dRun 1 rfl rfl (by kernel_rfl) (by kernel_rfl) ?_
          refine HQ.on rfl rfl hg26 ?_
          refine HQ.pu Pu.gtr ⟨rfl, rfl, trivial⟩ rfl rfl rfl ?_
          refine HQ.done ?_
          obtain rfl := Option.some.inj H
          refine HQ.dRun 1 rfl rfl (by kernel_rfl) (by kernel_rfl) ?_
          refine HQ.pu (Pu.pickC0 hg26) ⟨rfl, rfl, trivial⟩ rfl rfl rfl ?_
          refine HQ.done ?_
          exact HQ.dUse hmid ⟨rfl, rfl, rfl, rfl, rfl, rfl, trivial⟩ ⟨rfl, rfl, trivial⟩ rfl
      refine HQ.dEnd rfl ?_
      refine HQ.thenN ?_
      refine HQ.keep [(71, _), (1, _), (4, _), (5, _), (6, _), (11, _)] ⟨rfl, rfl, rfl, rfl, rfl, rfl, trivial⟩ ?_
      rcases brk H with ⟨hc, H⟩ | ⟨hc, H⟩
      · refine HQ.condT rfl hc ?_
        clear hc
        refine HQ.rseq ?_
        refine HQ.pu (Pu.build (us := []) (cs := [.int .i64 0, .int .i64 0, .int .i64 0, .slice none 0 0]) [] st57 rfl rfl rfl) trivial rfl rfl rfl ?_
        refine HQ.opN [1] [1] [] (OT.storeC (cs' := [.int .i64 0, .int .i64 0, .int .i64 0, .slice none 0 0]) sz57 rfl rfl rfl rfl rfl) ⟨rfl, rfl, trivial⟩ ⟨rfl, trivial⟩ rfl rfl rfl (fun _ => rfl) fun _ => ?_
        refine HQ.pu Pu.assign ⟨rfl, trivial⟩ rfl rfl rfl ?_
        refine HQ.pu Pu.assign ⟨rfl, trivial⟩ rfl rfl rfl ?_
        refine HQ.done ?_
        refine HQ.keep [(1, _), (4, _), (5, _), (6, _), (11, _)] ⟨rfl, rfl, rfl, rfl, rfl, trivial⟩ ?_
        refine HQ.ret ?_
        refine HQ.thenR ?_
        obtain rfl := Option.some.inj H
        refine HQ.nil kTChange 5 rfl ?_
        exact HQ.fin (vs := [_, _, _]) Try.results62 (none, 0) ⟨⟨_, _, 1, rfl, rfl, ag57, sz57, rfl⟩, rfl, rfl, trivial⟩ rfl [5] ⟨rfl, trivial⟩ rfl
      · refine HQ.condF rfl hc ?_
        clear hc
        refine HQ.skipThen ?_
        obtain ⟨h33, H⟩ := asr H
        refine HQ.drawS mixd [(1, .slice a_0 (List.length p1) c_0), (4, BP b1 0), (5, .int .i64 0), (6, .bool false), (11, BP g10 0)] 6 [⟨[0], [0], []⟩, ⟨[], [], []⟩, ⟨[], [], [1]⟩, ⟨[], [], [2]⟩, ⟨[], [], [3]⟩, ⟨[1], [2], [0]⟩] [⟨none, none⟩, ⟨none, some 5⟩, ⟨some 5, none⟩] (fun (g32 : Unit) => [.agg #[.int .i64 t8.1, .int .i64 (IntKind.i64.wrap (gt p1 5)), .int .i64 (IntKind.i64.wrap (gt p1 6)), .slice none 0 0], .slice a_0 (List.length p1) c_0, EP a_0 7 1 0, .int .u8 (gt p1 7), .int .i64 (IntKind.i64.wrap (gt p1 7)), undef]) (fun (g32 : Unit) => [Box g10 [.int .i64 t8.1, .int .i64 (IntKind.i64.wrap (gt p1 5)), .int .i64 (IntKind.i64.wrap (gt p1 6)), .slice none 0 0], Box b1 [.int .i64 0, .int .i64 0, .int .i64 0, .slice none 0 0], Box b1 [.int .i64 t8.1, .int .i64 (IntKind.i64.wrap (gt p1 5)), .int .i64 (IntKind.i64.wrap (gt p1 6)), .slice none 0 0]]) () [3, 1] [3, 1] [] ⟨rfl, rfl, rfl, rfl, rfl, trivial⟩ ⟨rfl, rfl, trivial⟩ rfl (by kernel_rfl) (fun _ => rfl) (by kernel_rfl) (fun _ => rfl) ⟨?_, ?_, ?_, ?_, ?_, ?_, trivial⟩ fun g32 => ?_
        · exact OpOK.of (fun g32 => [(.tmp 11, BP g10 0)]) _ _ (fun g32 _ => g32) rfl rfl (fun _ => ⟨rfl, trivial⟩) (fun g32 => OT.loadBA (vs := [.int .i64 t8.1, .int .i64 (IntKind.i64.wrap (gt p1 5)), .int .i64 (IntKind.i64.wrap (gt p1 6)), .slice none 0 0]) ag57 sz57 rfl rfl) (fun _ _ => ⟨rfl, rfl, ⟨rfl, rfl, rfl, trivial⟩⟩)
        · exact OpOK.of (fun g32 => [(.tmp 1, .slice a_0 (List.length p1) c_0)]) _ _ (fun g32 _ => g32) rfl rfl (fun _ => ⟨rfl, trivial⟩) (fun g32 => Pu.toOT Pu.move) (fun _ _ => ⟨rfl, rfl, ⟨rfl, rfl, rfl, trivial⟩⟩)
        · exact OpOK.of (fun g32 => [(.tmp 74, .slice a_0 (List.length p1) c_0), (.const (.int .i64 7), .int .i64 7)]) _ _ (fun g32 _ => g32) rfl rfl (fun _ => ⟨rfl, rfl, trivial⟩) (fun g32 => OT.indexB ul22 sz5 hb_0 h33) (fun _ _ => ⟨rfl, rfl, ⟨rfl, rfl, rfl, trivial⟩⟩)
        · exact OpOK.of (fun g32 => [(.tmp 75, EP a_0 7 1 0)]) _ _ (fun g32 _ => g32) rfl rfl (fun _ => ⟨rfl, trivial⟩) (fun g32 => OT.loadF sc5 hb_0 h33 rfl) (fun _ _ => ⟨rfl, rfl, ⟨rfl, rfl, rfl, trivial⟩⟩)
        · exact OpOK.of (fun g32 => [(.tmp 76, .int .u8 (gt p1 7))]) _ _ (fun g32 _ => g32) rfl rfl (fun _ => ⟨rfl, trivial⟩) (fun g32 => Pu.toOT (Pu.conv ul5 ul3)) (fun _ _ => ⟨rfl, rfl, ⟨rfl, rfl, rfl, trivial⟩⟩)
        · exact OpOK.of (fun g32 => [(.tmp 4, BP b1 0), (.tmp 73, .agg #[.int .i64 t8.1, .int .i64 (IntKind.i64.wrap (gt p1 5)), .int .i64 (IntKind.i64.wrap (gt p1 6)), .slice none 0 0])]) _ _ (fun g32 _ => g32) rfl rfl (fun _ => ⟨rfl, rfl, trivial⟩) (fun g32 => OT.storeC (cs' := [.int .i64 t8.1, .int .i64 (IntKind.i64.wrap (gt p1 5)), .int .i64 (IntKind.i64.wrap (gt p1 6)), .slice none 0 0]) sz57 rfl rfl rfl rfl rfl) (fun _ _ => ⟨rfl, rfl, ⟨rfl, rfl, rfl, trivial⟩⟩)
        refine HQ.keep [(4, _), (5, _), (6, _), (77, _)] ⟨rfl, rfl, rfl, rfl, trivial⟩ ?_
        refine HQ.keepR [(1, _), (3, _)] ⟨rfl, rfl, trivial⟩ rfl ?_
        refine HQ.pu Pu.assign ⟨rfl, trivial⟩ rfl rfl rfl ?_
        refine HQ.pu Pu.assign ⟨rfl, trivial⟩ rfl rfl rfl ?_
        refine HQ.done ?_
        refine HQ.keep [(4, _), (5, _), (6, _)] ⟨rfl, rfl, rfl, trivial⟩ ?_
        refine HQ.ret ?_
        obtain rfl := Option.some.inj H
        refine HQ.nil kTChange 6 rfl ?_
        exact HQ.fin (vs := [_, _, _]) Try.results62 (none, 0) ⟨⟨_, _, 1, rfl, rfl, ag57, sz57, rfl⟩, rfl, rfl, trivial⟩ rfl [6] ⟨rfl, trivial⟩ rfl
    · rintro r rfl a w hr
      obtain rfl := Option.some.inj H
      exact hr

/-! spec.l19Epoch -/
theorem spec_l19Epoch_c {w : World} {p0 : TCur} {β_0 : Nat} {a_0 : Option Addr} {c_0 : Nat} {F0 : Fp} (hs0 : Sat [Box β_0 [.slice a_0 (List.length p0.b) c_0, .int .i64 p0.i, .int .i64 p0.h]] w.heap F0) (hF0 : ∀ b, F0 b → b < w.heap.size) (hb_0 : BorS kU8 a_0 c_0 p0.b w.heap (Lt w F0)) {r : Int × TCur} (H : spec_l19Epoch p0 = some r) :
    Calls Try.prog 95 #[BP β_0 0] w (Rt w F0 (fun _ : Unit => .int .i64 r.1) (fun _ => [Box β_0 [.slice a_0 (List.length p0.b) c_0, .int .i64 r.2.i, .int .i64 r.2.h]])) := by
  rw [spec_l19Epoch] at H
  refine Calls.enter (N := 6) (us := [_]) (F0 := F0) (Γ0 := [(1, Box β_0 [.slice a_0 (List.length p0.b) c_0, .int .i64 p0.i, .int .i64 p0.h])]) Try.func95 rfl rfl rfl hs0 hF0 ?_
  refine HQ.rseq ?_
  refine HQ.pu Pu.assign ⟨rfl, trivial⟩ rfl rfl rfl ?_
  refine HQ.done ?_
  refine HQ.keep [(0, _), (2, _)] ⟨rfl, rfl, trivial⟩ ?_
  refine HQ.rseq ?_
  refine HQ.pu Pu.move ⟨rfl, trivial⟩ rfl rfl rfl ?_
  refine HQ.op [] [2] (OT.buildF (us := [.int .i64 1, .int .i64 2, .int .i64 2, .int .i64 300, .int .i64 0, .int .i64 65535, .int .i64 65536, .int .i64 (-1)]) (ys := ([1, 2, 2, 300, 0, 65535, 65536, (-1)] : (List Int))) (enc := (encI .i64)) (hl := fun _ => ⟨rfl, rfl⟩) [.const (.int .i64 1), .const (.int .i64 2), .const (.int .i64 2), .const (.int .i64 300), .const (.int .i64 0), .const (.int .i64 65535), .const (.int .i64 65536), .const (.int .i64 (-1))] sl33.ul sl33.szE sl33.zc rfl rfl rfl rfl rfl) ⟨rfl, rfl, rfl, rfl, rfl, rfl, rfl, rfl, trivial⟩ trivial rfl rfl rfl rfl (fun _ => rfl) fun ⟨a1, c2⟩ => ?_
  obtain ⟨t3, h4, H⟩ := bnd H
  refine HQ.op [1, 2] [1, 2] (OT.callM (us := [_, _]) (PreX := [Box β_0 [.slice a_0 (List.length p0.b) c_0, .int .i64 p0.i, .int .i64 p0.h]]) (PreL := [OwnS kI a1 c2 ([1, 2, 2, 300, 0, 65535, 65536, (-1)] : (List Int))]) [.tmp 3, .tmp 4] Try.call79 rfl rfl fun w FX FL hs1 hF1 hs2 hF2 hp => spec_l1Int_c (p0 := p0) (p1 := ([1, 2, 2, 300, 0, 65535, 65536, (-1)] : (List Int))) hs1 hF1 (hb_0.passY hp) (hs2.lendY hF2 0 rfl) h4) ⟨rfl, rfl, rfl, trivial⟩ ⟨rfl, rfl, trivial⟩ rfl rfl rfl rfl (fun _ => rfl) fun _ => ?_
  refine HQ.pu Pu.assign ⟨rfl, trivial⟩ rfl rfl rfl ?_
  refine HQ.done ?_
  refine HQ.keep [(2, _)] ⟨rfl, trivial⟩ ?_
  refine HQ.ret ?_
  obtain rfl := Option.some.inj H
  exact HQ.fin (vs := [_]) Try.results95 () ⟨rfl, trivial⟩ rfl [1] ⟨rfl, trivial⟩ rfl

/-! spec.l19Any -/
theorem spec_l19Any_c {w : World} {k : Nat} {p0 : TCur} {β_0 : Nat} {a_0 : Option Addr} {c_0 : Nat} {F0 : Fp} (hs0 : Sat [Box β_0 [.slice a_0 (List.length p0.b) c_0, .int .i64 p0.i, .int .i64 p0.h]] w.heap F0) (hF0 : ∀ b, F0 b → b < w.heap.size) (hb_0 : BorS kU8 a_0 c_0 p0.b w.heap (Lt w F0)) {r : TTx × TCur} (H : spec_l19Any k p0 = some r) :
    Calls Try.prog 101 #[BP β_0 0] w (Rt w F0 (fun g : Option Addr × Nat => .agg #[.int .i64 r.1.Seq, .int .i64 r.1.Root, .int .i64 r.1.Size, .slice g.1 (List.length r.1.Puts) g.2]) (fun g => [OwnS kTChange g.1 g.2 r.1.Puts, Box β_0 [.slice a_0 (List.length p0.b) c_0, .int .i64 r.2.i, .int .i64 r.2.h]])) := by
  rw [spec_l19Any] at H
  refine Calls.enter (N := 41) (us := [_]) (F0 := F0) (Γ0 := [(1, Box β_0 [.slice a_0 (List.length p0.b) c_0, .int .i64 p0.i, .int .i64 p0.h])]) Try.func101 rfl rfl rfl hs0 hF0 ?_
  refine HQ.rseq ?_
  refine HQ.op [] [2] (OT.alloc zc57) trivial trivial rfl rfl rfl rfl (fun _ => rfl) fun b1 => ?_
  refine HQ.done ?_
  refine HQ.keep [(0, _), (2, _)] ⟨rfl, rfl, trivial⟩ ?_
  refine HQ.rseq ?_
  refine HQ.pu Pu.move ⟨rfl, trivial⟩ rfl rfl rfl ?_
  obtain ⟨t2, h3, H⟩ := bnd H
  refine HQ.op [1] [3, 1] (OT.callM (us := [_]) (PreX := [Box β_0 [.slice a_0 (List.length p0.b) c_0, .int .i64 p0.i, .int .i64 p0.h]]) (PreL := []) [.tmp 4] Try.call119 rfl rfl fun w FX FL hs1 hF1 hs2 hF2 hp => spec_l19Draw_c (p0 := p0) hs1 hF1 (hb_0.passY hp) h3) ⟨rfl, rfl, trivial⟩ ⟨rfl, trivial⟩ rfl rfl rfl rfl (fun _ => rfl) fun ⟨a4, c5⟩ => ?_
  refine HQ.op [] [4] (OT.alloc zc57) trivial trivial rfl rfl rfl rfl (fun _ => rfl) fun b6 => ?_
  refine HQ.opN [4] [4] [] (OT.storeC (cs' := [.int .i64 t2.1.Seq, .int .i64 t2.1.Root, .int .i64 t2.1.Size, .slice a4 (List.length t2.1.Puts) c5]) sz57 rfl rfl rfl rfl rfl) ⟨rfl, rfl, trivial⟩ ⟨rfl, trivial⟩ rfl rfl rfl (fun _ => rfl) fun _ => ?_
  refine HQ.done ?_
  refine HQ.keep [(0, _), (2, _), (3, _)] ⟨rfl, rfl, rfl, trivial⟩ ?_
  refine HQ.seq ?_
  refine HQ.rseq ?_
  refine HQ.pu Pu.move ⟨rfl, trivial⟩ rfl rfl rfl ?_
  obtain ⟨t7, h8, H⟩ := bnd H
  refine HQ.op [1] [1] (OT.callM (us := [_, _]) (PreX := [Box β_0 [.slice a_0 (List.length p0.b) c_0, .int .i64 t2.2.i, .int .i64 t2.2.h]]) (PreL := []) [.tmp 6, .const (.int .i64 12)] Try.call86 rfl rfl fun w FX FL hs1 hF1 hs2 hF2 hp => spec_l1Below_c (p0 := (⟨p0.b, t2.2.i, t2.2.h⟩ : TCur)) (p1 := 12) hs1 hF1 (hb_0.passY hp) h8) ⟨rfl, rfl, rfl, trivial⟩ ⟨rfl, trivial⟩ rfl rfl rfl rfl (fun _ => rfl) fun _ => ?_
  refine HQ.done ?_
  refine HQ.keep [(0, _), (2, _), (3, _), (7, _)] ⟨rfl, rfl, rfl, rfl, trivial⟩ ?_
  refine HQ.block ?_
  refine HQ.rseq ?_
  refine HQ.pu Pu.eql ⟨rfl, rfl, trivial⟩ rfl rfl rfl ?_
  refine HQ.pu Pu.assign ⟨rfl, trivial⟩ rfl rfl rfl ?_
  refine HQ.done ?_
  refine HQ.keep [(0, _), (2, _), (3, _), (7, _), (8, _)] ⟨rfl, rfl, rfl, rfl, rfl, trivial⟩ ?_
  rcases brk H with ⟨hc, H⟩ | ⟨hc, H⟩
  · refine HQ.condT rfl hc ?_
    clear hc
    refine HQ.regionQ ?_
    refine HQ.pu Pu.move ⟨rfl, trivial⟩ rfl rfl rfl ?_
    refine HQ.op [] [5] (OT.buildF (us := [.int .i64 0, .int .i64 65535, .int .i64 65536]) (ys := ([0, 65535, 65536] : (List Int))) (enc := (encI .i64)) (hl := fun _ => ⟨rfl, rfl⟩) [.const (.int .i64 0), .const (.int .i64 65535), .const (.int .i64 65536)] sl33.ul sl33.szE sl33.zc rfl rfl rfl rfl rfl) ⟨rfl, rfl, rfl, trivial⟩ trivial rfl rfl rfl rfl (fun _ => rfl) fun ⟨a9, c10⟩ => ?_
    obtain ⟨t11, h12, H⟩ := bnd H
    refine HQ.op [1, 5] [1, 5] (OT.callM (us := [_, _]) (PreX := [Box β_0 [.slice a_0 (List.length p0.b) c_0, .int .i64 t7.2.i, .int .i64 t7.2.h]]) (PreL := [OwnS kI a9 c10 ([0, 65535, 65536] : (List Int))]) [.tmp 10, .tmp 11] Try.call79 rfl rfl fun w FX FL hs1 hF1 hs2 hF2 hp => spec_l1Int_c (p0 := (⟨p0.b, t7.2.i, t7.2.h⟩ : TCur)) (p1 := ([0, 65535, 65536] : (List Int))) hs1 hF1 (hb_0.passY hp) (hs2.lendY hF2 0 rfl) h12) ⟨rfl, rfl, rfl, trivial⟩ ⟨rfl, rfl, trivial⟩ rfl rfl rfl rfl (fun _ => rfl) fun _ => ?_
    refine HQ.pu (Pu.fieldB fo57_0 rfl) ⟨rfl, trivial⟩ rfl rfl rfl ?_
    refine HQ.opN [4] [4] [] (OT.storeC (cs' := [.int .i64 t11.1, .int .i64 t2.1.Root, .int .i64 t2.1.Size, .slice a4 (List.length t2.1.Puts) c5]) sz3 rfl rfl rfl rfl rfl) ⟨rfl, rfl, trivial⟩ ⟨rfl, trivial⟩ rfl rfl rfl (fun _ => rfl) fun _ => ?_
    refine HQ.done ?_
    refine HQ.keep [(2, _), (3, _)] ⟨rfl, rfl, trivial⟩ ?_
    refine HQ.blkN ?_
    refine HQ.thenN ?_
    refine HQ.rseq ?_
    refine HQ.op [4] [4] (OT.loadBA (vs := [.int .i64 t11.1, .int .i64 t2.1.Root, .int .i64 t2.1.Size, .slice a4 (List.length t2.1.Puts) c5]) ag57 sz57 rfl rfl) ⟨rfl, trivial⟩ ⟨rfl, trivial⟩ rfl rfl rfl rfl (fun _ => rfl) fun _ => ?_
    refine HQ.opN [2] [2] [] (OT.storeC (cs' := [.int .i64 t11.1, .int .i64 t2.1.Root, .int .i64 t2.1.Size, .slice a4 (List.length t2.1.Puts) c5]) sz57 rfl rfl rfl rfl rfl) ⟨rfl, rfl, trivial⟩ ⟨rfl, trivial⟩ rfl rfl rfl (fun _ => rfl) fun _ => ?_
    refine HQ.done ?_
    refine HQ.keep [(2, _)] ⟨rfl, trivial⟩ ?_
    refine HQ.ret ?_
    obtain rfl := Option.some.inj H
    exact HQ.fin (vs := [_]) Try.results101 (a4, c5) ⟨⟨_, _, 2, rfl, rfl, ag57, sz57, rfl⟩, trivial⟩ rfl [3, 1] ⟨rfl, rfl, trivial⟩ rfl
  · refine HQ.condF rfl hc ?_
    clear hc
    refine HQ.rseq ?_
    refine HQ.pu Pu.eql ⟨rfl, rfl, trivial⟩ rfl rfl rfl ?_
    refine HQ.pu Pu.assign ⟨rfl, trivial⟩ rfl rfl rfl ?_
    refine HQ.done ?_
    refine HQ.keep [(0, _), (2, _), (3, _), (7, _), (14, _)] ⟨rfl, rfl, rfl, rfl, rfl, trivial⟩ ?_
    rcases brk H with ⟨hc, H⟩ | ⟨hc, H⟩
    · refine HQ.condT rfl hc ?_
      clear hc
      refine HQ.regionQ ?_
      refine HQ.pu Pu.move ⟨rfl, trivial⟩ rfl rfl rfl ?_
      refine HQ.op [] [6] (OT.buildF (us := [.int .i64 0, .int .i64 1, .int .i64 48, .int .i64 49]) (ys := ([0, 1, 48, 49] : (List Int))) (enc := (encI .i64)) (hl := fun _ => ⟨rfl, rfl⟩) [.const (.int .i64 0), .const (.int .i64 1), .const (.int .i64 48), .const (.int .i64 49)] sl33.ul sl33.szE sl33.zc rfl rfl rfl rfl rfl) ⟨rfl, rfl, rfl, rfl, trivial⟩ trivial rfl rfl rfl rfl (fun _ => rfl) fun ⟨a13, c14⟩ => ?_
      obtain ⟨t15, h16, H⟩ := bnd H
      refine HQ.op [1, 6] [1, 6] (OT.callM (us := [_, _]) (PreX := [Box β_0 [.slice a_0 (List.length p0.b) c_0, .int .i64 t7.2.i, .int .i64 t7.2.h]]) (PreL := [OwnS kI a13 c14 ([0, 1, 48, 49] : (List Int))]) [.tmp 16, .tmp 17] Try.call79 rfl rfl fun w FX FL hs1 hF1 hs2 hF2 hp => spec_l1Int_c (p0 := (⟨p0.b, t7.2.i, t7.2.h⟩ : TCur)) (p1 := ([0, 1, 48, 49] : (List Int))) hs1 hF1 (hb_0.passY hp) (hs2.lendY hF2 0 rfl) h16) ⟨rfl, rfl, rfl, trivial⟩ ⟨rfl, rfl, trivial⟩ rfl rfl rfl rfl (fun _ => rfl) fun _ => ?_
      refine HQ.pu (Pu.fieldB fo57_2 rfl) ⟨rfl, trivial⟩ rfl rfl rfl ?_
      refine HQ.opN [4] [4] [] (OT.storeC (cs' := [.int .i64 t2.1.Seq, .int .i64 t2.1.Root, .int .i64 t15.1, .slice a4 (List.length t2.1.Puts) c5]) sz3 rfl rfl rfl rfl rfl) ⟨rfl, rfl, trivial⟩ ⟨rfl, trivial⟩ rfl rfl rfl (fun _ => rfl) fun _ => ?_
      refine HQ.done ?_
      refine HQ.keep [(2, _), (3, _)] ⟨rfl, rfl, trivial⟩ ?_
      refine HQ.blkN ?_
      refine HQ.thenN ?_
      refine HQ.rseq ?_
      refine HQ.op [4] [4] (OT.loadBA (vs := [.int .i64 t2.1.Seq, .int .i64 t2.1.Root, .int .i64 t15.1, .slice a4 (List.length t2.1.Puts) c5]) ag57 sz57 rfl rfl) ⟨rfl, trivial⟩ ⟨rfl, trivial⟩ rfl rfl rfl rfl (fun _ => rfl) fun _ => ?_
      refine HQ.opN [2] [2] [] (OT.storeC (cs' := [.int .i64 t2.1.Seq, .int .i64 t2.1.Root, .int .i64 t15.1, .slice a4 (List.length t2.1.Puts) c5]) sz57 rfl rfl rfl rfl rfl) ⟨rfl, rfl, trivial⟩ ⟨rfl, trivial⟩ rfl rfl rfl (fun _ => rfl) fun _ => ?_
      refine HQ.done ?_
      refine HQ.keep [(2, _)] ⟨rfl, trivial⟩ ?_
      refine HQ.ret ?_
      obtain rfl := Option.some.inj H
      exact HQ.fin (vs := [_]) Try.results101 (a4, c5) ⟨⟨_, _, 2, rfl, rfl, ag57, sz57, rfl⟩, trivial⟩ rfl [3, 1] ⟨rfl, rfl, trivial⟩ rfl
    · refine HQ.condF rfl hc ?_
      clear hc
      refine HQ.rseq ?_
      refine HQ.pu Pu.eql ⟨rfl, rfl, trivial⟩ rfl rfl rfl ?_
      refine HQ.pu Pu.assign ⟨rfl, trivial⟩ rfl rfl rfl ?_
      refine HQ.done ?_
      refine HQ.keep [(0, _), (2, _), (3, _), (7, _), (20, _)] ⟨rfl, rfl, rfl, rfl, rfl, trivial⟩ ?_
      rcases brk H with ⟨hc, H⟩ | ⟨hc, H⟩
      · refine HQ.condT rfl hc ?_
        clear hc
        refine HQ.regionQ ?_
        refine HQ.pu Pu.move ⟨rfl, trivial⟩ rfl rfl rfl ?_
        refine HQ.pu (Pu.fieldB fo57_2 rfl) ⟨rfl, trivial⟩ rfl rfl rfl ?_
        refine HQ.op [4] [4] (OT.loadB sc3 rfl) ⟨rfl, trivial⟩ ⟨rfl, trivial⟩ rfl rfl rfl rfl (fun _ => rfl) fun _ => ?_
        refine HQ.op [] [7] (OT.buildF (us := [.int .i64 (-1), .int .i64 t2.1.Size]) (ys := ([(-1), t2.1.Size] : (List Int))) (enc := (encI .i64)) (hl := fun _ => ⟨rfl, rfl⟩) [.const (.int .i64 (-1)), .tmp 24] sl33.ul sl33.szE sl33.zc rfl rfl rfl rfl rfl) ⟨rfl, rfl, trivial⟩ trivial rfl rfl rfl rfl (fun _ => rfl) fun ⟨a17, c18⟩ => ?_
        obtain ⟨t19, h20, H⟩ := bnd H
        refine HQ.op [1, 7] [1, 7] (OT.callM (us := [_, _]) (PreX := [Box β_0 [.slice a_0 (List.length p0.b) c_0, .int .i64 t7.2.i, .int .i64 t7.2.h]]) (PreL := [OwnS kI a17 c18 ([(-1), t2.1.Size] : (List Int))]) [.tmp 22, .tmp 25] Try.call79 rfl rfl fun w FX FL hs1 hF1 hs2 hF2 hp => spec_l1Int_c (p0 := (⟨p0.b, t7.2.i, t7.2.h⟩ : TCur)) (p1 := ([(-1), t2.1.Size] : (List Int))) hs1 hF1 (hb_0.passY hp) (hs2.lendY hF2 0 rfl) h20) ⟨rfl, rfl, rfl, trivial⟩ ⟨rfl, rfl, trivial⟩ rfl rfl rfl rfl (fun _ => rfl) fun _ => ?_
        refine HQ.pu (Pu.fieldB fo57_1 rfl) ⟨rfl, trivial⟩ rfl rfl rfl ?_
        refine HQ.opN [4] [4] [] (OT.storeC (cs' := [.int .i64 t2.1.Seq, .int .i64 t19.1, .int .i64 t2.1.Size, .slice a4 (List.length t2.1.Puts) c5]) sz3 rfl rfl rfl rfl rfl) ⟨rfl, rfl, trivial⟩ ⟨rfl, trivial⟩ rfl rfl rfl (fun _ => rfl) fun _ => ?_
        refine HQ.done ?_
        refine HQ.keep [(2, _), (3, _)] ⟨rfl, rfl, trivial⟩ ?_
        refine HQ.blkN ?_
        refine HQ.thenN ?_
        refine HQ.rseq ?_
        refine HQ.op [4] [4] (OT.loadBA (vs := [.int .i64 t2.1.Seq, .int .i64 t19.1, .int .i64 t2.1.Size, .slice a4 (List.length t2.1.Puts) c5]) ag57 sz57 rfl rfl) ⟨rfl, trivial⟩ ⟨rfl, trivial⟩ rfl rfl rfl rfl (fun _ => rfl) fun _ => ?_
        refine HQ.opN [2] [2] [] (OT.storeC (cs' := [.int .i64 t2.1.Seq, .int .i64 t19.1, .int .i64 t2.1.Size, .slice a4 (List.length t2.1.Puts) c5]) sz57 rfl rfl rfl rfl rfl) ⟨rfl, rfl, trivial⟩ ⟨rfl, trivial⟩ rfl rfl rfl (fun _ => rfl) fun _ => ?_
        refine HQ.done ?_
        refine HQ.keep [(2, _)] ⟨rfl, trivial⟩ ?_
        refine HQ.ret ?_
        obtain rfl := Option.some.inj H
        exact HQ.fin (vs := [_]) Try.results101 (a4, c5) ⟨⟨_, _, 2, rfl, rfl, ag57, sz57, rfl⟩, trivial⟩ rfl [3, 1] ⟨rfl, rfl, trivial⟩ rfl
      · refine HQ.condF rfl hc ?_
        clear hc
        refine HQ.rseq ?_
        refine HQ.pu Pu.eql ⟨rfl, rfl, trivial⟩ rfl rfl rfl ?_
        refine HQ.pu Pu.assign ⟨rfl, trivial⟩ rfl rfl rfl ?_
        refine HQ.done ?_
        refine HQ.keep [(0, _), (2, _), (3, _), (28, _)] ⟨rfl, rfl, rfl, rfl, trivial⟩ ?_
        rcases brk H with ⟨hc, H⟩ | ⟨hc, H⟩
        · refine HQ.condT rfl hc ?_
          clear hc
          refine HQ.dStart mixd ?_
          obtain ⟨t22, h23, H⟩ := bnd H
          obtain ⟨t24, h25, H⟩ := bnd H
          refine HQ.dPart [(0, BP β_0 0), (2, BP b1 0), (3, BP b6 0)] 8 [⟨[], [], []⟩, ⟨[0], [0], [0]⟩, ⟨[], [], []⟩, ⟨[1], [2], [2]⟩, ⟨[], [], []⟩, ⟨[2], [3, 4], [4]⟩, ⟨[], [], [3, 5]⟩, ⟨[3], [5], [6]⟩] [⟨none, none⟩, ⟨none, some 3⟩, ⟨some 3, some 5⟩, ⟨some 5, some 7⟩, ⟨some 5, none⟩, ⟨some 7, none⟩] (fun (g21 : (Option Addr × Nat) × (Option Addr × Nat)) => [BP b6 3, .slice a4 (List.length t2.1.Puts) c5, BP β_0 0, .int .i64 t22.1, BP β_0 0, .agg #[.bool t24.1.Leaf, .slice g21.1.1 (List.length t24.1.L) g21.1.2], .agg #[.int .i64 t22.1, .bool t24.1.Leaf, .slice g21.1.1 (List.length t24.1.L) g21.1.2], .slice g21.2.1 (List.length ([(⟨t22.1, t24.1⟩ : TChange)] : (List TChange))) g21.2.2]) (fun (g21 : (Option Addr × Nat) × (Option Addr × Nat)) => [Box b6 [.int .i64 t2.1.Seq, .int .i64 t2.1.Root, .int .i64 t2.1.Size, .slice a4 (List.length t2.1.Puts) c5], Box β_0 [.slice a_0 (List.length p0.b) c_0, .int .i64 t7.2.i, .int .i64 t7.2.h], Box β_0 [.slice a_0 (List.length p0.b) c_0, .int .i64 t22.2.i, .int .i64 t22.2.h], OwnS kTEntry g21.1.1 g21.1.2 t24.1.L, Box β_0 [.slice a_0 (List.length p0.b) c_0, .int .i64 t24.2.i, .int .i64 t24.2.h], OwnS kTChange g21.2.1 g21.2.2 ([(⟨t22.1, t24.1⟩ : TChange)] : (List TChange))]) ((none, 0), (none, 0)) [4, 1] [4, 1, 9] [] ⟨rfl, rfl, rfl, trivial⟩ ⟨rfl, rfl, trivial⟩ rfl (by kernel_rfl) (by kernel_rfl) (fun _ => rfl) (by kernel_rfl) (fun _ => rfl) rfl ⟨?_, ?_, ?_, ?_, ?_, ?_, ?_, ?_, trivial⟩ fun g21 => ?_
          · exact OpOK2.of (fun g21 => [(.tmp 3, BP b6 0)]) _ _ (fun g21 _ => g21) rfl rfl (fun _ => ⟨rfl, trivial⟩) (fun g21 => Pu.toOT (Pu.fieldB fo57_3 rfl)) (fun _ _ => ⟨rfl, rfl, ⟨rfl, rfl, rfl, rfl, rfl, rfl, trivial⟩⟩)
          · exact OpOK2.of (fun g21 => [(.tmp 30, BP b6 3)]) _ _ (fun g21 _ => g21) rfl rfl (fun _ => ⟨rfl, trivial⟩) (fun g21 => OT.loadB sc55 rfl) (fun _ _ => ⟨rfl, rfl, ⟨rfl, rfl, rfl, rfl, rfl, rfl, trivial⟩⟩)
          · exact OpOK2.of (fun g21 => [(.tmp 0, BP β_0 0)]) _ _ (fun g21 _ => g21) rfl rfl (fun _ => ⟨rfl, trivial⟩) (fun g21 => Pu.toOT Pu.move) (fun _ _ => ⟨rfl, rfl, ⟨rfl, rfl, rfl, rfl, rfl, rfl, trivial⟩⟩)
          · exact OpOK2.of (fun g21 => [(.func 86, .func (.func 86) #[] #[]), (.tmp 32, BP β_0 0), (.const (.int .i64 12), .int .i64 12)]) _ _ (fun g21 _ => g21) rfl rfl (fun _ => ⟨rfl, rfl, rfl, trivial⟩) (fun g21 => OT.callM (us := [_, _]) (PreX := [Box β_0 [.slice a_0 (List.length p0.b) c_0, .int .i64 t7.2.i, .int .i64 t7.2.h]]) (PreL := []) [.tmp 32, .const (.int .i64 12)] Try.call86 rfl rfl fun w FX FL hs1 hF1 hs2 hF2 hp => spec_l1Below_c (p0 := (⟨p0.b, t7.2.i, t7.2.h⟩ : TCur)) (p1 := 12) hs1 hF1 (hb_0.passY hp) h23) (fun _ _ => ⟨rfl, rfl, ⟨rfl, rfl, rfl, rfl, rfl, rfl, trivial⟩⟩)
          · exact OpOK2.of (fun g21 => [(.tmp 0, BP β_0 0)]) _ _ (fun g21 _ => g21) rfl rfl (fun _ => ⟨rfl, trivial⟩) (fun g21 => Pu.toOT Pu.move) (fun _ _ => ⟨rfl, rfl, ⟨rfl, rfl, rfl, rfl, rfl, rfl, trivial⟩⟩)
          · exact OpOK2.ofD [6] (by kernel_rfl) (fun g21 => [(.func 125, .func (.func 125) #[] #[]), (.tmp 34, BP β_0 0)]) _ _ (fun g21 x => (x, g21.2)) rfl rfl (fun _ => ⟨rfl, rfl, trivial⟩) (fun g21 => OT.callM (us := [_]) (PreX := [Box β_0 [.slice a_0 (List.length p0.b) c_0, .int .i64 t22.2.i, .int .i64 t22.2.h]]) (PreL := []) [.tmp 34] Try.call125 rfl rfl fun w FX FL hs1 hF1 hs2 hF2 hp => spec_l5Any_c (p0 := (⟨p0.b, t22.2.i, t22.2.h⟩ : TCur)) hs1 hF1 (hb_0.passY hp) h25) (fun _ _ => ⟨⟨rfl, rfl, rfl, rfl, rfl, rfl, trivial, rfl, trivial⟩, rfl, ⟨rfl, rfl, rfl, rfl, rfl, rfl, trivial⟩⟩)
          · exact OpOK2.of (fun g21 => [(.tmp 33, .int .i64 t22.1), (.tmp 35, .agg #[.bool t24.1.Leaf, .slice g21.1.1 (List.length t24.1.L) g21.1.2])]) _ _ (fun g21 _ => g21) rfl rfl (fun _ => ⟨rfl, rfl, trivial⟩) (fun g21 => Pu.toOT (Pu.build (us := [.int .i64 t22.1, .agg #[.bool t24.1.Leaf, .slice g21.1.1 (List.length t24.1.L) g21.1.2]]) (cs := [.int .i64 t22.1, .bool t24.1.Leaf, .slice g21.1.1 (List.length t24.1.L) g21.1.2]) [(0, .tmp 33), (1, .tmp 35)] st49 rfl rfl rfl)) (fun _ _ => ⟨rfl, rfl, ⟨rfl, rfl, rfl, rfl, rfl, rfl, trivial⟩⟩)
          · exact OpOK2.of (fun g21 => [(.tmp 36, .agg #[.int .i64 t22.1, .bool t24.1.Leaf, .slice g21.1.1 (List.length t24.1.L) g21.1.2])]) _ _ (fun g21 x => (g21.1, x)) rfl rfl (fun _ => ⟨rfl, trivial⟩) (fun g21 => OT.buildO (u := .agg #[.int .i64 t22.1, .bool t24.1.Leaf, .slice g21.1.1 (List.length t24.1.L) g21.1.2]) (enc := encTChange) (hl := hlTChange) (sub := fun (x : TChange) => x.N.L) (.tmp 36) (⟨t22.1, t24.1⟩ : TChange) sl55.ul sl55.szE sl55.zc rfl rfl rfl rfl) (fun _ _ => ⟨rfl, rfl, ⟨rfl, rfl, rfl, rfl, rfl, rfl, trivial⟩⟩)
          refine HQ.keep [(2, _), (3, _), (31, _), (37, _)] ⟨rfl, rfl, rfl, rfl, trivial⟩ ?_
          refine HQ.keepR [(1, _), (2, _), (3, _), (4, _), (9, _)] ⟨rfl, rfl, rfl, rfl, rfl, trivial⟩ rfl ?_
          refine HQ.dRun 3 rfl rfl (by kernel_rfl) (by kernel_rfl) ?_
          obtain ⟨h32, H⟩ := asr H
          refine HQ.opD [3, 9] [3] [9] (OT.appendO (K := kTChange) sl55 ul55 h32) ⟨rfl, rfl, trivial⟩ ⟨rfl, rfl, trivial⟩ rfl rfl rfl rfl (fun _ => rfl) fun ⟨a30, c31⟩ => ?_
          refine HQ.pu (Pu.fieldB fo57_3 rfl) ⟨rfl, trivial⟩ rfl rfl rfl ?_
          refine HQ.opN [4] [4] [] (OT.storeC (cs' := [.int .i64 t2.1.Seq, .int .i64 t2.1.Root, .int .i64 t2.1.Size, .slice a30 (List.length (t2.1.Puts ++ ([(⟨t22.1, t24.1⟩ : TChange)] : (List TChange)))) c31]) sz55 rfl rfl rfl rfl rfl) ⟨rfl, rfl, trivial⟩ ⟨rfl, trivial⟩ rfl rfl rfl (fun _ => rfl) fun _ => ?_
          refine HQ.done ?_
          refine HQ.dEnd rfl ?_
          refine HQ.keep [(2, _), (3, _)] ⟨rfl, rfl, trivial⟩ ?_
          refine HQ.blkN ?_
          refine HQ.thenN ?_
          refine HQ.rseq ?_
          refine HQ.op [4] [4] (OT.loadBA (vs := [.int .i64 t2.1.Seq, .int .i64 t2.1.Root, .int .i64 t2.1.Size, .slice a30 (List.length (t2.1.Puts ++ ([(⟨t22.1, t24.1⟩ : TChange)] : (List TChange)))) c31]) ag57 sz57 rfl rfl) ⟨rfl, trivial⟩ ⟨rfl, trivial⟩ rfl rfl rfl rfl (fun _ => rfl) fun _ => ?_
          refine HQ.opN [2] [2] [] (OT.storeC (cs' := [.int .i64 t2.1.Seq, .int .i64 t2.1.Root, .int .i64 t2.1.Size, .slice a30 (List.length (t2.1.Puts ++ ([(⟨t22.1, t24.1⟩ : TChange)] : (List TChange)))) c31]) sz57 rfl rfl rfl rfl rfl) ⟨rfl, rfl, trivial⟩ ⟨rfl, trivial⟩ rfl rfl rfl (fun _ => rfl) fun _ => ?_
          refine HQ.done ?_
          refine HQ.keep [(2, _)] ⟨rfl, trivial⟩ ?_
          refine HQ.ret ?_
          obtain rfl := Option.some.inj H
          exact HQ.fin (vs := [_]) Try.results101 (a30, c31) ⟨⟨_, _, 2, rfl, rfl, ag57, sz57, rfl⟩, trivial⟩ rfl [3, 1] ⟨rfl, rfl, trivial⟩ rfl
        · refine HQ.condF rfl hc ?_
          clear hc
          refine HQ.skip ?_
          refine HQ.blkN ?_
          refine HQ.thenN ?_
          refine HQ.rseq ?_
          refine HQ.op [4] [4] (OT.loadBA (vs := [.int .i64 t2.1.Seq, .int .i64 t2.1.Root, .int .i64 t2.1.Size, .slice a4 (List.length t2.1.Puts) c5]) ag57 sz57 rfl rfl) ⟨rfl, trivial⟩ ⟨rfl, trivial⟩ rfl rfl rfl rfl (fun _ => rfl) fun _ => ?_
          refine HQ.opN [2] [2] [] (OT.storeC (cs' := [.int .i64 t2.1.Seq, .int .i64 t2.1.Root, .int .i64 t2.1.Size, .slice a4 (List.length t2.1.Puts) c5]) sz57 rfl rfl rfl rfl rfl) ⟨rfl, rfl, trivial⟩ ⟨rfl, trivial⟩ rfl rfl rfl (fun _ => rfl) fun _ => ?_
          refine HQ.done ?_
          refine HQ.keep [(2, _)] ⟨rfl, trivial⟩ ?_
          refine HQ.ret ?_
          obtain rfl := Option.some.inj H
          exact HQ.fin (vs := [_]) Try.results101 (a4, c5) ⟨⟨_, _, 2, rfl, rfl, ag57, sz57, rfl⟩, trivial⟩ rfl [3, 1] ⟨rfl, rfl, trivial⟩ rfl

/-! spec.DrawEndCell -/
theorem spec_DrawEndCell_c {w : World} {k : Nat} {p0 : (List Int)} {a_0 : Option Addr} {c_0 : Nat} (hb_0 : BorS kU8 a_0 c_0 p0 w.heap (Lt w Nil)) {r : Int × TTx} (H : spec_DrawEndCell k p0 = some r) :
    Calls Try.prog 29 #[.slice a_0 (List.length p0) c_0] w (Rt w Nil (fun g : Option Addr × Nat => .tuple #[.int .i64 r.1, .agg #[.int .i64 r.2.Seq, .int .i64 r.2.Root, .int .i64 r.2.Size, .slice g.1 (List.length r.2.Puts) g.2]]) (fun g => [OwnS kTChange g.1 g.2 r.2.Puts])) := by
  rw [spec_DrawEndCell] at H
  refine Calls.enter0 (N := 13) (us := [_]) Try.func29 rfl rfl rfl ?_
  refine HQ.rseq ?_
  refine HQ.pu Pu.assign ⟨rfl, trivial⟩ rfl rfl rfl ?_
  refine HQ.op [] [1] (OT.alloc zc57) trivial trivial rfl rfl rfl rfl (fun _ => rfl) fun b1 => ?_
  refine HQ.done ?_
  refine HQ.keep [(0, _), (2, _), (3, _)] ⟨rfl, rfl, rfl, trivial⟩ ?_
  refine HQ.rseq ?_
  refine HQ.pu Pu.move ⟨rfl, trivial⟩ rfl rfl rfl ?_
  obtain ⟨t2, h3, H⟩ := bnd H
  refine HQ.op [] [2] (OT.call (us := [_]) (Pre := []) [.tmp 6] Try.call77 rfl rfl fun w F hs hF hp => spec_l1New_c (hb_0.pass hp) h3) ⟨rfl, rfl, trivial⟩ trivial rfl rfl rfl rfl (fun _ => rfl) fun b4 => ?_
  refine HQ.pu Pu.assign ⟨rfl, trivial⟩ rfl rfl rfl ?_
  refine HQ.done ?_
  refine HQ.keep [(2, _), (3, _), (4, _)] ⟨rfl, rfl, rfl, trivial⟩ ?_
  refine HQ.rseq ?_
  refine HQ.pu Pu.move ⟨rfl, trivial⟩ rfl rfl rfl ?_
  obtain ⟨t5, h6, H⟩ := bnd H
  refine HQ.op [2] [2] (OT.callM (us := [_]) (PreX := [Box b4 [.slice a_0 (List.length p0) c_0, .int .i64 t2.i, .int .i64 t2.h]]) (PreL := []) [.tmp 8] Try.call95 rfl rfl fun w FX FL hs1 hF1 hs2 hF2 hp => spec_l19Epoch_c (p0 := (⟨p0, t2.i, t2.h⟩ : TCur)) hs1 hF1 (hb_0.passY hp) h6) ⟨rfl, rfl, trivial⟩ ⟨rfl, trivial⟩ rfl rfl rfl rfl (fun _ => rfl) fun _ => ?_
  refine HQ.pu Pu.assign ⟨rfl, trivial⟩ rfl rfl rfl ?_
  refine HQ.done ?_
  refine HQ.keep [(2, _), (3, _), (4, _), (5, _)] ⟨rfl, rfl, rfl, rfl, trivial⟩ ?_
  refine HQ.rseq ?_
  refine HQ.pu Pu.move ⟨rfl, trivial⟩ rfl rfl rfl ?_
  refine HQ.pu Pu.move ⟨rfl, trivial⟩ rfl rfl rfl ?_
  obtain ⟨t7, h8, H⟩ := bnd H
  refine HQ.op [2] [3, 2] (OT.callM (us := [_]) (PreX := [Box b4 [.slice a_0 (List.length p0) c_0, .int .i64 t5.2.i, .int .i64 t5.2.h]]) (PreL := []) [.tmp 11] Try.call101 rfl rfl fun w FX FL hs1 hF1 hs2 hF2 hp => spec_l19Any_c (p0 := (⟨p0, t5.2.i, t5.2.h⟩ : TCur)) hs1 hF1 (hb_0.passY hp) h8) ⟨rfl, rfl, trivial⟩ ⟨rfl, trivial⟩ rfl rfl rfl rfl (fun _ => rfl) fun ⟨a9, c10⟩ => ?_
  refine HQ.pu Pu.assign ⟨rfl, trivial⟩ rfl rfl rfl ?_
  refine HQ.opN [1] [1] [] (OT.storeC (cs' := [.int .i64 t7.1.Seq, .int .i64 t7.1.Root, .int .i64 t7.1.Size, .slice a9 (List.length t7.1.Puts) c10]) sz57 rfl rfl rfl rfl rfl) ⟨rfl, rfl, trivial⟩ ⟨rfl, trivial⟩ rfl rfl rfl (fun _ => rfl) fun _ => ?_
  refine HQ.done ?_
  refine HQ.keep [(2, _), (3, _)] ⟨rfl, rfl, trivial⟩ ?_
  refine HQ.ret ?_
  obtain rfl := Option.some.inj H
  exact HQ.fin (vs := [_, _]) Try.results29 (a9, c10) ⟨rfl, ⟨_, _, 1, rfl, rfl, ag57, sz57, rfl⟩, trivial⟩ rfl [3] ⟨rfl, trivial⟩ rfl

/-! spec.DrawTxCells -/
theorem spec_DrawTxCells_c {w : World} {k : Nat} {p0 : (List Int)} {a_0 : Option Addr} {c_0 : Nat} (hb_0 : BorS kU8 a_0 c_0 p0 w.heap (Lt w Nil)) {r : Int × TTx} (H : spec_DrawTxCells k p0 = some r) :
    Calls Try.prog 63 #[.slice a_0 (List.length p0) c_0] w (Rt w Nil (fun g : Option Addr × Nat => .tuple #[.int .i64 r.1, .agg #[.int .i64 r.2.Seq, .int .i64 r.2.Root, .int .i64 r.2.Size, .slice g.1 (List.length r.2.Puts) g.2]]) (fun g => [OwnS kTChange g.1 g.2 r.2.Puts])) := by
  rw [spec_DrawTxCells] at H
  refine Calls.enter0 (N := 8) (us := [_]) Try.func63 rfl rfl rfl ?_
  refine HQ.rseq ?_
  refine HQ.pu Pu.assign ⟨rfl, trivial⟩ rfl rfl rfl ?_
  refine HQ.op [] [1] (OT.alloc zc57) trivial trivial rfl rfl rfl rfl (fun _ => rfl) fun b1 => ?_
  refine HQ.done ?_
  refine HQ.keep [(0, _), (2, _), (3, _)] ⟨rfl, rfl, rfl, trivial⟩ ?_
  refine HQ.rseq ?_
  refine HQ.pu Pu.move ⟨rfl, trivial⟩ rfl rfl rfl ?_
  obtain ⟨t2, h3, H⟩ := bnd H
  refine HQ.op [] [2] (OT.call (us := [_]) (Pre := []) [.tmp 4] Try.call29 rfl rfl fun w F hs hF hp => spec_DrawEndCell_c (hb_0.pass hp) h3) ⟨rfl, rfl, trivial⟩ trivial rfl rfl rfl rfl (fun _ => rfl) fun ⟨a4, c5⟩ => ?_
  refine HQ.pu (Pu.extract rfl) ⟨rfl, trivial⟩ rfl rfl rfl ?_
  refine HQ.pu (Pu.extract rfl) ⟨rfl, trivial⟩ rfl rfl rfl ?_
  refine HQ.pu Pu.assign ⟨rfl, trivial⟩ rfl rfl rfl ?_
  refine HQ.opN [1] [1] [] (OT.storeC (cs' := [.int .i64 t2.2.Seq, .int .i64 t2.2.Root, .int .i64 t2.2.Size, .slice a4 (List.length t2.2.Puts) c5]) sz57 rfl rfl rfl rfl rfl) ⟨rfl, rfl, trivial⟩ ⟨rfl, trivial⟩ rfl rfl rfl (fun _ => rfl) fun _ => ?_
  refine HQ.done ?_
  refine HQ.keep [(2, _), (3, _)] ⟨rfl, rfl, trivial⟩ ?_
  refine HQ.ret ?_
  obtain rfl := Option.some.inj H
  exact HQ.fin (vs := [_, _]) Try.results63 (a4, c5) ⟨rfl, ⟨_, _, 1, rfl, rfl, ag57, sz57, rfl⟩, trivial⟩ rfl [2] ⟨rfl, trivial⟩ rfl

end Go.Proofs.Sx
