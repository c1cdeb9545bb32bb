import Derived.Test.YtkhommmhkeohbaaQdF8
import Derived.KernelRfl
namespace Go.Proofs.Sx
open Go.RowKit
set_option linter.unusedVariables false
set_option linter.unusedSimpArgs false
set_option maxRecDepth 20000
set_option maxHeartbeats 1000000
/-! spec.GetEntry -/
theorem spec_GetEntry_c {w : World} {p0 : (List Int)} {p1 : Int} {a_0 : Option Addr} {c_0 : Nat} (hb_0 : BorS kU8 a_0 c_0 p0 w.heap (Lt w Nil)) {r : TEntry × Bool} (H : spec_GetEntry p0 p1 = some r) :
    Calls Try.prog 135 #[.slice a_0 (List.length p0) c_0, .int .i64 p1] w (Rt w Nil (fun _ : Unit => .tuple #[.agg #[.int .i64 r.1.N, .int .i64 r.1.R.X0, .int .i64 r.1.R.Y0, .int .i64 r.1.R.X1, .int .i64 r.1.R.Y1], .bool r.2]) (fun _ => [])) := by
  rw [spec_GetEntry] at H
  refine Calls.enter0 (N := 58) (us := [_, _]) Try.func135 rfl rfl rfl ?_
  refine HQ.rseq ?_
  refine HQ.op [] [1] (OT.alloc zc134) trivial trivial rfl rfl rfl rfl (fun _ => rfl) fun b1 => ?_
  refine HQ.pu Pu.assign ⟨rfl, trivial⟩ rfl rfl rfl ?_
  refine HQ.done ?_
  refine HQ.keep [(0, _), (1, _), (4, _), (5, _)] ⟨rfl, rfl, rfl, rfl, trivial⟩ ?_
  refine HQ.seq ?_
  refine HQ.rseq ?_
  refine HQ.pu Pu.move ⟨rfl, trivial⟩ rfl rfl rfl ?_
  refine HQ.pu Pu.lss ⟨rfl, rfl, trivial⟩ rfl rfl rfl ?_
  refine HQ.pu Pu.move ⟨rfl, trivial⟩ rfl rfl rfl ?_
  refine HQ.cutAt 6 [(17, .bool ((decide (p1 < 0)) || (decide (p1 > (wrap64 (((List.length p0 : Nat) : Int) - 6)))))), (0, .slice a_0 (List.length p0) c_0), (1, .int .i64 p1), (4, BP b1 0), (5, .bool false)] [(1, Box b1 [.int .i64 0, .int .i64 0, .int .i64 0, .int .i64 0, .int .i64 0])] ?_ ?_
  · rcases Bool.eq_false_or_eq_true (decide (p1 < 0)) with hg2 | hg2
    · refine HQ.off rfl rfl hg2 rfl ?_
      refine HQ.off rfl rfl hg2 rfl ?_
      refine HQ.off rfl rfl hg2 rfl ?_
      refine HQ.off rfl rfl hg2 rfl ?_
      refine HQ.off rfl rfl hg2 rfl ?_
      refine HQ.pu (Pu.pickOT (u := (decide (p1 > (wrap64 (((List.length p0 : Nat) : Int) - 6))))) hg2) ⟨rfl, rfl, trivial⟩ rfl rfl rfl ?_
      exact HQ.mid ⟨rfl, rfl, rfl, rfl, rfl, trivial⟩ ⟨rfl, trivial⟩ rfl
    · refine HQ.on rfl rfl hg2 ?_
      refine HQ.pu Pu.move ⟨rfl, trivial⟩ rfl rfl rfl ?_
      refine HQ.on rfl rfl hg2 ?_
      refine HQ.pu Pu.move ⟨rfl, trivial⟩ rfl rfl rfl ?_
      refine HQ.on rfl rfl hg2 ?_
      refine HQ.pu (Pu.len ul22) ⟨rfl, trivial⟩ rfl rfl rfl ?_
      refine HQ.on rfl rfl hg2 ?_
      refine HQ.pu Pu.sub ⟨rfl, rfl, trivial⟩ rfl rfl rfl ?_
      refine HQ.on rfl rfl hg2 ?_
      refine HQ.pu Pu.gtr ⟨rfl, rfl, trivial⟩ rfl rfl rfl ?_
      refine HQ.pu (Pu.pickOF hg2) ⟨rfl, rfl, trivial⟩ rfl rfl rfl ?_
      exact HQ.mid ⟨rfl, rfl, rfl, rfl, rfl, trivial⟩ ⟨rfl, trivial⟩ rfl
  refine HQ.done ?_
  refine HQ.keep [(17, _), (0, _), (1, _), (4, _), (5, _)] ⟨rfl, rfl, rfl, rfl, rfl, trivial⟩ ?_
  rcases brk H with ⟨hc, H⟩ | ⟨hc, H⟩
  · refine HQ.condT rfl hc ?_
    clear hc
    refine HQ.rseq ?_
    refine HQ.pu (Pu.build (us := []) (cs := [.int .i64 0, .int .i64 0, .int .i64 0, .int .i64 0, .int .i64 0]) [] st134 rfl rfl rfl) trivial rfl rfl rfl ?_
    refine HQ.opN [1] [1] [] (OT.storeC (cs' := [.int .i64 0, .int .i64 0, .int .i64 0, .int .i64 0, .int .i64 0]) sz134 rfl rfl rfl rfl rfl) ⟨rfl, rfl, trivial⟩ ⟨rfl, trivial⟩ rfl rfl rfl (fun _ => rfl) fun _ => ?_
    refine HQ.pu Pu.assign ⟨rfl, trivial⟩ rfl rfl rfl ?_
    refine HQ.done ?_
    refine HQ.keep [(0, _), (1, _), (4, _), (5, _)] ⟨rfl, rfl, rfl, rfl, trivial⟩ ?_
    refine HQ.ret ?_
    refine HQ.thenR ?_
    obtain rfl := Option.some.inj H
    exact HQ.fin (vs := [_, _]) Try.results135 () ⟨⟨_, _, 1, rfl, rfl, ag134, sz134, rfl⟩, rfl, trivial⟩ rfl [] trivial rfl
  · refine HQ.condF rfl hc ?_
    clear hc
    refine HQ.skipThen ?_
    refine HQ.rseq ?_
    refine HQ.pu Pu.move ⟨rfl, trivial⟩ rfl rfl rfl ?_
    refine HQ.pu Pu.move ⟨rfl, trivial⟩ rfl rfl rfl ?_
    obtain ⟨t3, h4, H⟩ := bnd H
    refine HQ.op [] [] (OT.call (us := [_, _]) (Pre := []) [.tmp 20, .tmp 21] Try.call113 rfl rfl fun w F hs hF hp => spec_Get2_c (hb_0.pass hp) h4) ⟨rfl, rfl, rfl, trivial⟩ trivial rfl rfl rfl rfl (fun _ => rfl) fun _ => ?_
    refine HQ.pu Pu.move ⟨rfl, trivial⟩ rfl rfl rfl ?_
    refine HQ.pu (Pu.extract rfl) ⟨rfl, trivial⟩ rfl rfl rfl ?_
    refine HQ.pu (Pu.extract rfl) ⟨rfl, trivial⟩ rfl rfl rfl ?_
    refine HQ.pu Pu.assign ⟨rfl, trivial⟩ rfl rfl rfl ?_
    refine HQ.pu Pu.assign ⟨rfl, trivial⟩ rfl rfl rfl ?_
    refine HQ.done ?_
    refine HQ.keep [(0, _), (1, _), (4, _), (5, _), (6, _)] ⟨rfl, rfl, rfl, rfl, rfl, trivial⟩ ?_
    obtain ⟨h6, H⟩ := asr H
    obtain ⟨h7, H⟩ := asr H
    obtain ⟨h8, H⟩ := asr H
    obtain ⟨h9, H⟩ := asr H
    refine HQ.drawS mixd [(0, .slice a_0 (List.length p0) c_0), (1, .int .i64 p1), (4, BP b1 0), (5, .bool false), (6, .int .i64 t3.1)] 28 [⟨[], [], []⟩, ⟨[], [], []⟩, ⟨[], [], []⟩, ⟨[], [], [2]⟩, ⟨[], [], [1, 3]⟩, ⟨[], [], [4]⟩, ⟨[], [], [5]⟩, ⟨[], [], []⟩, ⟨[], [], []⟩, ⟨[], [], [8]⟩, ⟨[], [], [7, 9]⟩, ⟨[], [], [10]⟩, ⟨[], [], [11]⟩, ⟨[], [], []⟩, ⟨[], [], []⟩, ⟨[], [], [14]⟩, ⟨[], [], [13, 15]⟩, ⟨[], [], [16]⟩, ⟨[], [], [17]⟩, ⟨[], [], []⟩, ⟨[], [], []⟩, ⟨[], [], [20]⟩, ⟨[], [], [19, 21]⟩, ⟨[], [], [22]⟩, ⟨[], [], [23]⟩, ⟨[], [], [6, 12, 18, 24]⟩, ⟨[], [], [0, 25]⟩, ⟨[], [0], []⟩] [⟨some 27, none⟩] (fun (g5 : Nat) => [.int .i64 t3.1, .slice a_0 (List.length p0) c_0, .int .i64 p1, .int .i64 (wrap64 (p1 + 2)), EP a_0 (wrap64 (p1 + 2)) 1 0, .int .u8 (gt p0 (wrap64 (p1 + 2))), .int .i64 (IntKind.i64.wrap (gt p0 (wrap64 (p1 + 2)))), .slice a_0 (List.length p0) c_0, .int .i64 p1, .int .i64 (wrap64 (p1 + 3)), EP a_0 (wrap64 (p1 + 3)) 1 0, .int .u8 (gt p0 (wrap64 (p1 + 3))), .int .i64 (IntKind.i64.wrap (gt p0 (wrap64 (p1 + 3)))), .slice a_0 (List.length p0) c_0, .int .i64 p1, .int .i64 (wrap64 (p1 + 4)), EP a_0 (wrap64 (p1 + 4)) 1 0, .int .u8 (gt p0 (wrap64 (p1 + 4))), .int .i64 (IntKind.i64.wrap (gt p0 (wrap64 (p1 + 4)))), .slice a_0 (List.length p0) c_0, .int .i64 p1, .int .i64 (wrap64 (p1 + 5)), EP a_0 (wrap64 (p1 + 5)) 1 0, .int .u8 (gt p0 (wrap64 (p1 + 5))), .int .i64 (IntKind.i64.wrap (gt p0 (wrap64 (p1 + 5)))), .agg #[.int .i64 (IntKind.i64.wrap (gt p0 (wrap64 (p1 + 2)))), .int .i64 (IntKind.i64.wrap (gt p0 (wrap64 (p1 + 3)))), .int .i64 (IntKind.i64.wrap (gt p0 (wrap64 (p1 + 4)))), .int .i64 (IntKind.i64.wrap (gt p0 (wrap64 (p1 + 5))))], .agg #[.int .i64 t3.1, .int .i64 (IntKind.i64.wrap (gt p0 (wrap64 (p1 + 2)))), .int .i64 (IntKind.i64.wrap (gt p0 (wrap64 (p1 + 3)))), .int .i64 (IntKind.i64.wrap (gt p0 (wrap64 (p1 + 4)))), .int .i64 (IntKind.i64.wrap (gt p0 (wrap64 (p1 + 5))))], BP g5 0]) (fun (g5 : Nat) => [Box g5 [.int .i64 0, .int .i64 0, .int .i64 0, .int .i64 0, .int .i64 0]]) 0 [] [2] [] ⟨rfl, rfl, rfl, rfl, rfl, trivial⟩ trivial rfl (by kernel_rfl) (fun _ => rfl) (by kernel_rfl) (fun _ => rfl) ⟨?_, ?_, ?_, ?_, ?_, ?_, ?_, ?_, ?_, ?_, ?_, ?_, ?_, ?_, ?_, ?_, ?_, ?_, ?_, ?_, ?_, ?_, ?_, ?_, ?_, ?_, ?_, ?_, trivial⟩ fun g5 => ?_
    · exact OpOK.of (fun g5 => [(.tmp 6, .int .i64 t3.1)]) _ _ (fun g5 _ => g5) rfl rfl (fun _ => ⟨rfl, trivial⟩) (fun g5 => Pu.toOT Pu.move) (fun _ _ => ⟨rfl, rfl, ⟨rfl, trivial⟩⟩)
    · exact OpOK.of (fun g5 => [(.tmp 0, .slice a_0 (List.length p0) c_0)]) _ _ (fun g5 _ => g5) rfl rfl (fun _ => ⟨rfl, trivial⟩) (fun g5 => Pu.toOT Pu.move) (fun _ _ => ⟨rfl, rfl, ⟨rfl, trivial⟩⟩)
    · exact OpOK.of (fun g5 => [(.tmp 1, .int .i64 p1)]) _ _ (fun g5 _ => g5) rfl rfl (fun _ => ⟨rfl, trivial⟩) (fun g5 => Pu.toOT Pu.move) (fun _ _ => ⟨rfl, rfl, ⟨rfl, trivial⟩⟩)
    · exact OpOK.of (fun g5 => [(.tmp 27, .int .i64 p1), (.const (.int .i64 2), .int .i64 2)]) _ _ (fun g5 _ => g5) rfl rfl (fun _ => ⟨rfl, rfl, trivial⟩) (fun g5 => Pu.toOT Pu.add) (fun _ _ => ⟨rfl, rfl, ⟨rfl, trivial⟩⟩)
    · exact OpOK.of (fun g5 => [(.tmp 26, .slice a_0 (List.length p0) c_0), (.tmp 28, .int .i64 (wrap64 (p1 + 2)))]) _ _ (fun g5 _ => g5) rfl rfl (fun _ => ⟨rfl, rfl, trivial⟩) (fun g5 => OT.indexB ul22 sz5 hb_0 h6) (fun _ _ => ⟨rfl, rfl, ⟨rfl, trivial⟩⟩)
    · exact OpOK.of (fun g5 => [(.tmp 29, EP a_0 (wrap64 (p1 + 2)) 1 0)]) _ _ (fun g5 _ => g5) rfl rfl (fun _ => ⟨rfl, trivial⟩) (fun g5 => OT.loadF sc5 hb_0 h6 rfl) (fun _ _ => ⟨rfl, rfl, ⟨rfl, trivial⟩⟩)
    · exact OpOK.of (fun g5 => [(.tmp 30, .int .u8 (gt p0 (wrap64 (p1 + 2))))]) _ _ (fun g5 _ => g5) rfl rfl (fun _ => ⟨rfl, trivial⟩) (fun g5 => Pu.toOT (Pu.conv ul5 ul3)) (fun _ _ => ⟨rfl, rfl, ⟨rfl, trivial⟩⟩)
    · exact OpOK.of (fun g5 => [(.tmp 0, .slice a_0 (List.length p0) c_0)]) _ _ (fun g5 _ => g5) rfl rfl (fun _ => ⟨rfl, trivial⟩) (fun g5 => Pu.toOT Pu.move) (fun _ _ => ⟨rfl, rfl, ⟨rfl, trivial⟩⟩)
    · exact OpOK.of (fun g5 => [(.tmp 1, .int .i64 p1)]) _ _ (fun g5 _ => g5) rfl rfl (fun _ => ⟨rfl, trivial⟩) (fun g5 => Pu.toOT Pu.move) (fun _ _ => ⟨rfl, rfl, ⟨rfl, trivial⟩⟩)
    · exact OpOK.of (fun g5 => [(.tmp 33, .int .i64 p1), (.const (.int .i64 3), .int .i64 3)]) _ _ (fun g5 _ => g5) rfl rfl (fun _ => ⟨rfl, rfl, trivial⟩) (fun g5 => Pu.toOT Pu.add) (fun _ _ => ⟨rfl, rfl, ⟨rfl, trivial⟩⟩)
    · exact OpOK.of (fun g5 => [(.tmp 32, .slice a_0 (List.length p0) c_0), (.tmp 34, .int .i64 (wrap64 (p1 + 3)))]) _ _ (fun g5 _ => g5) rfl rfl (fun _ => ⟨rfl, rfl, trivial⟩) (fun g5 => OT.indexB ul22 sz5 hb_0 h7) (fun _ _ => ⟨rfl, rfl, ⟨rfl, trivial⟩⟩)
    · exact OpOK.of (fun g5 => [(.tmp 35, EP a_0 (wrap64 (p1 + 3)) 1 0)]) _ _ (fun g5 _ => g5) rfl rfl (fun _ => ⟨rfl, trivial⟩) (fun g5 => OT.loadF sc5 hb_0 h7 rfl) (fun _ _ => ⟨rfl, rfl, ⟨rfl, trivial⟩⟩)
    · exact OpOK.of (fun g5 => [(.tmp 36, .int .u8 (gt p0 (wrap64 (p1 + 3))))]) _ _ (fun g5 _ => g5) rfl rfl (fun _ => ⟨rfl, trivial⟩) (fun g5 => Pu.toOT (Pu.conv ul5 ul3)) (fun _ _ => ⟨rfl, rfl, ⟨rfl, trivial⟩⟩)
    · exact OpOK.of (fun g5 => [(.tmp 0, .slice a_0 (List.length p0) c_0)]) _ _ (fun g5 _ => g5) rfl rfl (fun _ => ⟨rfl, trivial⟩) (fun g5 => Pu.toOT Pu.move) (fun _ _ => ⟨rfl, rfl, ⟨rfl, trivial⟩⟩)
    · exact OpOK.of (fun g5 => [(.tmp 1, .int .i64 p1)]) _ _ (fun g5 _ => g5) rfl rfl (fun _ => ⟨rfl, trivial⟩) (fun g5 => Pu.toOT Pu.move) (fun _ _ => ⟨rfl, rfl, ⟨rfl, trivial⟩⟩)
    · exact OpOK.of (fun g5 => [(.tmp 39, .int .i64 p1), (.const (.int .i64 4), .int .i64 4)]) _ _ (fun g5 _ => g5) rfl rfl (fun _ => ⟨rfl, rfl, trivial⟩) (fun g5 => Pu.toOT Pu.add) (fun _ _ => ⟨rfl, rfl, ⟨rfl, trivial⟩⟩)
    · exact OpOK.of (fun g5 => [(.tmp 38, .slice a_0 (List.length p0) c_0), (.tmp 40, .int .i64 (wrap64 (p1 + 4)))]) _ _ (fun g5 _ => g5) rfl rfl (fun _ => ⟨rfl, rfl, trivial⟩) (fun g5 => OT.indexB ul22 sz5 hb_0 h8) (fun _ _ => ⟨rfl, rfl, ⟨rfl, trivial⟩⟩)
    · exact OpOK.of (fun g5 => [(.tmp 41, EP a_0 (wrap64 (p1 + 4)) 1 0)]) _ _ (fun g5 _ => g5) rfl rfl (fun _ => ⟨rfl, trivial⟩) (fun g5 => OT.loadF sc5 hb_0 h8 rfl) (fun _ _ => ⟨rfl, rfl, ⟨rfl, trivial⟩⟩)
    · exact OpOK.of (fun g5 => [(.tmp 42, .int .u8 (gt p0 (wrap64 (p1 + 4))))]) _ _ (fun g5 _ => g5) rfl rfl (fun _ => ⟨rfl, trivial⟩) (fun g5 => Pu.toOT (Pu.conv ul5 ul3)) (fun _ _ => ⟨rfl, rfl, ⟨rfl, trivial⟩⟩)
    · exact OpOK.of (fun g5 => [(.tmp 0, .slice a_0 (List.length p0) c_0)]) _ _ (fun g5 _ => g5) rfl rfl (fun _ => ⟨rfl, trivial⟩) (fun g5 => Pu.toOT Pu.move) (fun _ _ => ⟨rfl, rfl, ⟨rfl, trivial⟩⟩)
    · exact OpOK.of (fun g5 => [(.tmp 1, .int .i64 p1)]) _ _ (fun g5 _ => g5) rfl rfl (fun _ => ⟨rfl, trivial⟩) (fun g5 => Pu.toOT Pu.move) (fun _ _ => ⟨rfl, rfl, ⟨rfl, trivial⟩⟩)
    · exact OpOK.of (fun g5 => [(.tmp 45, .int .i64 p1), (.const (.int .i64 5), .int .i64 5)]) _ _ (fun g5 _ => g5) rfl rfl (fun _ => ⟨rfl, rfl, trivial⟩) (fun g5 => Pu.toOT Pu.add) (fun _ _ => ⟨rfl, rfl, ⟨rfl, trivial⟩⟩)
    · exact OpOK.of (fun g5 => [(.tmp 44, .slice a_0 (List.length p0) c_0), (.tmp 46, .int .i64 (wrap64 (p1 + 5)))]) _ _ (fun g5 _ => g5) rfl rfl (fun _ => ⟨rfl, rfl, trivial⟩) (fun g5 => OT.indexB ul22 sz5 hb_0 h9) (fun _ _ => ⟨rfl, rfl, ⟨rfl, trivial⟩⟩)
    · exact OpOK.of (fun g5 => [(.tmp 47, EP a_0 (wrap64 (p1 + 5)) 1 0)]) _ _ (fun g5 _ => g5) rfl rfl (fun _ => ⟨rfl, trivial⟩) (fun g5 => OT.loadF sc5 hb_0 h9 rfl) (fun _ _ => ⟨rfl, rfl, ⟨rfl, trivial⟩⟩)
    · exact OpOK.of (fun g5 => [(.tmp 48, .int .u8 (gt p0 (wrap64 (p1 + 5))))]) _ _ (fun g5 _ => g5) rfl rfl (fun _ => ⟨rfl, trivial⟩) (fun g5 => Pu.toOT (Pu.conv ul5 ul3)) (fun _ _ => ⟨rfl, rfl, ⟨rfl, trivial⟩⟩)
    · exact OpOK.of (fun g5 => [(.tmp 31, .int .i64 (IntKind.i64.wrap (gt p0 (wrap64 (p1 + 2))))), (.tmp 37, .int .i64 (IntKind.i64.wrap (gt p0 (wrap64 (p1 + 3))))), (.tmp 43, .int .i64 (IntKind.i64.wrap (gt p0 (wrap64 (p1 + 4))))), (.tmp 49, .int .i64 (IntKind.i64.wrap (gt p0 (wrap64 (p1 + 5)))))]) _ _ (fun g5 _ => g5) rfl rfl (fun _ => ⟨rfl, rfl, rfl, rfl, trivial⟩) (fun g5 => Pu.toOT (Pu.build (us := [.int .i64 (IntKind.i64.wrap (gt p0 (wrap64 (p1 + 2)))), .int .i64 (IntKind.i64.wrap (gt p0 (wrap64 (p1 + 3)))), .int .i64 (IntKind.i64.wrap (gt p0 (wrap64 (p1 + 4)))), .int .i64 (IntKind.i64.wrap (gt p0 (wrap64 (p1 + 5))))]) (cs := [.int .i64 (IntKind.i64.wrap (gt p0 (wrap64 (p1 + 2)))), .int .i64 (IntKind.i64.wrap (gt p0 (wrap64 (p1 + 3)))), .int .i64 (IntKind.i64.wrap (gt p0 (wrap64 (p1 + 4)))), .int .i64 (IntKind.i64.wrap (gt p0 (wrap64 (p1 + 5))))]) [(0, .tmp 31), (1, .tmp 37), (2, .tmp 43), (3, .tmp 49)] st132 rfl rfl rfl)) (fun _ _ => ⟨rfl, rfl, ⟨rfl, trivial⟩⟩)
    · exact OpOK.of (fun g5 => [(.tmp 25, .int .i64 t3.1), (.tmp 50, .agg #[.int .i64 (IntKind.i64.wrap (gt p0 (wrap64 (p1 + 2)))), .int .i64 (IntKind.i64.wrap (gt p0 (wrap64 (p1 + 3)))), .int .i64 (IntKind.i64.wrap (gt p0 (wrap64 (p1 + 4)))), .int .i64 (IntKind.i64.wrap (gt p0 (wrap64 (p1 + 5))))])]) _ _ (fun g5 _ => g5) rfl rfl (fun _ => ⟨rfl, rfl, trivial⟩) (fun g5 => Pu.toOT (Pu.build (us := [.int .i64 t3.1, .agg #[.int .i64 (IntKind.i64.wrap (gt p0 (wrap64 (p1 + 2)))), .int .i64 (IntKind.i64.wrap (gt p0 (wrap64 (p1 + 3)))), .int .i64 (IntKind.i64.wrap (gt p0 (wrap64 (p1 + 4)))), .int .i64 (IntKind.i64.wrap (gt p0 (wrap64 (p1 + 5))))]]) (cs := [.int .i64 t3.1, .int .i64 (IntKind.i64.wrap (gt p0 (wrap64 (p1 + 2)))), .int .i64 (IntKind.i64.wrap (gt p0 (wrap64 (p1 + 3)))), .int .i64 (IntKind.i64.wrap (gt p0 (wrap64 (p1 + 4)))), .int .i64 (IntKind.i64.wrap (gt p0 (wrap64 (p1 + 5))))]) [(0, .tmp 25), (1, .tmp 50)] st134 rfl rfl rfl)) (fun _ _ => ⟨rfl, rfl, ⟨rfl, trivial⟩⟩)
    · exact OpOK.of (fun g5 => []) _ _ (fun g5 x => x) rfl rfl (fun _ => trivial) (fun g5 => OT.alloc zc134) (fun _ _ => ⟨rfl, rfl, ⟨rfl, trivial⟩⟩)
    refine HQ.keep [(4, _), (5, _), (51, _), (8, _)] ⟨rfl, rfl, rfl, rfl, trivial⟩ ?_
    refine HQ.keepR [(1, _), (2, _)] ⟨rfl, rfl, trivial⟩ rfl ?_
    refine HQ.opN [2] [2] [] (OT.storeC (cs' := [.int .i64 t3.1, .int .i64 (IntKind.i64.wrap (gt p0 (wrap64 (p1 + 2)))), .int .i64 (IntKind.i64.wrap (gt p0 (wrap64 (p1 + 3)))), .int .i64 (IntKind.i64.wrap (gt p0 (wrap64 (p1 + 4)))), .int .i64 (IntKind.i64.wrap (gt p0 (wrap64 (p1 + 5))))]) sz134 rfl rfl rfl rfl rfl) ⟨rfl, rfl, trivial⟩ ⟨rfl, trivial⟩ rfl rfl rfl (fun _ => rfl) fun _ => ?_
    refine HQ.done ?_
    refine HQ.keep [(4, _), (5, _), (8, _)] ⟨rfl, rfl, rfl, trivial⟩ ?_
    refine HQ.seq ?_
    refine HQ.rseq ?_
    refine HQ.pu (Pu.fieldB fo134_1 rfl) ⟨rfl, trivial⟩ rfl rfl rfl ?_
    refine HQ.op [2] [2] (OT.loadBA (vs := [.int .i64 (IntKind.i64.wrap (gt p0 (wrap64 (p1 + 2)))), .int .i64 (IntKind.i64.wrap (gt p0 (wrap64 (p1 + 3)))), .int .i64 (IntKind.i64.wrap (gt p0 (wrap64 (p1 + 4)))), .int .i64 (IntKind.i64.wrap (gt p0 (wrap64 (p1 + 5))))]) ag132 sz132 rfl rfl) ⟨rfl, trivial⟩ ⟨rfl, trivial⟩ rfl rfl rfl rfl (fun _ => rfl) fun _ => ?_
    obtain ⟨t11, h12, H⟩ := bnd H
    refine HQ.op [] [] (OT.call (us := [_]) (Pre := []) [.tmp 53] Try.call128 rfl rfl fun w F hs hF hp => spec_BoxOk_c h12) ⟨rfl, rfl, trivial⟩ trivial rfl rfl rfl rfl (fun _ => rfl) fun _ => ?_
    refine HQ.pu Pu.not ⟨rfl, trivial⟩ rfl rfl rfl ?_
    refine HQ.done ?_
    refine HQ.keep [(4, _), (5, _), (8, _), (55, _)] ⟨rfl, rfl, rfl, rfl, trivial⟩ ?_
    rcases brk H with ⟨hc, H⟩ | ⟨hc, H⟩
    · refine HQ.condT rfl hc ?_
      clear hc
      refine HQ.rseq ?_
      refine HQ.pu (Pu.build (us := []) (cs := [.int .i64 0, .int .i64 0, .int .i64 0, .int .i64 0, .int .i64 0]) [] st134 rfl rfl rfl) trivial rfl rfl rfl ?_
      refine HQ.opN [1] [1] [] (OT.storeC (cs' := [.int .i64 0, .int .i64 0, .int .i64 0, .int .i64 0, .int .i64 0]) sz134 rfl rfl rfl rfl rfl) ⟨rfl, rfl, trivial⟩ ⟨rfl, trivial⟩ rfl rfl rfl (fun _ => rfl) fun _ => ?_
      refine HQ.pu Pu.assign ⟨rfl, trivial⟩ rfl rfl rfl ?_
      refine HQ.done ?_
      refine HQ.keep [(4, _), (5, _), (8, _)] ⟨rfl, rfl, rfl, trivial⟩ ?_
      refine HQ.ret ?_
      refine HQ.thenR ?_
      obtain rfl := Option.some.inj H
      exact HQ.fin (vs := [_, _]) Try.results135 () ⟨⟨_, _, 1, rfl, rfl, ag134, sz134, rfl⟩, rfl, trivial⟩ rfl [] trivial rfl
    · refine HQ.condF rfl hc ?_
      clear hc
      refine HQ.skipThen ?_
      refine HQ.rseq ?_
      refine HQ.op [2] [2] (OT.loadBA (vs := [.int .i64 t3.1, .int .i64 (IntKind.i64.wrap (gt p0 (wrap64 (p1 + 2)))), .int .i64 (IntKind.i64.wrap (gt p0 (wrap64 (p1 + 3)))), .int .i64 (IntKind.i64.wrap (gt p0 (wrap64 (p1 + 4)))), .int .i64 (IntKind.i64.wrap (gt p0 (wrap64 (p1 + 5))))]) ag134 sz134 rfl rfl) ⟨rfl, trivial⟩ ⟨rfl, trivial⟩ rfl rfl rfl rfl (fun _ => rfl) fun _ => ?_
      refine HQ.opN [1] [1] [] (OT.storeC (cs' := [.int .i64 t3.1, .int .i64 (IntKind.i64.wrap (gt p0 (wrap64 (p1 + 2)))), .int .i64 (IntKind.i64.wrap (gt p0 (wrap64 (p1 + 3)))), .int .i64 (IntKind.i64.wrap (gt p0 (wrap64 (p1 + 4)))), .int .i64 (IntKind.i64.wrap (gt p0 (wrap64 (p1 + 5))))]) sz134 rfl rfl rfl rfl rfl) ⟨rfl, rfl, trivial⟩ ⟨rfl, trivial⟩ rfl rfl rfl (fun _ => rfl) fun _ => ?_
      refine HQ.pu Pu.assign ⟨rfl, trivial⟩ rfl rfl rfl ?_
      refine HQ.done ?_
      refine HQ.keep [(4, _), (5, _)] ⟨rfl, rfl, trivial⟩ ?_
      refine HQ.ret ?_
      obtain rfl := Option.some.inj H
      exact HQ.fin (vs := [_, _]) Try.results135 () ⟨⟨_, _, 1, rfl, rfl, ag134, sz134, rfl⟩, rfl, trivial⟩ rfl [] trivial rfl

/-! spec.l6Same -/
theorem spec_l6Same_c {w : World} {k : Nat} {p0 : (List Int)} {p1 : (List Int)} {a_0 : Option Addr} {c_0 : Nat} {a_1 : Option Addr} {c_1 : Nat} (hb_0 : BorS kU8 a_0 c_0 p0 w.heap (Lt w Nil)) (hb_1 : BorS kU8 a_1 c_1 p1 w.heap (Lt w Nil)) {r : Bool} (H : spec_l6Same k p0 p1 = some r) :
    Calls Try.prog 114 #[.slice a_0 (List.length p0) c_0, .slice a_1 (List.length p1) c_1] w (Rt w Nil (fun _ : Unit => .bool r) (fun _ => [])) := by
  rw [spec_l6Same] at H
  refine Calls.enter0 (N := 26) (us := [_, _]) Try.func114 rfl rfl rfl ?_
  refine HQ.rseq ?_
  refine HQ.pu Pu.assign ⟨rfl, trivial⟩ rfl rfl rfl ?_
  refine HQ.done ?_
  refine HQ.keep [(0, _), (1, _), (4, _)] ⟨rfl, rfl, rfl, trivial⟩ ?_
  refine HQ.seq ?_
  refine HQ.rseq ?_
  refine HQ.pu Pu.move ⟨rfl, trivial⟩ rfl rfl rfl ?_
  refine HQ.pu (Pu.len ul22) ⟨rfl, trivial⟩ rfl rfl rfl ?_
  refine HQ.pu Pu.move ⟨rfl, trivial⟩ rfl rfl rfl ?_
  refine HQ.pu (Pu.len ul22) ⟨rfl, trivial⟩ rfl rfl rfl ?_
  refine HQ.pu Pu.neq ⟨rfl, rfl, trivial⟩ rfl rfl rfl ?_
  refine HQ.done ?_
  refine HQ.keep [(0, _), (1, _), (4, _), (10, _)] ⟨rfl, rfl, rfl, rfl, trivial⟩ ?_
  rcases brk H with ⟨hc, H⟩ | ⟨hc, H⟩
  · refine HQ.condT rfl hc ?_
    clear hc
    refine HQ.rseq ?_
    refine HQ.pu Pu.assign ⟨rfl, trivial⟩ rfl rfl rfl ?_
    refine HQ.done ?_
    refine HQ.keep [(0, _), (1, _), (4, _)] ⟨rfl, rfl, rfl, trivial⟩ ?_
    refine HQ.ret ?_
    refine HQ.thenR ?_
    obtain rfl := Option.some.inj H
    exact HQ.fin (vs := [_]) Try.results114 () ⟨rfl, trivial⟩ rfl [] trivial rfl
  · refine HQ.condF rfl hc ?_
    clear hc
    refine HQ.skipThen ?_
    refine HQ.seq ?_
    refine HQ.rseq ?_
    refine HQ.pu Pu.assign ⟨rfl, trivial⟩ rfl rfl rfl ?_
    refine HQ.done ?_
    refine HQ.keep [(0, _), (1, _), (4, _), (5, _)] ⟨rfl, rfl, rfl, rfl, trivial⟩ ?_
    refine HQ.block ?_
    obtain ⟨o11, h13, H⟩ := bnd H
    refine HQ.loop h13 0 (fun (s : Int) (g : Unit) => match s, g with | i4, () => [(0, .slice a_0 (List.length p0) c_0), (1, .slice a_1 (List.length p1) c_1), (4, .bool false), (5, .int .i64 i4)]) (fun (s : Int) (g : Unit) => match s, g with | i4, () => []) (fun r => bodyPost Try.prog Try.f114 (Rt w Nil (fun _ : Unit => .bool r) (fun _ => [])) .ret) () ⟨rfl, rfl, rfl, rfl, trivial⟩ trivial rfl ?_ ?_ ?_
    · clear H h13
      rintro i4 _ o H
      rw [spec_l6Same_b0] at H
      refine HQ.keep [(0, _), (1, _), (4, _), (5, _)] ⟨rfl, rfl, rfl, rfl, trivial⟩ ?_
      refine HQ.keepR [] trivial rfl ?_
      refine HQ.seq ?_
      refine HQ.rseq ?_
      refine HQ.pu Pu.move ⟨rfl, trivial⟩ rfl rfl rfl ?_
      refine HQ.pu Pu.move ⟨rfl, trivial⟩ rfl rfl rfl ?_
      refine HQ.pu (Pu.len ul22) ⟨rfl, trivial⟩ rfl rfl rfl ?_
      refine HQ.pu Pu.lss ⟨rfl, rfl, trivial⟩ rfl rfl rfl ?_
      refine HQ.done ?_
      refine HQ.keep [(0, _), (1, _), (4, _), (5, _), (14, _)] ⟨rfl, rfl, rfl, rfl, rfl, trivial⟩ ?_
      rcases brk H with ⟨hc, H⟩ | ⟨hc, H⟩
      · refine HQ.condT rfl hc ?_
        clear hc
        refine HQ.skipThen ?_
        refine HQ.seq ?_
        refine HQ.block ?_
        obtain ⟨h9, H⟩ := asr H
        obtain ⟨h10, H⟩ := asr H
        refine HQ.drawS mixd [(0, .slice a_0 (List.length p0) c_0), (1, .slice a_1 (List.length p1) c_1), (4, .bool false), (5, .int .i64 i4)] 8 [⟨[], [], []⟩, ⟨[], [], []⟩, ⟨[], [], [0, 1]⟩, ⟨[], [], [2]⟩, ⟨[], [], []⟩, ⟨[], [], []⟩, ⟨[], [], [4, 5]⟩, ⟨[], [], [6]⟩] [] (fun (g8 : Unit) => [.slice a_0 (List.length p0) c_0, .int .i64 i4, EP a_0 i4 1 0, .int .u8 (gt p0 i4), .slice a_1 (List.length p1) c_1, .int .i64 i4, EP a_1 i4 1 0, .int .u8 (gt p1 i4)]) (fun (g8 : Unit) => []) () [] [] [] ⟨rfl, rfl, rfl, rfl, trivial⟩ trivial rfl (by kernel_rfl) (fun _ => rfl) (by kernel_rfl) (fun _ => rfl) ⟨?_, ?_, ?_, ?_, ?_, ?_, ?_, ?_, trivial⟩ fun g8 => ?_
        · exact OpOK.of (fun g8 => [(.tmp 0, .slice a_0 (List.length p0) c_0)]) _ _ (fun g8 _ => g8) rfl rfl (fun _ => ⟨rfl, trivial⟩) (fun g8 => Pu.toOT Pu.move) (fun _ _ => ⟨rfl, rfl, trivial⟩)
        · exact OpOK.of (fun g8 => [(.tmp 5, .int .i64 i4)]) _ _ (fun g8 _ => g8) rfl rfl (fun _ => ⟨rfl, trivial⟩) (fun g8 => Pu.toOT Pu.move) (fun _ _ => ⟨rfl, rfl, trivial⟩)
        · exact OpOK.of (fun g8 => [(.tmp 17, .slice a_0 (List.length p0) c_0), (.tmp 18, .int .i64 i4)]) _ _ (fun g8 _ => g8) rfl rfl (fun _ => ⟨rfl, rfl, trivial⟩) (fun g8 => OT.indexB ul22 sz5 hb_0 h9) (fun _ _ => ⟨rfl, rfl, trivial⟩)
        · exact OpOK.of (fun g8 => [(.tmp 19, EP a_0 i4 1 0)]) _ _ (fun g8 _ => g8) rfl rfl (fun _ => ⟨rfl, trivial⟩) (fun g8 => OT.loadF sc5 hb_0 h9 rfl) (fun _ _ => ⟨rfl, rfl, trivial⟩)
        · exact OpOK.of (fun g8 => [(.tmp 1, .slice a_1 (List.length p1) c_1)]) _ _ (fun g8 _ => g8) rfl rfl (fun _ => ⟨rfl, trivial⟩) (fun g8 => Pu.toOT Pu.move) (fun _ _ => ⟨rfl, rfl, trivial⟩)
        · exact OpOK.of (fun g8 => [(.tmp 5, .int .i64 i4)]) _ _ (fun g8 _ => g8) rfl rfl (fun _ => ⟨rfl, trivial⟩) (fun g8 => Pu.toOT Pu.move) (fun _ _ => ⟨rfl, rfl, trivial⟩)
        · exact OpOK.of (fun g8 => [(.tmp 21, .slice a_1 (List.length p1) c_1), (.tmp 22, .int .i64 i4)]) _ _ (fun g8 _ => g8) rfl rfl (fun _ => ⟨rfl, rfl, trivial⟩) (fun g8 => OT.indexB ul22 sz5 hb_1 h10) (fun _ _ => ⟨rfl, rfl, trivial⟩)
        · exact OpOK.of (fun g8 => [(.tmp 23, EP a_1 i4 1 0)]) _ _ (fun g8 _ => g8) rfl rfl (fun _ => ⟨rfl, trivial⟩) (fun g8 => OT.loadF sc5 hb_1 h10 rfl) (fun _ _ => ⟨rfl, rfl, trivial⟩)
        refine HQ.keep [(0, _), (1, _), (4, _), (5, _), (20, _), (24, _)] ⟨rfl, rfl, rfl, rfl, rfl, rfl, trivial⟩ ?_
        refine HQ.keepR [] trivial rfl ?_
        refine HQ.pu Pu.neq ⟨rfl, rfl, trivial⟩ rfl rfl rfl ?_
        refine HQ.done ?_
        refine HQ.keep [(0, _), (1, _), (4, _), (5, _), (25, _)] ⟨rfl, rfl, rfl, rfl, rfl, trivial⟩ ?_
        rcases brk H with ⟨hc, H⟩ | ⟨hc, H⟩
        · refine HQ.condT rfl hc ?_
          clear hc
          refine HQ.rseq ?_
          refine HQ.pu Pu.assign ⟨rfl, trivial⟩ rfl rfl rfl ?_
          refine HQ.done ?_
          refine HQ.keep [(0, _), (1, _), (4, _), (5, _)] ⟨rfl, rfl, rfl, rfl, trivial⟩ ?_
          refine HQ.ret ?_
          refine HQ.blkR ?_
          refine HQ.thenR ?_
          obtain rfl := Option.some.inj H
          refine HQ.retL ?_
          exact HQ.fin (vs := [_]) Try.results114 () ⟨rfl, trivial⟩ rfl [] trivial rfl
        · refine HQ.condF rfl hc ?_
          clear hc
          refine HQ.skip ?_
          refine HQ.blkN ?_
          refine HQ.thenN ?_
          refine HQ.regionQ ?_
          refine HQ.pu Pu.move ⟨rfl, trivial⟩ rfl rfl rfl ?_
          refine HQ.pu Pu.add ⟨rfl, rfl, trivial⟩ rfl rfl rfl ?_
          refine HQ.pu Pu.assign ⟨rfl, trivial⟩ rfl rfl rfl ?_
          refine HQ.done ?_
          refine HQ.keep [(0, _), (1, _), (4, _), (5, _)] ⟨rfl, rfl, rfl, rfl, trivial⟩ ?_
          obtain rfl := Option.some.inj H
          exact HQ.next () ⟨rfl, rfl, rfl, rfl, trivial⟩ trivial rfl
      · refine HQ.condF rfl hc ?_
        clear hc
        refine HQ.exit ?_
        refine HQ.thenE ?_
        obtain rfl := Option.some.inj H
        exact HQ.out () ⟨rfl, rfl, rfl, rfl, trivial⟩ trivial rfl
    · rintro i12 rfl _
      clear h13
      replace H := H
      refine HQ.keep [(0, _), (1, _), (4, _), (5, _)] ⟨rfl, rfl, rfl, rfl, trivial⟩ ?_
      refine HQ.keepR [] trivial rfl ?_
      refine HQ.blkE ?_
      refine HQ.thenN ?_
      refine HQ.rseq ?_
      refine HQ.pu Pu.assign ⟨rfl, trivial⟩ rfl rfl rfl ?_
      refine HQ.done ?_
      refine HQ.keep [(4, _)] ⟨rfl, trivial⟩ ?_
      refine HQ.ret ?_
      obtain rfl := Option.some.inj H
      exact HQ.fin (vs := [_]) Try.results114 () ⟨rfl, trivial⟩ rfl [] trivial rfl
    · rintro r rfl a w hr
      obtain rfl := Option.some.inj H
      exact hr

/-! spec.GetNode -/
theorem spec_GetNode_c {w : World} {k : Nat} {p0 : (List Int)} {a_0 : Option Addr} {c_0 : Nat} (hb_0 : BorS kU8 a_0 c_0 p0 w.heap (Lt w Nil)) {r : TNode × Bool} (H : spec_GetNode k p0 = some r) :
    Calls Try.prog 120 #[.slice a_0 (List.length p0) c_0] w (Rt w Nil (fun g : Option Addr × Nat => .tuple #[.agg #[.bool r.1.Leaf, .slice g.1 (List.length r.1.L) g.2], .bool r.2]) (fun g => [OwnS kTEntry g.1 g.2 r.1.L])) := by
  rw [spec_GetNode] at H
  refine Calls.enter0 (N := 56) (us := [_]) Try.func120 rfl rfl rfl ?_
  refine HQ.rseq ?_
  refine HQ.op [] [1] (OT.alloc zc47) trivial trivial rfl rfl rfl rfl (fun _ => rfl) fun b1 => ?_
  refine HQ.pu Pu.assign ⟨rfl, trivial⟩ rfl rfl rfl ?_
  refine HQ.done ?_
  refine HQ.keep [(0, _), (2, _), (3, _)] ⟨rfl, rfl, rfl, trivial⟩ ?_
  refine HQ.seq ?_
  refine HQ.rseq ?_
  refine HQ.pu Pu.move ⟨rfl, trivial⟩ rfl rfl rfl ?_
  refine HQ.pu (Pu.len ul22) ⟨rfl, trivial⟩ rfl rfl rfl ?_
  refine HQ.pu Pu.neq ⟨rfl, rfl, trivial⟩ rfl rfl rfl ?_
  refine HQ.done ?_
  refine HQ.keep [(0, _), (2, _), (3, _), (11, _)] ⟨rfl, rfl, rfl, rfl, trivial⟩ ?_
  rcases brk H with ⟨hc, H⟩ | ⟨hc, H⟩
  · refine HQ.condT rfl hc ?_
    clear hc
    refine HQ.rseq ?_
    refine HQ.pu (Pu.build (us := []) (cs := [.bool false, .slice none 0 0]) [] st47 rfl rfl rfl) trivial rfl rfl rfl ?_
    refine HQ.opN [1] [1] [] (OT.storeC (cs' := [.bool false, .slice none 0 0]) sz47 rfl rfl rfl rfl rfl) ⟨rfl, rfl, trivial⟩ ⟨rfl, trivial⟩ rfl rfl rfl (fun _ => rfl) fun _ => ?_
    refine HQ.pu Pu.assign ⟨rfl, trivial⟩ rfl rfl rfl ?_
    refine HQ.done ?_
    refine HQ.keep [(0, _), (2, _), (3, _)] ⟨rfl, rfl, rfl, trivial⟩ ?_
    refine HQ.ret ?_
    refine HQ.thenR ?_
    obtain rfl := Option.some.inj H
    refine HQ.nil kTEntry 2 rfl ?_
    exact HQ.fin (vs := [_, _]) Try.results120 (none, 0) ⟨⟨_, _, 1, rfl, rfl, ag47, sz47, rfl⟩, rfl, trivial⟩ rfl [2] ⟨rfl, trivial⟩ rfl
  · refine HQ.condF rfl hc ?_
    clear hc
    refine HQ.skipThen ?_
    refine HQ.rseq ?_
    refine HQ.pu Pu.move ⟨rfl, trivial⟩ rfl rfl rfl ?_
    obtain ⟨h2, H⟩ := asr H
    refine HQ.op [] [] (OT.indexB ul22 sz5 hb_0 h2) ⟨rfl, rfl, trivial⟩ trivial rfl rfl rfl rfl (fun _ => rfl) fun _ => ?_
    refine HQ.op [] [] (OT.loadF sc5 hb_0 h2 rfl) ⟨rfl, trivial⟩ trivial rfl rfl rfl rfl (fun _ => rfl) fun _ => ?_
    refine HQ.pu Pu.geq ⟨rfl, rfl, trivial⟩ rfl rfl rfl ?_
    refine HQ.pu (Pu.build (us := [.bool (decide ((gt p0 0) ≥ 16))]) (cs := [.bool (decide ((gt p0 0) ≥ 16)), .slice none 0 0]) [(0, .tmp 16)] st47 rfl rfl rfl) ⟨rfl, trivial⟩ rfl rfl rfl ?_
    refine HQ.op [] [3] (OT.alloc zc47) trivial trivial rfl rfl rfl rfl (fun _ => rfl) fun b3 => ?_
    refine HQ.opN [3] [3] [] (OT.storeC (cs' := [.bool (decide ((gt p0 0) ≥ 16)), .slice none 0 0]) sz47 rfl rfl rfl rfl rfl) ⟨rfl, rfl, trivial⟩ ⟨rfl, trivial⟩ rfl rfl rfl (fun _ => rfl) fun _ => ?_
    refine HQ.done ?_
    refine HQ.keep [(0, _), (2, _), (3, _), (4, _)] ⟨rfl, rfl, rfl, rfl, trivial⟩ ?_
    refine HQ.rseq ?_
    refine HQ.pu Pu.move ⟨rfl, trivial⟩ rfl rfl rfl ?_
    obtain ⟨h4, H⟩ := asr H
    refine HQ.op [] [] (OT.indexB ul22 sz5 hb_0 h4) ⟨rfl, rfl, trivial⟩ trivial rfl rfl rfl rfl (fun _ => rfl) fun _ => ?_
    refine HQ.op [] [] (OT.loadF sc5 hb_0 h4 rfl) ⟨rfl, trivial⟩ trivial rfl rfl rfl rfl (fun _ => rfl) fun _ => ?_
    refine HQ.pu (Pu.conv ul5 ul3) ⟨rfl, trivial⟩ rfl rfl rfl ?_
    refine HQ.pu (Pu.rem (by decide)) ⟨rfl, rfl, trivial⟩ rfl rfl rfl ?_
    refine HQ.pu Pu.assign ⟨rfl, trivial⟩ rfl rfl rfl ?_
    refine HQ.done ?_
    refine HQ.keep [(0, _), (2, _), (3, _), (4, _), (5, _)] ⟨rfl, rfl, rfl, rfl, rfl, trivial⟩ ?_
    refine HQ.seq ?_
    refine HQ.rseq ?_
    refine HQ.pu Pu.assign ⟨rfl, trivial⟩ rfl rfl rfl ?_
    refine HQ.done ?_
    refine HQ.keep [(0, _), (2, _), (3, _), (4, _), (5, _), (6, _)] ⟨rfl, rfl, rfl, rfl, rfl, rfl, trivial⟩ ?_
    refine HQ.block ?_
    refine HQ.nil kTEntry 7 rfl ?_
    obtain ⟨o36, h47, H⟩ := bnd H
    refine HQ.loop h47 0 (fun (s : Int × (List TEntry)) (g : Option Addr × Nat) => match s, g with | (i14, l15), (a16, c17) => [(0, .slice a_0 (List.length p0) c_0), (2, BP b1 0), (3, .bool false), (4, BP b3 0), (5, .int .i64 (Int.tmod (IntKind.i64.wrap (gt p0 0)) 16)), (6, .int .i64 i14)]) (fun (s : Int × (List TEntry)) (g : Option Addr × Nat) => match s, g with | (i14, l15), (a16, c17) => [(1, Box b1 [.bool false, .slice none 0 0]), (3, Box b3 [.bool (decide ((gt p0 0) ≥ 16)), .slice a16 (List.length l15) c17]), (7, OwnS kTEntry a16 c17 l15)]) (fun r => bodyPost Try.prog Try.f120 (Rt w Nil (fun g : Option Addr × Nat => .tuple #[.agg #[.bool r.1.Leaf, .slice g.1 (List.length r.1.L) g.2], .bool r.2]) (fun g => [OwnS kTEntry g.1 g.2 r.1.L])) .ret) (none, 0) ⟨rfl, rfl, rfl, rfl, rfl, rfl, trivial⟩ ⟨rfl, rfl, rfl, trivial⟩ rfl ?_ ?_ ?_
    · clear H h47
      rintro ⟨i14, l15⟩ ⟨a16, c17⟩ o H
      rw [spec_GetNode_b0] at H
      refine HQ.keep [(0, _), (2, _), (3, _), (4, _), (5, _), (6, _)] ⟨rfl, rfl, rfl, rfl, rfl, rfl, trivial⟩ ?_
      refine HQ.keepR [(1, _), (3, _), (7, _)] ⟨rfl, rfl, rfl, trivial⟩ rfl ?_
      refine HQ.seq ?_
      refine HQ.rseq ?_
      refine HQ.pu Pu.move ⟨rfl, trivial⟩ rfl rfl rfl ?_
      refine HQ.pu Pu.move ⟨rfl, trivial⟩ rfl rfl rfl ?_
      refine HQ.pu Pu.lss ⟨rfl, rfl, trivial⟩ rfl rfl rfl ?_
      refine HQ.pu Pu.move ⟨rfl, trivial⟩ rfl rfl rfl ?_
      refine HQ.cutAt 3 [(29, .bool ((decide (i14 < (Int.tmod (IntKind.i64.wrap (gt p0 0)) 16))) && (decide ((Int.tmod (IntKind.i64.wrap (gt p0 0)) 16) ≤ 4)))), (0, .slice a_0 (List.length p0) c_0), (2, BP b1 0), (3, .bool false), (4, BP b3 0), (5, .int .i64 (Int.tmod (IntKind.i64.wrap (gt p0 0)) 16)), (6, .int .i64 i14)] [(1, Box b1 [.bool false, .slice none 0 0]), (3, Box b3 [.bool (decide ((gt p0 0) ≥ 16)), .slice a16 (List.length l15) c17]), (7, OwnS kTEntry a16 c17 l15)] ?_ ?_
      · rcases Bool.eq_false_or_eq_true (decide (i14 < (Int.tmod (IntKind.i64.wrap (gt p0 0)) 16))) with hg27 | hg27
        · refine HQ.on rfl rfl hg27 ?_
          refine HQ.pu Pu.move ⟨rfl, trivial⟩ rfl rfl rfl ?_
          refine HQ.on rfl rfl hg27 ?_
          refine HQ.pu Pu.leq ⟨rfl, rfl, trivial⟩ rfl rfl rfl ?_
          refine HQ.pu (Pu.pickAT hg27) ⟨rfl, rfl, trivial⟩ rfl rfl rfl ?_
          exact HQ.mid ⟨rfl, rfl, rfl, rfl, rfl, rfl, rfl, trivial⟩ ⟨rfl, rfl, rfl, trivial⟩ rfl
        · refine HQ.off rfl rfl hg27 rfl ?_
          refine HQ.off rfl rfl hg27 rfl ?_
          refine HQ.pu (Pu.pickAF (u := (decide ((Int.tmod (IntKind.i64.wrap (gt p0 0)) 16) ≤ 4))) hg27) ⟨rfl, rfl, trivial⟩ rfl rfl rfl ?_
          exact HQ.mid ⟨rfl, rfl, rfl, rfl, rfl, rfl, rfl, trivial⟩ ⟨rfl, rfl, rfl, trivial⟩ rfl
      refine HQ.done ?_
      refine HQ.keep [(29, _), (0, _), (2, _), (3, _), (4, _), (5, _), (6, _)] ⟨rfl, rfl, rfl, rfl, rfl, rfl, rfl, trivial⟩ ?_
      rcases brk H with ⟨hc, H⟩ | ⟨hc, H⟩
      · refine HQ.condT rfl hc ?_
        clear hc
        refine HQ.skipThen ?_
        refine HQ.seq ?_
        refine HQ.block ?_
        refine HQ.rseq ?_
        refine HQ.pu Pu.move ⟨rfl, trivial⟩ rfl rfl rfl ?_
        refine HQ.pu Pu.move ⟨rfl, trivial⟩ rfl rfl rfl ?_
        refine HQ.pu Pu.mul ⟨rfl, rfl, trivial⟩ rfl rfl rfl ?_
        refine HQ.pu Pu.add ⟨rfl, rfl, trivial⟩ rfl rfl rfl ?_
        obtain ⟨t28, h29, H⟩ := bnd H
        refine HQ.op [] [] (OT.call (us := [_, _]) (Pre := []) [.tmp 33, .tmp 36] Try.call135 rfl rfl fun w F hs hF hp => spec_GetEntry_c (hb_0.pass hp) h29) ⟨rfl, rfl, rfl, trivial⟩ trivial rfl rfl rfl rfl (fun _ => rfl) fun _ => ?_
        refine HQ.pu Pu.move ⟨rfl, trivial⟩ rfl rfl rfl ?_
        refine HQ.pu (Pu.extract rfl) ⟨rfl, trivial⟩ rfl rfl rfl ?_
        refine HQ.pu (Pu.extract rfl) ⟨rfl, trivial⟩ rfl rfl rfl ?_
        refine HQ.op [] [10] (OT.alloc zc134) trivial trivial rfl rfl rfl rfl (fun _ => rfl) fun b30 => ?_
        refine HQ.opN [10] [10] [] (OT.storeC (cs' := [.int .i64 t28.1.N, .int .i64 t28.1.R.X0, .int .i64 t28.1.R.Y0, .int .i64 t28.1.R.X1, .int .i64 t28.1.R.Y1]) sz134 rfl rfl rfl rfl rfl) ⟨rfl, rfl, trivial⟩ ⟨rfl, trivial⟩ rfl rfl rfl (fun _ => rfl) fun _ => ?_
        refine HQ.pu Pu.assign ⟨rfl, trivial⟩ rfl rfl rfl ?_
        refine HQ.done ?_
        refine HQ.keep [(0, _), (2, _), (3, _), (4, _), (5, _), (6, _), (7, _), (8, _)] ⟨rfl, rfl, rfl, rfl, rfl, rfl, rfl, rfl, trivial⟩ ?_
        refine HQ.seq ?_
        refine HQ.rseq ?_
        refine HQ.pu Pu.move ⟨rfl, trivial⟩ rfl rfl rfl ?_
        refine HQ.pu Pu.not ⟨rfl, trivial⟩ rfl rfl rfl ?_
        refine HQ.done ?_
        refine HQ.keep [(0, _), (2, _), (3, _), (4, _), (5, _), (6, _), (7, _), (41, _)] ⟨rfl, rfl, rfl, rfl, rfl, rfl, rfl, rfl, trivial⟩ ?_
        rcases brk H with ⟨hc, H⟩ | ⟨hc, H⟩
        · refine HQ.condT rfl hc ?_
          clear hc
          refine HQ.rseq ?_
          refine HQ.pu (Pu.build (us := []) (cs := [.bool false, .slice none 0 0]) [] st47 rfl rfl rfl) trivial rfl rfl rfl ?_
          refine HQ.opN [1] [1] [] (OT.storeC (cs' := [.bool false, .slice none 0 0]) sz47 rfl rfl rfl rfl rfl) ⟨rfl, rfl, trivial⟩ ⟨rfl, trivial⟩ rfl rfl rfl (fun _ => rfl) fun _ => ?_
          refine HQ.pu Pu.assign ⟨rfl, trivial⟩ rfl rfl rfl ?_
          refine HQ.done ?_
          refine HQ.keep [(0, _), (2, _), (3, _), (4, _), (5, _), (6, _), (7, _)] ⟨rfl, rfl, rfl, rfl, rfl, rfl, rfl, trivial⟩ ?_
          refine HQ.ret ?_
          refine HQ.thenR ?_
          refine HQ.blkR ?_
          refine HQ.thenR ?_
          obtain rfl := Option.some.inj H
          refine HQ.nil kTEntry 11 rfl ?_
          refine HQ.retL ?_
          exact HQ.fin (vs := [_, _]) Try.results120 (none, 0) ⟨⟨_, _, 1, rfl, rfl, ag47, sz47, rfl⟩, rfl, trivial⟩ rfl [11] ⟨rfl, trivial⟩ rfl
        · refine HQ.condF rfl hc ?_
          clear hc
          refine HQ.skipThen ?_
          refine HQ.regionQ ?_
          refine HQ.pu (Pu.fieldB fo47_1 rfl) ⟨rfl, trivial⟩ rfl rfl rfl ?_
          refine HQ.op [3] [3] (OT.loadB sc45 rfl) ⟨rfl, trivial⟩ ⟨rfl, trivial⟩ rfl rfl rfl rfl (fun _ => rfl) fun _ => ?_
          refine HQ.op [10] [10] (OT.loadBA (vs := [.int .i64 t28.1.N, .int .i64 t28.1.R.X0, .int .i64 t28.1.R.Y0, .int .i64 t28.1.R.X1, .int .i64 t28.1.R.Y1]) ag134 sz134 rfl rfl) ⟨rfl, trivial⟩ ⟨rfl, trivial⟩ rfl rfl rfl rfl (fun _ => rfl) fun _ => ?_
          refine HQ.op [] [12] (OT.buildF (us := [.agg #[.int .i64 t28.1.N, .int .i64 t28.1.R.X0, .int .i64 t28.1.R.Y0, .int .i64 t28.1.R.X1, .int .i64 t28.1.R.Y1]]) (ys := ([t28.1] : (List TEntry))) (enc := encTEntry) (hl := fun _ => ⟨rfl, rfl⟩) [.tmp 45] sl45.ul sl45.szE sl45.zc rfl rfl rfl rfl rfl) ⟨rfl, trivial⟩ trivial rfl rfl rfl rfl (fun _ => rfl) fun ⟨a31, c32⟩ => ?_
          obtain ⟨h35, H⟩ := asr H
          refine HQ.op [7, 12] [7, 12] (OT.appendG (enc := encTEntry) (hl := fun _ => ⟨rfl, rfl⟩) sl45 ul45 h35) ⟨rfl, rfl, trivial⟩ ⟨rfl, rfl, trivial⟩ rfl rfl rfl rfl (fun _ => rfl) fun ⟨a33, c34⟩ => ?_
          refine HQ.pu (Pu.fieldB fo47_1 rfl) ⟨rfl, trivial⟩ rfl rfl rfl ?_
          refine HQ.opN [3] [3] [] (OT.storeC (cs' := [.bool (decide ((gt p0 0) ≥ 16)), .slice a33 (List.length (l15 ++ ([t28.1] : (List TEntry)))) c34]) sz45 rfl rfl rfl rfl rfl) ⟨rfl, rfl, trivial⟩ ⟨rfl, trivial⟩ rfl rfl rfl (fun _ => rfl) fun _ => ?_
          refine HQ.done ?_
          refine HQ.keep [(0, _), (2, _), (3, _), (4, _), (5, _), (6, _)] ⟨rfl, rfl, rfl, rfl, rfl, rfl, trivial⟩ ?_
          refine HQ.blkN ?_
          refine HQ.thenN ?_
          refine HQ.regionQ ?_
          refine HQ.pu Pu.move ⟨rfl, trivial⟩ rfl rfl rfl ?_
          refine HQ.pu Pu.add ⟨rfl, rfl, trivial⟩ rfl rfl rfl ?_
          refine HQ.pu Pu.assign ⟨rfl, trivial⟩ rfl rfl rfl ?_
          refine HQ.done ?_
          refine HQ.keep [(0, _), (2, _), (3, _), (4, _), (5, _), (6, _)] ⟨rfl, rfl, rfl, rfl, rfl, rfl, trivial⟩ ?_
          obtain rfl := Option.some.inj H
          exact HQ.next (a33, c34) ⟨rfl, rfl, rfl, rfl, rfl, rfl, trivial⟩ ⟨rfl, rfl, rfl, trivial⟩ rfl
      · refine HQ.condF rfl hc ?_
        clear hc
        refine HQ.exit ?_
        refine HQ.thenE ?_
        obtain rfl := Option.some.inj H
        exact HQ.out (a16, c17) ⟨rfl, rfl, rfl, rfl, rfl, rfl, trivial⟩ ⟨rfl, rfl, rfl, trivial⟩ rfl
    · rintro ⟨i37, l38⟩ rfl ⟨a39, c40⟩
      clear h47
      replace H := H
      refine HQ.keep [(0, _), (2, _), (3, _), (4, _), (5, _), (6, _)] ⟨rfl, rfl, rfl, rfl, rfl, rfl, trivial⟩ ?_
      refine HQ.keepR [(1, _), (3, _), (7, _)] ⟨rfl, rfl, rfl, trivial⟩ rfl ?_
      refine HQ.blkE ?_
      refine HQ.thenN ?_
      refine HQ.seq ?_
      refine HQ.rseq ?_
      refine HQ.op [3] [3] (OT.loadBA (vs := [.bool (decide ((gt p0 0) ≥ 16)), .slice a39 (List.length l38) c40]) ag47 sz47 rfl rfl) ⟨rfl, trivial⟩ ⟨rfl, trivial⟩ rfl rfl rfl rfl (fun _ => rfl) fun _ => ?_
      obtain ⟨t41, h42, H⟩ := bnd H
      refine HQ.op [7] [13, 7] (OT.call (us := [_]) (Pre := [OwnS kTEntry a39 c40 l38]) [.tmp 49] Try.call107 rfl rfl fun w F hs hF hp => spec_PutNode_c (hs.lend hF 0 rfl) h42) ⟨rfl, rfl, trivial⟩ ⟨rfl, trivial⟩ rfl rfl rfl rfl (fun _ => rfl) fun ⟨a43, c44⟩ => ?_
      refine HQ.pu Pu.move ⟨rfl, trivial⟩ rfl rfl rfl ?_
      obtain ⟨t45, h46, H⟩ := bnd H
      refine HQ.op [13] [13] (OT.call (us := [_, _]) (Pre := [OwnS kU8 a43 c44 t41]) [.tmp 50, .tmp 51] Try.call114 rfl rfl fun w F hs hF hp => spec_l6Same_c (hs.lend hF 0 rfl) (hb_0.pass hp) h46) ⟨rfl, rfl, rfl, trivial⟩ ⟨rfl, trivial⟩ rfl rfl rfl rfl (fun _ => rfl) fun _ => ?_
      refine HQ.pu Pu.not ⟨rfl, trivial⟩ rfl rfl rfl ?_
      refine HQ.done ?_
      refine HQ.keep [(2, _), (3, _), (4, _), (53, _)] ⟨rfl, rfl, rfl, rfl, trivial⟩ ?_
      rcases brk H with ⟨hc, H⟩ | ⟨hc, H⟩
      · refine HQ.condT rfl hc ?_
        clear hc
        refine HQ.rseq ?_
        refine HQ.pu (Pu.build (us := []) (cs := [.bool false, .slice none 0 0]) [] st47 rfl rfl rfl) trivial rfl rfl rfl ?_
        refine HQ.opN [1] [1] [] (OT.storeC (cs' := [.bool false, .slice none 0 0]) sz47 rfl rfl rfl rfl rfl) ⟨rfl, rfl, trivial⟩ ⟨rfl, trivial⟩ rfl rfl rfl (fun _ => rfl) fun _ => ?_
        refine HQ.pu Pu.assign ⟨rfl, trivial⟩ rfl rfl rfl ?_
        refine HQ.done ?_
        refine HQ.keep [(2, _), (3, _), (4, _)] ⟨rfl, rfl, rfl, trivial⟩ ?_
        refine HQ.ret ?_
        refine HQ.thenR ?_
        obtain rfl := Option.some.inj H
        refine HQ.nil kTEntry 14 rfl ?_
        exact HQ.fin (vs := [_, _]) Try.results120 (none, 0) ⟨⟨_, _, 1, rfl, rfl, ag47, sz47, rfl⟩, rfl, trivial⟩ rfl [14] ⟨rfl, trivial⟩ rfl
      · refine HQ.condF rfl hc ?_
        clear hc
        refine HQ.skipThen ?_
        refine HQ.rseq ?_
        refine HQ.op [3] [3] (OT.loadBA (vs := [.bool (decide ((gt p0 0) ≥ 16)), .slice a39 (List.length l38) c40]) ag47 sz47 rfl rfl) ⟨rfl, trivial⟩ ⟨rfl, trivial⟩ rfl rfl rfl rfl (fun _ => rfl) fun _ => ?_
        refine HQ.opN [1] [1] [] (OT.storeC (cs' := [.bool (decide ((gt p0 0) ≥ 16)), .slice a39 (List.length l38) c40]) sz47 rfl rfl rfl rfl rfl) ⟨rfl, rfl, trivial⟩ ⟨rfl, trivial⟩ rfl rfl rfl (fun _ => rfl) fun _ => ?_
        refine HQ.pu Pu.assign ⟨rfl, trivial⟩ rfl rfl rfl ?_
        refine HQ.done ?_
        refine HQ.keep [(2, _), (3, _)] ⟨rfl, rfl, trivial⟩ ?_
        refine HQ.ret ?_
        obtain rfl := Option.some.inj H
        exact HQ.fin (vs := [_, _]) Try.results120 (a39, c40) ⟨⟨_, _, 1, rfl, rfl, ag47, sz47, rfl⟩, rfl, trivial⟩ rfl [7] ⟨rfl, trivial⟩ rfl
    · rintro r rfl a w hr
      obtain rfl := Option.some.inj H
      exact hr

/-! spec.GetPut -/
theorem spec_GetPut_c {w : World} {k : Nat} {p0 : Int} {p1 : (List Int)} {a_0 : Option Addr} {c_0 : Nat} (hb_0 : BorS kU8 a_0 c_0 p1 w.heap (Lt w Nil)) {r : TChange × Bool} (H : spec_GetPut k p0 p1 = some r) :
    Calls Try.prog 60 #[.int .i64 p0, .slice a_0 (List.length p1) c_0] w (Rt w Nil (fun g : Option Addr × Nat => .tuple #[.agg #[.int .i64 r.1.Page, .bool r.1.N.Leaf, .slice g.1 (List.length r.1.N.L) g.2], .bool r.2]) (fun g => [OwnS kTEntry g.1 g.2 r.1.N.L])) := by
  rw [spec_GetPut] at H
  refine Calls.enter0 (N := 38) (us := [_, _]) Try.func60 rfl rfl rfl ?_
  refine HQ.rseq ?_
  refine HQ.op [] [1] (OT.alloc zc49) trivial trivial rfl rfl rfl rfl (fun _ => rfl) fun b1 => ?_
  refine HQ.pu Pu.assign ⟨rfl, trivial⟩ rfl rfl rfl ?_
  refine HQ.done ?_
  refine HQ.keep [(0, _), (1, _), (4, _), (5, _)] ⟨rfl, rfl, rfl, rfl, trivial⟩ ?_
  refine HQ.seq ?_
  refine HQ.rseq ?_
  refine HQ.pu Pu.move ⟨rfl, trivial⟩ rfl rfl rfl ?_
  refine HQ.pu (Pu.len ul22) ⟨rfl, trivial⟩ rfl rfl rfl ?_
  refine HQ.pu Pu.neq ⟨rfl, rfl, trivial⟩ rfl rfl rfl ?_
  refine HQ.done ?_
  refine HQ.keep [(0, _), (1, _), (4, _), (5, _), (11, _)] ⟨rfl, rfl, rfl, rfl, rfl, trivial⟩ ?_
  rcases brk H with ⟨hc, H⟩ | ⟨hc, H⟩
  · refine HQ.condT rfl hc ?_
    clear hc
    refine HQ.rseq ?_
    refine HQ.pu (Pu.build (us := []) (cs := [.int .i64 0, .bool false, .slice none 0 0]) [] st49 rfl rfl rfl) trivial rfl rfl rfl ?_
    refine HQ.opN [1] [1] [] (OT.storeC (cs' := [.int .i64 0, .bool false, .slice none 0 0]) sz49 rfl rfl rfl rfl rfl) ⟨rfl, rfl, trivial⟩ ⟨rfl, trivial⟩ rfl rfl rfl (fun _ => rfl) fun _ => ?_
    refine HQ.pu Pu.assign ⟨rfl, trivial⟩ rfl rfl rfl ?_
    refine HQ.done ?_
    refine HQ.keep [(0, _), (1, _), (4, _), (5, _)] ⟨rfl, rfl, rfl, rfl, trivial⟩ ?_
    refine HQ.ret ?_
    refine HQ.thenR ?_
    obtain rfl := Option.some.inj H
    refine HQ.nil kTEntry 2 rfl ?_
    exact HQ.fin (vs := [_, _]) Try.results60 (none, 0) ⟨⟨_, _, 1, rfl, rfl, ag49, sz49, rfl⟩, rfl, trivial⟩ rfl [2] ⟨rfl, trivial⟩ rfl
  · refine HQ.condF rfl hc ?_
    clear hc
    refine HQ.skipThen ?_
    refine HQ.rseq ?_
    refine HQ.pu Pu.move ⟨rfl, trivial⟩ rfl rfl rfl ?_
    obtain ⟨h2, H⟩ := asr H
    refine HQ.op [] [] (OT.cutB (vs := [(.const (.int .i64 4), .int .i64 4), (.const (.int .i64 29), .int .i64 29)]) (l := 4) (h := 29) ul22 sz5 hb_0 (.inr ⟨_, _, rfl, .tail _ (.head _)⟩) (.inr ⟨_, _, rfl, .tail _ (.tail _ (.head _))⟩) h2) ⟨rfl, rfl, rfl, trivial⟩ trivial rfl rfl rfl rfl (fun _ => rfl) fun _ => ?_
    obtain ⟨t3, h4, H⟩ := bnd H
    refine HQ.op [] [3] (OT.call (us := [_]) (Pre := []) [.tmp 15] Try.call120 rfl rfl fun w F hs hF hp => spec_GetNode_c ((hb_0.slice h2).pass hp) h4) ⟨rfl, rfl, trivial⟩ trivial rfl rfl rfl rfl (fun _ => rfl) fun ⟨a5, c6⟩ => ?_
    refine HQ.pu Pu.move ⟨rfl, trivial⟩ rfl rfl rfl ?_
    refine HQ.pu (Pu.extract rfl) ⟨rfl, trivial⟩ rfl rfl rfl ?_
    refine HQ.pu (Pu.extract rfl) ⟨rfl, trivial⟩ rfl rfl rfl ?_
    refine HQ.op [] [4] (OT.alloc zc47) trivial trivial rfl rfl rfl rfl (fun _ => rfl) fun b7 => ?_
    refine HQ.opN [4] [4] [] (OT.storeC (cs' := [.bool t3.1.Leaf, .slice a5 (List.length t3.1.L) c6]) sz47 rfl rfl rfl rfl rfl) ⟨rfl, rfl, trivial⟩ ⟨rfl, trivial⟩ rfl rfl rfl (fun _ => rfl) fun _ => ?_
    refine HQ.pu Pu.assign ⟨rfl, trivial⟩ rfl rfl rfl ?_
    refine HQ.done ?_
    refine HQ.keep [(0, _), (1, _), (4, _), (5, _), (6, _), (7, _)] ⟨rfl, rfl, rfl, rfl, rfl, rfl, trivial⟩ ?_
    obtain ⟨h9, H⟩ := asr H
    refine HQ.drawS mixd [(0, .int .i64 p0), (1, .slice a_0 (List.length p1) c_0), (4, BP b1 0), (5, .bool false), (6, BP b7 0), (7, .bool t3.2)] 7 [⟨[], [], []⟩, ⟨[], [], [0]⟩, ⟨[], [], [1]⟩, ⟨[], [], [2]⟩, ⟨[0], [0], []⟩, ⟨[], [], [3, 4]⟩, ⟨[], [1], []⟩] [⟨none, none⟩, ⟨some 6, none⟩] (fun (g8 : Nat) => [.slice a_0 (List.length p1) c_0, EP a_0 3 1 0, .int .u8 (gt p1 3), .int .i64 (IntKind.i64.wrap (gt p1 3)), .agg #[.bool t3.1.Leaf, .slice a5 (List.length t3.1.L) c6], .agg #[.int .i64 (IntKind.i64.wrap (gt p1 3)), .bool t3.1.Leaf, .slice a5 (List.length t3.1.L) c6], BP g8 0]) (fun (g8 : Nat) => [Box b7 [.bool t3.1.Leaf, .slice a5 (List.length t3.1.L) c6], Box g8 [.int .i64 0, .bool false, .slice none 0 0]]) 0 [4] [4, 5] [] ⟨rfl, rfl, rfl, rfl, rfl, rfl, trivial⟩ ⟨rfl, trivial⟩ rfl (by kernel_rfl) (fun _ => rfl) (by kernel_rfl) (fun _ => rfl) ⟨?_, ?_, ?_, ?_, ?_, ?_, ?_, trivial⟩ fun g8 => ?_
    · exact OpOK.of (fun g8 => [(.tmp 1, .slice a_0 (List.length p1) c_0)]) _ _ (fun g8 _ => g8) rfl rfl (fun _ => ⟨rfl, trivial⟩) (fun g8 => Pu.toOT Pu.move) (fun _ _ => ⟨rfl, rfl, ⟨rfl, rfl, trivial⟩⟩)
    · exact OpOK.of (fun g8 => [(.tmp 19, .slice a_0 (List.length p1) c_0), (.const (.int .i64 3), .int .i64 3)]) _ _ (fun g8 _ => g8) rfl rfl (fun _ => ⟨rfl, rfl, trivial⟩) (fun g8 => OT.indexB ul22 sz5 hb_0 h9) (fun _ _ => ⟨rfl, rfl, ⟨rfl, rfl, trivial⟩⟩)
    · exact OpOK.of (fun g8 => [(.tmp 20, EP a_0 3 1 0)]) _ _ (fun g8 _ => g8) rfl rfl (fun _ => ⟨rfl, trivial⟩) (fun g8 => OT.loadF sc5 hb_0 h9 rfl) (fun _ _ => ⟨rfl, rfl, ⟨rfl, rfl, trivial⟩⟩)
    · exact OpOK.of (fun g8 => [(.tmp 21, .int .u8 (gt p1 3))]) _ _ (fun g8 _ => g8) rfl rfl (fun _ => ⟨rfl, trivial⟩) (fun g8 => Pu.toOT (Pu.conv ul5 ul3)) (fun _ _ => ⟨rfl, rfl, ⟨rfl, rfl, trivial⟩⟩)
    · exact OpOK.of (fun g8 => [(.tmp 6, BP b7 0)]) _ _ (fun g8 _ => g8) rfl rfl (fun _ => ⟨rfl, trivial⟩) (fun g8 => OT.loadBA (vs := [.bool t3.1.Leaf, .slice a5 (List.length t3.1.L) c6]) ag47 sz47 rfl rfl) (fun _ _ => ⟨rfl, rfl, ⟨rfl, rfl, trivial⟩⟩)
    · exact OpOK.of (fun g8 => [(.tmp 22, .int .i64 (IntKind.i64.wrap (gt p1 3))), (.tmp 23, .agg #[.bool t3.1.Leaf, .slice a5 (List.length t3.1.L) c6])]) _ _ (fun g8 _ => g8) rfl rfl (fun _ => ⟨rfl, rfl, trivial⟩) (fun g8 => Pu.toOT (Pu.build (us := [.int .i64 (IntKind.i64.wrap (gt p1 3)), .agg #[.bool t3.1.Leaf, .slice a5 (List.length t3.1.L) c6]]) (cs := [.int .i64 (IntKind.i64.wrap (gt p1 3)), .bool t3.1.Leaf, .slice a5 (List.length t3.1.L) c6]) [(0, .tmp 22), (1, .tmp 23)] st49 rfl rfl rfl)) (fun _ _ => ⟨rfl, rfl, ⟨rfl, rfl, trivial⟩⟩)
    · exact OpOK.of (fun g8 => []) _ _ (fun g8 x => x) rfl rfl (fun _ => trivial) (fun g8 => OT.alloc zc49) (fun _ _ => ⟨rfl, rfl, ⟨rfl, rfl, trivial⟩⟩)
    refine HQ.keep [(0, _), (1, _), (4, _), (5, _), (7, _), (24, _), (8, _)] ⟨rfl, rfl, rfl, rfl, rfl, rfl, rfl, trivial⟩ ?_
    refine HQ.keepR [(1, _), (3, _), (4, _), (5, _)] ⟨rfl, rfl, rfl, rfl, trivial⟩ rfl ?_
    refine HQ.opN [5] [5] [] (OT.storeC (cs' := [.int .i64 (IntKind.i64.wrap (gt p1 3)), .bool t3.1.Leaf, .slice a5 (List.length t3.1.L) c6]) sz49 rfl rfl rfl rfl rfl) ⟨rfl, rfl, trivial⟩ ⟨rfl, trivial⟩ rfl rfl rfl (fun _ => rfl) fun _ => ?_
    refine HQ.done ?_
    refine HQ.keep [(0, _), (1, _), (4, _), (5, _), (7, _), (8, _)] ⟨rfl, rfl, rfl, rfl, rfl, rfl, trivial⟩ ?_
    refine HQ.seq ?_
    refine HQ.rseq ?_
    refine HQ.pu Pu.move ⟨rfl, trivial⟩ rfl rfl rfl ?_
    refine HQ.pu Pu.not ⟨rfl, trivial⟩ rfl rfl rfl ?_
    refine HQ.pu Pu.move ⟨rfl, trivial⟩ rfl rfl rfl ?_
    obtain ⟨c22, h23, H⟩ := bnd H
    refine HQ.cutAt 8 [(35, .bool c22), (4, BP b1 0), (5, .bool false), (8, BP g8 0)] [(1, Box b1 [.int .i64 0, .bool false, .slice none 0 0]), (3, OwnS kTEntry a5 c6 t3.1.L), (4, Box b7 [.bool t3.1.Leaf, .slice a5 (List.length t3.1.L) c6]), (5, Box g8 [.int .i64 (IntKind.i64.wrap (gt p1 3)), .bool t3.1.Leaf, .slice a5 (List.length t3.1.L) c6])] ?_ ?_
    · clear H
      have H := h23
      rcases brk H with ⟨hg11, H⟩ | ⟨hg11, H⟩
      · obtain rfl := Option.some.inj H
        refine HQ.off rfl rfl hg11 rfl ?_
        refine HQ.off rfl rfl hg11 rfl ?_
        refine HQ.off rfl rfl hg11 rfl ?_
        refine HQ.off rfl rfl hg11 rfl ?_
        refine HQ.off rfl rfl hg11 rfl ?_
        refine HQ.off rfl rfl hg11 rfl ?_
        refine HQ.off rfl rfl hg11 rfl ?_
        refine HQ.pu (Pu.pickC1 hg11) ⟨rfl, rfl, trivial⟩ rfl rfl rfl ?_
        exact HQ.mid ⟨rfl, rfl, rfl, rfl, trivial⟩ ⟨rfl, rfl, rfl, rfl, trivial⟩ rfl
      · refine HQ.on rfl rfl hg11 ?_
        refine HQ.pu Pu.move ⟨rfl, trivial⟩ rfl rfl rfl ?_
        refine HQ.on rfl rfl hg11 ?_
        refine HQ.op [5] [5] (OT.loadBA (vs := [.int .i64 (IntKind.i64.wrap (gt p1 3)), .bool t3.1.Leaf, .slice a5 (List.length t3.1.L) c6]) ag49 sz49 rfl rfl) ⟨rfl, trivial⟩ ⟨rfl, trivial⟩ rfl rfl rfl rfl (fun _ => rfl) fun _ => ?_
        refine HQ.on rfl rfl hg11 ?_
        obtain ⟨t12, h13, H⟩ := bnd H
        refine HQ.op [3] [6, 3] (OT.call (us := [_, _]) (Pre := [OwnS kTEntry a5 c6 t3.1.L]) [.tmp 28, .tmp 29] Try.call33 rfl rfl fun w F hs hF hp => spec_PutCell_c (hs.lend hF 0 rfl) h13) ⟨rfl, rfl, rfl, trivial⟩ ⟨rfl, trivial⟩ rfl rfl rfl rfl (fun _ => rfl) fun ⟨a14, c15⟩ => ?_
        refine HQ.on rfl rfl hg11 ?_
        obtain ⟨t16, h17, H⟩ := bnd H
        refine HQ.op [6] [7, 6] (OT.call (us := [_, _]) (Pre := [OwnS kU8 a14 c15 t12]) [.tmp 30, .const (.int .i64 32)] Try.call92 rfl rfl fun w F hs hF hp => spec_Pad_c (hs.lend hF 0 rfl) h17) ⟨rfl, rfl, rfl, trivial⟩ ⟨rfl, trivial⟩ rfl rfl rfl rfl (fun _ => rfl) fun ⟨a18, c19⟩ => ?_
        refine HQ.on rfl rfl hg11 ?_
        refine HQ.pu Pu.move ⟨rfl, trivial⟩ rfl rfl rfl ?_
        refine HQ.on rfl rfl hg11 ?_
        obtain ⟨t20, h21, H⟩ := bnd H
        refine HQ.op [7] [7] (OT.call (us := [_, _]) (Pre := [OwnS kU8 a18 c19 t16]) [.tmp 31, .tmp 32] Try.call114 rfl rfl fun w F hs hF hp => spec_l6Same_c (hs.lend hF 0 rfl) (hb_0.pass hp) h21) ⟨rfl, rfl, rfl, trivial⟩ ⟨rfl, trivial⟩ rfl rfl rfl rfl (fun _ => rfl) fun _ => ?_
        refine HQ.on rfl rfl hg11 ?_
        refine HQ.pu Pu.not ⟨rfl, trivial⟩ rfl rfl rfl ?_
        obtain rfl := Option.some.inj H
        refine HQ.pu (Pu.pickC0 hg11) ⟨rfl, rfl, trivial⟩ rfl rfl rfl ?_
        exact HQ.mid ⟨rfl, rfl, rfl, rfl, trivial⟩ ⟨rfl, rfl, rfl, rfl, trivial⟩ rfl
    refine HQ.done ?_
    refine HQ.keep [(35, _), (4, _), (5, _), (8, _)] ⟨rfl, rfl, rfl, rfl, trivial⟩ ?_
    rcases brk H with ⟨hc, H⟩ | ⟨hc, H⟩
    · refine HQ.condT rfl hc ?_
      clear hc
      refine HQ.rseq ?_
      refine HQ.pu (Pu.build (us := []) (cs := [.int .i64 0, .bool false, .slice none 0 0]) [] st49 rfl rfl rfl) trivial rfl rfl rfl ?_
      refine HQ.opN [1] [1] [] (OT.storeC (cs' := [.int .i64 0, .bool false, .slice none 0 0]) sz49 rfl rfl rfl rfl rfl) ⟨rfl, rfl, trivial⟩ ⟨rfl, trivial⟩ rfl rfl rfl (fun _ => rfl) fun _ => ?_
      refine HQ.pu Pu.assign ⟨rfl, trivial⟩ rfl rfl rfl ?_
      refine HQ.done ?_
      refine HQ.keep [(4, _), (5, _), (8, _)] ⟨rfl, rfl, rfl, trivial⟩ ?_
      refine HQ.ret ?_
      refine HQ.thenR ?_
      obtain rfl := Option.some.inj H
      refine HQ.nil kTEntry 8 rfl ?_
      exact HQ.fin (vs := [_, _]) Try.results60 (none, 0) ⟨⟨_, _, 1, rfl, rfl, ag49, sz49, rfl⟩, rfl, trivial⟩ rfl [8] ⟨rfl, trivial⟩ rfl
    · refine HQ.condF rfl hc ?_
      clear hc
      refine HQ.skipThen ?_
      refine HQ.rseq ?_
      refine HQ.op [5] [5] (OT.loadBA (vs := [.int .i64 (IntKind.i64.wrap (gt p1 3)), .bool t3.1.Leaf, .slice a5 (List.length t3.1.L) c6]) ag49 sz49 rfl rfl) ⟨rfl, trivial⟩ ⟨rfl, trivial⟩ rfl rfl rfl rfl (fun _ => rfl) fun _ => ?_
      refine HQ.opN [1] [1] [] (OT.storeC (cs' := [.int .i64 (IntKind.i64.wrap (gt p1 3)), .bool t3.1.Leaf, .slice a5 (List.length t3.1.L) c6]) sz49 rfl rfl rfl rfl rfl) ⟨rfl, rfl, trivial⟩ ⟨rfl, trivial⟩ rfl rfl rfl (fun _ => rfl) fun _ => ?_
      refine HQ.pu Pu.assign ⟨rfl, trivial⟩ rfl rfl rfl ?_
      refine HQ.done ?_
      refine HQ.keep [(4, _), (5, _)] ⟨rfl, rfl, trivial⟩ ?_
      refine HQ.ret ?_
      obtain rfl := Option.some.inj H
      exact HQ.fin (vs := [_, _]) Try.results60 (a5, c6) ⟨⟨_, _, 1, rfl, rfl, ag49, sz49, rfl⟩, rfl, trivial⟩ rfl [3] ⟨rfl, trivial⟩ rfl

end Go.Proofs.Sx
