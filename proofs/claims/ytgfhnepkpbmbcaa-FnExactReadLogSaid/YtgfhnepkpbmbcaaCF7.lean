import Derived.Test.YtgfhnepkpbmbcaaCF6
import Derived.KernelRfl
namespace Go.Proofs.Sx
open Go.RowKit
set_option linter.unusedVariables false
set_option linter.unusedSimpArgs false
set_option maxRecDepth 20000
set_option maxHeartbeats 1000000
/-! impl.GetEntry -/
theorem impl_GetEntry_c {w : World} {p0 : (List Int)} {p1 : Int} {a_0 : Option Addr} {c_0 : Nat} (hb_0 : BorS kU8 a_0 c_0 p0 w.heap (Lt w Nil)) {r : TEntry × Bool} (H : impl_GetEntry p0 p1 = some r) :
    Calls Try.prog 167 #[.slice a_0 (List.length p0) c_0, .int .i64 p1] w (Rt w Nil (fun _ : Unit => .tuple #[.agg #[.int .i64 r.1.N, .int .i64 r.1.R.X0, .int .i64 r.1.R.Y0, .int .i64 r.1.R.X1, .int .i64 r.1.R.Y1], .bool r.2]) (fun _ => [])) := by
  rw [impl_GetEntry] at H
  refine Calls.enter0 (N := 58) (us := [_, _]) Try.func167 rfl rfl rfl ?_
  refine HQ.rseq ?_
  refine HQ.op [] [1] (OT.alloc zc196) trivial trivial rfl rfl rfl rfl (fun _ => rfl) fun b1 => ?_
  refine HQ.pu Pu.assign ⟨rfl, trivial⟩ rfl rfl rfl ?_
  refine HQ.done ?_
  refine HQ.keep [(0, _), (1, _), (4, _), (5, _)] ⟨rfl, rfl, rfl, rfl, trivial⟩ ?_
  refine HQ.seq ?_
  refine HQ.rseq ?_
  refine HQ.pu Pu.move ⟨rfl, trivial⟩ rfl rfl rfl ?_
  refine HQ.pu Pu.lss ⟨rfl, rfl, trivial⟩ rfl rfl rfl ?_
  refine HQ.pu Pu.move ⟨rfl, trivial⟩ rfl rfl rfl ?_
  refine HQ.cutAt 6 [(17, .bool ((decide (p1 < 0)) || (decide (p1 > (wrap64 (((List.length p0 : Nat) : Int) - 6)))))), (0, .slice a_0 (List.length p0) c_0), (1, .int .i64 p1), (4, BP b1 0), (5, .bool false)] [(1, Box b1 [.int .i64 0, .int .i64 0, .int .i64 0, .int .i64 0, .int .i64 0])] ?_ ?_
  · rcases Bool.eq_false_or_eq_true (decide (p1 < 0)) with hg2 | hg2
    · refine HQ.off rfl rfl hg2 rfl ?_
      refine HQ.off rfl rfl hg2 rfl ?_
      refine HQ.off rfl rfl hg2 rfl ?_
      refine HQ.off rfl rfl hg2 rfl ?_
      refine HQ.off rfl rfl hg2 rfl ?_
      refine HQ.pu (Pu.pickOT (u := (decide (p1 > (wrap64 (((List.length p0 : Nat) : Int) - 6))))) hg2) ⟨rfl, rfl, trivial⟩ rfl rfl rfl ?_
      exact HQ.mid ⟨rfl, rfl, rfl, rfl, rfl, trivial⟩ ⟨rfl, trivial⟩ rfl
    · refine HQ.on rfl rfl hg2 ?_
      refine HQ.pu Pu.move ⟨rfl, trivial⟩ rfl rfl rfl ?_
      refine HQ.on rfl rfl hg2 ?_
      refine HQ.pu Pu.move ⟨rfl, trivial⟩ rfl rfl rfl ?_
      refine HQ.on rfl rfl hg2 ?_
      refine HQ.pu (Pu.len ul37) ⟨rfl, trivial⟩ rfl rfl rfl ?_
      refine HQ.on rfl rfl hg2 ?_
      refine HQ.pu Pu.sub ⟨rfl, rfl, trivial⟩ rfl rfl rfl ?_
      refine HQ.on rfl rfl hg2 ?_
      refine HQ.pu Pu.gtr ⟨rfl, rfl, trivial⟩ rfl rfl rfl ?_
      refine HQ.pu (Pu.pickOF hg2) ⟨rfl, rfl, trivial⟩ rfl rfl rfl ?_
      exact HQ.mid ⟨rfl, rfl, rfl, rfl, rfl, trivial⟩ ⟨rfl, trivial⟩ rfl
  refine HQ.done ?_
  refine HQ.keep [(17, _), (0, _), (1, _), (4, _), (5, _)] ⟨rfl, rfl, rfl, rfl, rfl, trivial⟩ ?_
  rcases brk H with ⟨hc, H⟩ | ⟨hc, H⟩
  · refine HQ.condT rfl hc ?_
    clear hc
    refine HQ.rseq ?_
    refine HQ.pu (Pu.build (us := []) (cs := [.int .i64 0, .int .i64 0, .int .i64 0, .int .i64 0, .int .i64 0]) [] st196 rfl rfl rfl) trivial rfl rfl rfl ?_
    refine HQ.opN [1] [1] [] (OT.storeC (cs' := [.int .i64 0, .int .i64 0, .int .i64 0, .int .i64 0, .int .i64 0]) sz196 rfl rfl rfl rfl rfl) ⟨rfl, rfl, trivial⟩ ⟨rfl, trivial⟩ rfl rfl rfl (fun _ => rfl) fun _ => ?_
    refine HQ.pu Pu.assign ⟨rfl, trivial⟩ rfl rfl rfl ?_
    refine HQ.done ?_
    refine HQ.keep [(0, _), (1, _), (4, _), (5, _)] ⟨rfl, rfl, rfl, rfl, trivial⟩ ?_
    refine HQ.ret ?_
    refine HQ.thenR ?_
    obtain rfl := Option.some.inj H
    exact HQ.fin (vs := [_, _]) Try.results167 () ⟨⟨_, _, 1, rfl, rfl, ag196, sz196, rfl⟩, rfl, trivial⟩ rfl [] trivial rfl
  · refine HQ.condF rfl hc ?_
    clear hc
    refine HQ.skipThen ?_
    refine HQ.rseq ?_
    refine HQ.pu Pu.move ⟨rfl, trivial⟩ rfl rfl rfl ?_
    refine HQ.pu Pu.move ⟨rfl, trivial⟩ rfl rfl rfl ?_
    obtain ⟨t3, h4, H⟩ := bnd H
    refine HQ.op [] [] (OT.call (us := [_, _]) (Pre := []) [.tmp 20, .tmp 21] Try.call164 rfl rfl fun w F hs hF hp => impl_Get2_c (hb_0.pass hp) h4) ⟨rfl, rfl, rfl, trivial⟩ trivial rfl rfl rfl rfl (fun _ => rfl) fun _ => ?_
    refine HQ.pu Pu.move ⟨rfl, trivial⟩ rfl rfl rfl ?_
    refine HQ.pu (Pu.extract rfl) ⟨rfl, trivial⟩ rfl rfl rfl ?_
    refine HQ.pu (Pu.extract rfl) ⟨rfl, trivial⟩ rfl rfl rfl ?_
    refine HQ.pu Pu.assign ⟨rfl, trivial⟩ rfl rfl rfl ?_
    refine HQ.pu Pu.assign ⟨rfl, trivial⟩ rfl rfl rfl ?_
    refine HQ.done ?_
    refine HQ.keep [(0, _), (1, _), (4, _), (5, _), (6, _)] ⟨rfl, rfl, rfl, rfl, rfl, trivial⟩ ?_
    obtain ⟨h6, H⟩ := asr H
    obtain ⟨h7, H⟩ := asr H
    obtain ⟨h8, H⟩ := asr H
    obtain ⟨h9, H⟩ := asr H
    refine HQ.drawS mixd [(0, .slice a_0 (List.length p0) c_0), (1, .int .i64 p1), (4, BP b1 0), (5, .bool false), (6, .int .i64 t3.1)] 28 [⟨[], [], []⟩, ⟨[], [], []⟩, ⟨[], [], []⟩, ⟨[], [], [2]⟩, ⟨[], [], [1, 3]⟩, ⟨[], [], [4]⟩, ⟨[], [], [5]⟩, ⟨[], [], []⟩, ⟨[], [], []⟩, ⟨[], [], [8]⟩, ⟨[], [], [7, 9]⟩, ⟨[], [], [10]⟩, ⟨[], [], [11]⟩, ⟨[], [], []⟩, ⟨[], [], []⟩, ⟨[], [], [14]⟩, ⟨[], [], [13, 15]⟩, ⟨[], [], [16]⟩, ⟨[], [], [17]⟩, ⟨[], [], []⟩, ⟨[], [], []⟩, ⟨[], [], [20]⟩, ⟨[], [], [19, 21]⟩, ⟨[], [], [22]⟩, ⟨[], [], [23]⟩, ⟨[], [], [6, 12, 18, 24]⟩, ⟨[], [], [0, 25]⟩, ⟨[], [0], []⟩] [⟨some 27, none⟩] (fun (g5 : Nat) => [.int .i64 t3.1, .slice a_0 (List.length p0) c_0, .int .i64 p1, .int .i64 (wrap64 (p1 + 2)), EP a_0 (wrap64 (p1 + 2)) 1 0, .int .u8 (gt p0 (wrap64 (p1 + 2))), .int .i64 (IntKind.i64.wrap (gt p0 (wrap64 (p1 + 2)))), .slice a_0 (List.length p0) c_0, .int .i64 p1, .int .i64 (wrap64 (p1 + 3)), EP a_0 (wrap64 (p1 + 3)) 1 0, .int .u8 (gt p0 (wrap64 (p1 + 3))), .int .i64 (IntKind.i64.wrap (gt p0 (wrap64 (p1 + 3)))), .slice a_0 (List.length p0) c_0, .int .i64 p1, .int .i64 (wrap64 (p1 + 4)), EP a_0 (wrap64 (p1 + 4)) 1 0, .int .u8 (gt p0 (wrap64 (p1 + 4))), .int .i64 (IntKind.i64.wrap (gt p0 (wrap64 (p1 + 4)))), .slice a_0 (List.length p0) c_0, .int .i64 p1, .int .i64 (wrap64 (p1 + 5)), EP a_0 (wrap64 (p1 + 5)) 1 0, .int .u8 (gt p0 (wrap64 (p1 + 5))), .int .i64 (IntKind.i64.wrap (gt p0 (wrap64 (p1 + 5)))), .agg #[.int .i64 (IntKind.i64.wrap (gt p0 (wrap64 (p1 + 2)))), .int .i64 (IntKind.i64.wrap (gt p0 (wrap64 (p1 + 3)))), .int .i64 (IntKind.i64.wrap (gt p0 (wrap64 (p1 + 4)))), .int .i64 (IntKind.i64.wrap (gt p0 (wrap64 (p1 + 5))))], .agg #[.int .i64 t3.1, .int .i64 (IntKind.i64.wrap (gt p0 (wrap64 (p1 + 2)))), .int .i64 (IntKind.i64.wrap (gt p0 (wrap64 (p1 + 3)))), .int .i64 (IntKind.i64.wrap (gt p0 (wrap64 (p1 + 4)))), .int .i64 (IntKind.i64.wrap (gt p0 (wrap64 (p1 + 5))))], BP g5 0]) (fun (g5 : Nat) => [Box g5 [.int .i64 0, .int .i64 0, .int .i64 0, .int .i64 0, .int .i64 0]]) 0 [] [2] [] ⟨rfl, rfl, rfl, rfl, rfl, trivial⟩ trivial rfl (by kernel_rfl) (fun _ => rfl) (by kernel_rfl) (fun _ => rfl) ⟨?_, ?_, ?_, ?_, ?_, ?_, ?_, ?_, ?_, ?_, ?_, ?_, ?_, ?_, ?_, ?_, ?_, ?_, ?_, ?_, ?_, ?_, ?_, ?_, ?_, ?_, ?_, ?_, trivial⟩ fun g5 => ?_
    · exact OpOK.of (fun g5 => [(.tmp 6, .int .i64 t3.1)]) _ _ (fun g5 _ => g5) rfl rfl (fun _ => ⟨rfl, trivial⟩) (fun g5 => Pu.toOT Pu.move) (fun _ _ => ⟨rfl, rfl, ⟨rfl, trivial⟩⟩)
    · exact OpOK.of (fun g5 => [(.tmp 0, .slice a_0 (List.length p0) c_0)]) _ _ (fun g5 _ => g5) rfl rfl (fun _ => ⟨rfl, trivial⟩) (fun g5 => Pu.toOT Pu.move) (fun _ _ => ⟨rfl, rfl, ⟨rfl, trivial⟩⟩)
    · exact OpOK.of (fun g5 => [(.tmp 1, .int .i64 p1)]) _ _ (fun g5 _ => g5) rfl rfl (fun _ => ⟨rfl, trivial⟩) (fun g5 => Pu.toOT Pu.move) (fun _ _ => ⟨rfl, rfl, ⟨rfl, trivial⟩⟩)
    · exact OpOK.of (fun g5 => [(.tmp 27, .int .i64 p1), (.const (.int .i64 2), .int .i64 2)]) _ _ (fun g5 _ => g5) rfl rfl (fun _ => ⟨rfl, rfl, trivial⟩) (fun g5 => Pu.toOT Pu.add) (fun _ _ => ⟨rfl, rfl, ⟨rfl, trivial⟩⟩)
    · exact OpOK.of (fun g5 => [(.tmp 26, .slice a_0 (List.length p0) c_0), (.tmp 28, .int .i64 (wrap64 (p1 + 2)))]) _ _ (fun g5 _ => g5) rfl rfl (fun _ => ⟨rfl, rfl, trivial⟩) (fun g5 => OT.indexB ul37 sz5 hb_0 h6) (fun _ _ => ⟨rfl, rfl, ⟨rfl, trivial⟩⟩)
    · exact OpOK.of (fun g5 => [(.tmp 29, EP a_0 (wrap64 (p1 + 2)) 1 0)]) _ _ (fun g5 _ => g5) rfl rfl (fun _ => ⟨rfl, trivial⟩) (fun g5 => OT.loadF sc5 hb_0 h6 rfl) (fun _ _ => ⟨rfl, rfl, ⟨rfl, trivial⟩⟩)
    · exact OpOK.of (fun g5 => [(.tmp 30, .int .u8 (gt p0 (wrap64 (p1 + 2))))]) _ _ (fun g5 _ => g5) rfl rfl (fun _ => ⟨rfl, trivial⟩) (fun g5 => Pu.toOT (Pu.conv ul5 ul3)) (fun _ _ => ⟨rfl, rfl, ⟨rfl, trivial⟩⟩)
    · exact OpOK.of (fun g5 => [(.tmp 0, .slice a_0 (List.length p0) c_0)]) _ _ (fun g5 _ => g5) rfl rfl (fun _ => ⟨rfl, trivial⟩) (fun g5 => Pu.toOT Pu.move) (fun _ _ => ⟨rfl, rfl, ⟨rfl, trivial⟩⟩)
    · exact OpOK.of (fun g5 => [(.tmp 1, .int .i64 p1)]) _ _ (fun g5 _ => g5) rfl rfl (fun _ => ⟨rfl, trivial⟩) (fun g5 => Pu.toOT Pu.move) (fun _ _ => ⟨rfl, rfl, ⟨rfl, trivial⟩⟩)
    · exact OpOK.of (fun g5 => [(.tmp 33, .int .i64 p1), (.const (.int .i64 3), .int .i64 3)]) _ _ (fun g5 _ => g5) rfl rfl (fun _ => ⟨rfl, rfl, trivial⟩) (fun g5 => Pu.toOT Pu.add) (fun _ _ => ⟨rfl, rfl, ⟨rfl, trivial⟩⟩)
    · exact OpOK.of (fun g5 => [(.tmp 32, .slice a_0 (List.length p0) c_0), (.tmp 34, .int .i64 (wrap64 (p1 + 3)))]) _ _ (fun g5 _ => g5) rfl rfl (fun _ => ⟨rfl, rfl, trivial⟩) (fun g5 => OT.indexB ul37 sz5 hb_0 h7) (fun _ _ => ⟨rfl, rfl, ⟨rfl, trivial⟩⟩)
    · exact OpOK.of (fun g5 => [(.tmp 35, EP a_0 (wrap64 (p1 + 3)) 1 0)]) _ _ (fun g5 _ => g5) rfl rfl (fun _ => ⟨rfl, trivial⟩) (fun g5 => OT.loadF sc5 hb_0 h7 rfl) (fun _ _ => ⟨rfl, rfl, ⟨rfl, trivial⟩⟩)
    · exact OpOK.of (fun g5 => [(.tmp 36, .int .u8 (gt p0 (wrap64 (p1 + 3))))]) _ _ (fun g5 _ => g5) rfl rfl (fun _ => ⟨rfl, trivial⟩) (fun g5 => Pu.toOT (Pu.conv ul5 ul3)) (fun _ _ => ⟨rfl, rfl, ⟨rfl, trivial⟩⟩)
    · exact OpOK.of (fun g5 => [(.tmp 0, .slice a_0 (List.length p0) c_0)]) _ _ (fun g5 _ => g5) rfl rfl (fun _ => ⟨rfl, trivial⟩) (fun g5 => Pu.toOT Pu.move) (fun _ _ => ⟨rfl, rfl, ⟨rfl, trivial⟩⟩)
    · exact OpOK.of (fun g5 => [(.tmp 1, .int .i64 p1)]) _ _ (fun g5 _ => g5) rfl rfl (fun _ => ⟨rfl, trivial⟩) (fun g5 => Pu.toOT Pu.move) (fun _ _ => ⟨rfl, rfl, ⟨rfl, trivial⟩⟩)
    · exact OpOK.of (fun g5 => [(.tmp 39, .int .i64 p1), (.const (.int .i64 4), .int .i64 4)]) _ _ (fun g5 _ => g5) rfl rfl (fun _ => ⟨rfl, rfl, trivial⟩) (fun g5 => Pu.toOT Pu.add) (fun _ _ => ⟨rfl, rfl, ⟨rfl, trivial⟩⟩)
    · exact OpOK.of (fun g5 => [(.tmp 38, .slice a_0 (List.length p0) c_0), (.tmp 40, .int .i64 (wrap64 (p1 + 4)))]) _ _ (fun g5 _ => g5) rfl rfl (fun _ => ⟨rfl, rfl, trivial⟩) (fun g5 => OT.indexB ul37 sz5 hb_0 h8) (fun _ _ => ⟨rfl, rfl, ⟨rfl, trivial⟩⟩)
    · exact OpOK.of (fun g5 => [(.tmp 41, EP a_0 (wrap64 (p1 + 4)) 1 0)]) _ _ (fun g5 _ => g5) rfl rfl (fun _ => ⟨rfl, trivial⟩) (fun g5 => OT.loadF sc5 hb_0 h8 rfl) (fun _ _ => ⟨rfl, rfl, ⟨rfl, trivial⟩⟩)
    · exact OpOK.of (fun g5 => [(.tmp 42, .int .u8 (gt p0 (wrap64 (p1 + 4))))]) _ _ (fun g5 _ => g5) rfl rfl (fun _ => ⟨rfl, trivial⟩) (fun g5 => Pu.toOT (Pu.conv ul5 ul3)) (fun _ _ => ⟨rfl, rfl, ⟨rfl, trivial⟩⟩)
    · exact OpOK.of (fun g5 => [(.tmp 0, .slice a_0 (List.length p0) c_0)]) _ _ (fun g5 _ => g5) rfl rfl (fun _ => ⟨rfl, trivial⟩) (fun g5 => Pu.toOT Pu.move) (fun _ _ => ⟨rfl, rfl, ⟨rfl, trivial⟩⟩)
    · exact OpOK.of (fun g5 => [(.tmp 1, .int .i64 p1)]) _ _ (fun g5 _ => g5) rfl rfl (fun _ => ⟨rfl, trivial⟩) (fun g5 => Pu.toOT Pu.move) (fun _ _ => ⟨rfl, rfl, ⟨rfl, trivial⟩⟩)
    · exact OpOK.of (fun g5 => [(.tmp 45, .int .i64 p1), (.const (.int .i64 5), .int .i64 5)]) _ _ (fun g5 _ => g5) rfl rfl (fun _ => ⟨rfl, rfl, trivial⟩) (fun g5 => Pu.toOT Pu.add) (fun _ _ => ⟨rfl, rfl, ⟨rfl, trivial⟩⟩)
    · exact OpOK.of (fun g5 => [(.tmp 44, .slice a_0 (List.length p0) c_0), (.tmp 46, .int .i64 (wrap64 (p1 + 5)))]) _ _ (fun g5 _ => g5) rfl rfl (fun _ => ⟨rfl, rfl, trivial⟩) (fun g5 => OT.indexB ul37 sz5 hb_0 h9) (fun _ _ => ⟨rfl, rfl, ⟨rfl, trivial⟩⟩)
    · exact OpOK.of (fun g5 => [(.tmp 47, EP a_0 (wrap64 (p1 + 5)) 1 0)]) _ _ (fun g5 _ => g5) rfl rfl (fun _ => ⟨rfl, trivial⟩) (fun g5 => OT.loadF sc5 hb_0 h9 rfl) (fun _ _ => ⟨rfl, rfl, ⟨rfl, trivial⟩⟩)
    · exact OpOK.of (fun g5 => [(.tmp 48, .int .u8 (gt p0 (wrap64 (p1 + 5))))]) _ _ (fun g5 _ => g5) rfl rfl (fun _ => ⟨rfl, trivial⟩) (fun g5 => Pu.toOT (Pu.conv ul5 ul3)) (fun _ _ => ⟨rfl, rfl, ⟨rfl, trivial⟩⟩)
    · exact OpOK.of (fun g5 => [(.tmp 31, .int .i64 (IntKind.i64.wrap (gt p0 (wrap64 (p1 + 2))))), (.tmp 37, .int .i64 (IntKind.i64.wrap (gt p0 (wrap64 (p1 + 3))))), (.tmp 43, .int .i64 (IntKind.i64.wrap (gt p0 (wrap64 (p1 + 4))))), (.tmp 49, .int .i64 (IntKind.i64.wrap (gt p0 (wrap64 (p1 + 5)))))]) _ _ (fun g5 _ => g5) rfl rfl (fun _ => ⟨rfl, rfl, rfl, rfl, trivial⟩) (fun g5 => Pu.toOT (Pu.build (us := [.int .i64 (IntKind.i64.wrap (gt p0 (wrap64 (p1 + 2)))), .int .i64 (IntKind.i64.wrap (gt p0 (wrap64 (p1 + 3)))), .int .i64 (IntKind.i64.wrap (gt p0 (wrap64 (p1 + 4)))), .int .i64 (IntKind.i64.wrap (gt p0 (wrap64 (p1 + 5))))]) (cs := [.int .i64 (IntKind.i64.wrap (gt p0 (wrap64 (p1 + 2)))), .int .i64 (IntKind.i64.wrap (gt p0 (wrap64 (p1 + 3)))), .int .i64 (IntKind.i64.wrap (gt p0 (wrap64 (p1 + 4)))), .int .i64 (IntKind.i64.wrap (gt p0 (wrap64 (p1 + 5))))]) [(0, .tmp 31), (1, .tmp 37), (2, .tmp 43), (3, .tmp 49)] st194 rfl rfl rfl)) (fun _ _ => ⟨rfl, rfl, ⟨rfl, trivial⟩⟩)
    · exact OpOK.of (fun g5 => [(.tmp 25, .int .i64 t3.1), (.tmp 50, .agg #[.int .i64 (IntKind.i64.wrap (gt p0 (wrap64 (p1 + 2)))), .int .i64 (IntKind.i64.wrap (gt p0 (wrap64 (p1 + 3)))), .int .i64 (IntKind.i64.wrap (gt p0 (wrap64 (p1 + 4)))), .int .i64 (IntKind.i64.wrap (gt p0 (wrap64 (p1 + 5))))])]) _ _ (fun g5 _ => g5) rfl rfl (fun _ => ⟨rfl, rfl, trivial⟩) (fun g5 => Pu.toOT (Pu.build (us := [.int .i64 t3.1, .agg #[.int .i64 (IntKind.i64.wrap (gt p0 (wrap64 (p1 + 2)))), .int .i64 (IntKind.i64.wrap (gt p0 (wrap64 (p1 + 3)))), .int .i64 (IntKind.i64.wrap (gt p0 (wrap64 (p1 + 4)))), .int .i64 (IntKind.i64.wrap (gt p0 (wrap64 (p1 + 5))))]]) (cs := [.int .i64 t3.1, .int .i64 (IntKind.i64.wrap (gt p0 (wrap64 (p1 + 2)))), .int .i64 (IntKind.i64.wrap (gt p0 (wrap64 (p1 + 3)))), .int .i64 (IntKind.i64.wrap (gt p0 (wrap64 (p1 + 4)))), .int .i64 (IntKind.i64.wrap (gt p0 (wrap64 (p1 + 5))))]) [(0, .tmp 25), (1, .tmp 50)] st196 rfl rfl rfl)) (fun _ _ => ⟨rfl, rfl, ⟨rfl, trivial⟩⟩)
    · exact OpOK.of (fun g5 => []) _ _ (fun g5 x => x) rfl rfl (fun _ => trivial) (fun g5 => OT.alloc zc196) (fun _ _ => ⟨rfl, rfl, ⟨rfl, trivial⟩⟩)
    refine HQ.keep [(4, _), (5, _), (51, _), (8, _)] ⟨rfl, rfl, rfl, rfl, trivial⟩ ?_
    refine HQ.keepR [(1, _), (2, _)] ⟨rfl, rfl, trivial⟩ rfl ?_
    refine HQ.opN [2] [2] [] (OT.storeC (cs' := [.int .i64 t3.1, .int .i64 (IntKind.i64.wrap (gt p0 (wrap64 (p1 + 2)))), .int .i64 (IntKind.i64.wrap (gt p0 (wrap64 (p1 + 3)))), .int .i64 (IntKind.i64.wrap (gt p0 (wrap64 (p1 + 4)))), .int .i64 (IntKind.i64.wrap (gt p0 (wrap64 (p1 + 5))))]) sz196 rfl rfl rfl rfl rfl) ⟨rfl, rfl, trivial⟩ ⟨rfl, trivial⟩ rfl rfl rfl (fun _ => rfl) fun _ => ?_
    refine HQ.done ?_
    refine HQ.keep [(4, _), (5, _), (8, _)] ⟨rfl, rfl, rfl, trivial⟩ ?_
    refine HQ.seq ?_
    refine HQ.rseq ?_
    refine HQ.pu (Pu.fieldB fo196_1 rfl) ⟨rfl, trivial⟩ rfl rfl rfl ?_
    refine HQ.op [2] [2] (OT.loadBA (vs := [.int .i64 (IntKind.i64.wrap (gt p0 (wrap64 (p1 + 2)))), .int .i64 (IntKind.i64.wrap (gt p0 (wrap64 (p1 + 3)))), .int .i64 (IntKind.i64.wrap (gt p0 (wrap64 (p1 + 4)))), .int .i64 (IntKind.i64.wrap (gt p0 (wrap64 (p1 + 5))))]) ag194 sz194 rfl rfl) ⟨rfl, trivial⟩ ⟨rfl, trivial⟩ rfl rfl rfl rfl (fun _ => rfl) fun _ => ?_
    obtain ⟨t11, h12, H⟩ := bnd H
    refine HQ.op [] [] (OT.call (us := [_]) (Pre := []) [.tmp 53] Try.call184 rfl rfl fun w F hs hF hp => impl_BoxOk_c h12) ⟨rfl, rfl, trivial⟩ trivial rfl rfl rfl rfl (fun _ => rfl) fun _ => ?_
    refine HQ.pu Pu.not ⟨rfl, trivial⟩ rfl rfl rfl ?_
    refine HQ.done ?_
    refine HQ.keep [(4, _), (5, _), (8, _), (55, _)] ⟨rfl, rfl, rfl, rfl, trivial⟩ ?_
    rcases brk H with ⟨hc, H⟩ | ⟨hc, H⟩
    · refine HQ.condT rfl hc ?_
      clear hc
      refine HQ.rseq ?_
      refine HQ.pu (Pu.build (us := []) (cs := [.int .i64 0, .int .i64 0, .int .i64 0, .int .i64 0, .int .i64 0]) [] st196 rfl rfl rfl) trivial rfl rfl rfl ?_
      refine HQ.opN [1] [1] [] (OT.storeC (cs' := [.int .i64 0, .int .i64 0, .int .i64 0, .int .i64 0, .int .i64 0]) sz196 rfl rfl rfl rfl rfl) ⟨rfl, rfl, trivial⟩ ⟨rfl, trivial⟩ rfl rfl rfl (fun _ => rfl) fun _ => ?_
      refine HQ.pu Pu.assign ⟨rfl, trivial⟩ rfl rfl rfl ?_
      refine HQ.done ?_
      refine HQ.keep [(4, _), (5, _), (8, _)] ⟨rfl, rfl, rfl, trivial⟩ ?_
      refine HQ.ret ?_
      refine HQ.thenR ?_
      obtain rfl := Option.some.inj H
      exact HQ.fin (vs := [_, _]) Try.results167 () ⟨⟨_, _, 1, rfl, rfl, ag196, sz196, rfl⟩, rfl, trivial⟩ rfl [] trivial rfl
    · refine HQ.condF rfl hc ?_
      clear hc
      refine HQ.skipThen ?_
      refine HQ.rseq ?_
      refine HQ.op [2] [2] (OT.loadBA (vs := [.int .i64 t3.1, .int .i64 (IntKind.i64.wrap (gt p0 (wrap64 (p1 + 2)))), .int .i64 (IntKind.i64.wrap (gt p0 (wrap64 (p1 + 3)))), .int .i64 (IntKind.i64.wrap (gt p0 (wrap64 (p1 + 4)))), .int .i64 (IntKind.i64.wrap (gt p0 (wrap64 (p1 + 5))))]) ag196 sz196 rfl rfl) ⟨rfl, trivial⟩ ⟨rfl, trivial⟩ rfl rfl rfl rfl (fun _ => rfl) fun _ => ?_
      refine HQ.opN [1] [1] [] (OT.storeC (cs' := [.int .i64 t3.1, .int .i64 (IntKind.i64.wrap (gt p0 (wrap64 (p1 + 2)))), .int .i64 (IntKind.i64.wrap (gt p0 (wrap64 (p1 + 3)))), .int .i64 (IntKind.i64.wrap (gt p0 (wrap64 (p1 + 4)))), .int .i64 (IntKind.i64.wrap (gt p0 (wrap64 (p1 + 5))))]) sz196 rfl rfl rfl rfl rfl) ⟨rfl, rfl, trivial⟩ ⟨rfl, trivial⟩ rfl rfl rfl (fun _ => rfl) fun _ => ?_
      refine HQ.pu Pu.assign ⟨rfl, trivial⟩ rfl rfl rfl ?_
      refine HQ.done ?_
      refine HQ.keep [(4, _), (5, _)] ⟨rfl, rfl, trivial⟩ ?_
      refine HQ.ret ?_
      obtain rfl := Option.some.inj H
      exact HQ.fin (vs := [_, _]) Try.results167 () ⟨⟨_, _, 1, rfl, rfl, ag196, sz196, rfl⟩, rfl, trivial⟩ rfl [] trivial rfl

/-! impl.EntryAt$1 -/
theorem impl_EntryAt_1_c {w : World} {p0 : TEntry} {q0 : Int} {β_q0 : Nat} {F0 : Fp} (hs0 : Sat [Box β_q0 [.int .i64 q0]] w.heap F0) (hF0 : ∀ b, F0 b → b < w.heap.size)  {r : Bool × Int} (H : impl_EntryAt_1 p0 q0 = some r) :
    Calls Try.prog 191 #[.agg #[.int .i64 p0.N, .int .i64 p0.R.X0, .int .i64 p0.R.Y0, .int .i64 p0.R.X1, .int .i64 p0.R.Y1], BP β_q0 0] w (Rt w F0 (fun _ : Unit => .bool r.1) (fun _ => [Box β_q0 [.int .i64 r.2]])) := by
  rw [impl_EntryAt_1] at H
  refine Calls.enter (N := 8) (us := [_, _]) (F0 := F0) (Γ0 := [(1, Box β_q0 [.int .i64 q0])]) Try.func191 rfl rfl rfl hs0 hF0 ?_
  refine HQ.rseq ?_
  refine HQ.op [] [2] (OT.box (cs := [.int .i64 p0.N, .int .i64 p0.R.X0, .int .i64 p0.R.Y0, .int .i64 p0.R.X1, .int .i64 p0.R.Y1]) rfl) ⟨rfl, trivial⟩ trivial rfl rfl rfl rfl (fun _ => rfl) fun b1 => ?_
  refine HQ.pu Pu.assign ⟨rfl, trivial⟩ rfl rfl rfl ?_
  refine HQ.done ?_
  refine HQ.keep [(1, _), (2, _), (3, _)] ⟨rfl, rfl, rfl, trivial⟩ ?_
  refine HQ.rseq ?_
  refine HQ.pu (Pu.fieldB fo196_0 rfl) ⟨rfl, trivial⟩ rfl rfl rfl ?_
  refine HQ.op [2] [2] (OT.loadB sc3 rfl) ⟨rfl, trivial⟩ ⟨rfl, trivial⟩ rfl rfl rfl rfl (fun _ => rfl) fun _ => ?_
  refine HQ.op [1] [1] (OT.loadB sc3 rfl) ⟨rfl, trivial⟩ ⟨rfl, trivial⟩ rfl rfl rfl rfl (fun _ => rfl) fun _ => ?_
  refine HQ.pu Pu.eql ⟨rfl, rfl, trivial⟩ rfl rfl rfl ?_
  refine HQ.pu Pu.assign ⟨rfl, trivial⟩ rfl rfl rfl ?_
  refine HQ.done ?_
  refine HQ.keep [(3, _)] ⟨rfl, trivial⟩ ?_
  refine HQ.ret ?_
  obtain rfl := Option.some.inj H
  exact HQ.fin (vs := [_]) Try.results191 () ⟨rfl, trivial⟩ rfl [1] ⟨rfl, trivial⟩ rfl

/-! slices.IndexFunc(()impl.Entry,impl.Entry) -/
theorem slices_IndexFunc_impl_Entry_impl_Entry_impl_EntryAt_1_c {w : World} {k : Nat} {p0 : (List TEntry)} {p1_0 : Int} {a_0 : Option Addr} {c_0 : Nat} {β_1_0 : Nat} {F0 : Fp} (hs0 : Sat [Box β_1_0 [.int .i64 p1_0]] w.heap F0) (hF0 : ∀ b, F0 b → b < w.heap.size) (hb_0 : BorS kTEntry a_0 c_0 p0 w.heap (Lt w F0)) {r : Int × Int} (H : slices_IndexFunc_impl_Entry_impl_Entry_impl_EntryAt_1 k p0 p1_0 = some r) :
    Calls Try.prog 190 #[.slice a_0 (List.length p0) c_0, .func (.func 191) #[] #[BP β_1_0 0]] w (Rt w F0 (fun _ : Unit => .int .i64 r.1) (fun _ => [Box β_1_0 [.int .i64 r.2]])) := by
  rw [slices_IndexFunc_impl_Entry_impl_Entry_impl_EntryAt_1] at H
  refine Calls.enter (N := 19) (us := [_, _]) (F0 := F0) (Γ0 := [(1, Box β_1_0 [.int .i64 p1_0])]) Try.func190 rfl rfl rfl hs0 hF0 ?_
  refine HQ.rseq ?_
  refine HQ.pu Pu.assign ⟨rfl, trivial⟩ rfl rfl rfl ?_
  refine HQ.done ?_
  refine HQ.keep [(0, _), (1, _), (4, _)] ⟨rfl, rfl, rfl, trivial⟩ ?_
  refine HQ.seq ?_
  refine HQ.rseq ?_
  refine HQ.pu Pu.move ⟨rfl, trivial⟩ rfl rfl rfl ?_
  refine HQ.pu (Pu.len ul77) ⟨rfl, trivial⟩ rfl rfl rfl ?_
  refine HQ.pu Pu.move ⟨rfl, trivial⟩ rfl rfl rfl ?_
  refine HQ.done ?_
  refine HQ.keep [(0, _), (1, _), (4, _), (7, _), (8, _)] ⟨rfl, rfl, rfl, rfl, rfl, trivial⟩ ?_
  refine HQ.block ?_
  obtain ⟨o12, h15, H⟩ := bnd H
  refine HQ.loop h15 0 (fun (s : Int × Int) (g : Unit) => match s, g with | (i4, i5), () => [(0, .slice a_0 (List.length p0) c_0), (1, .func (.func 191) #[] #[BP β_1_0 0]), (4, .int .i64 0), (7, .int .i64 ((List.length p0 : Nat) : Int)), (8, .int .i64 i4)]) (fun (s : Int × Int) (g : Unit) => match s, g with | (i4, i5), () => [(1, Box β_1_0 [.int .i64 i5])]) (fun r => bodyPost Try.prog Try.f190 (Rt w F0 (fun _ : Unit => .int .i64 r.1) (fun _ => [Box β_1_0 [.int .i64 r.2]])) .ret) () ⟨rfl, rfl, rfl, rfl, rfl, trivial⟩ ⟨rfl, trivial⟩ rfl ?_ ?_ ?_
  · clear H h15
    rintro ⟨i4, i5⟩ _ o H
    rw [slices_IndexFunc_impl_Entry_impl_Entry_impl_EntryAt_1_b0] at H
    refine HQ.keep [(0, _), (1, _), (4, _), (7, _), (8, _)] ⟨rfl, rfl, rfl, rfl, rfl, trivial⟩ ?_
    refine HQ.keepR [(1, _)] ⟨rfl, trivial⟩ rfl ?_
    refine HQ.rseq ?_
    refine HQ.pu Pu.lss ⟨rfl, rfl, trivial⟩ rfl rfl rfl ?_
    refine HQ.done ?_
    refine HQ.keep [(0, _), (1, _), (4, _), (7, _), (8, _), (9, _)] ⟨rfl, rfl, rfl, rfl, rfl, rfl, trivial⟩ ?_
    refine HQ.seq ?_
    rcases brk H with ⟨hc, H⟩ | ⟨hc, H⟩
    · refine HQ.condT rfl hc ?_
      clear hc
      refine HQ.skipThen ?_
      refine HQ.seq ?_
      refine HQ.block ?_
      refine HQ.rseq ?_
      refine HQ.pu Pu.move ⟨rfl, trivial⟩ rfl rfl rfl ?_
      refine HQ.pu Pu.assign ⟨rfl, trivial⟩ rfl rfl rfl ?_
      refine HQ.done ?_
      refine HQ.keep [(0, _), (1, _), (4, _), (7, _), (8, _), (5, _)] ⟨rfl, rfl, rfl, rfl, rfl, rfl, trivial⟩ ?_
      refine HQ.rseq ?_
      refine HQ.pu Pu.move ⟨rfl, trivial⟩ rfl rfl rfl ?_
      refine HQ.pu Pu.move ⟨rfl, trivial⟩ rfl rfl rfl ?_
      refine HQ.pu Pu.move ⟨rfl, trivial⟩ rfl rfl rfl ?_
      obtain ⟨h9, H⟩ := asr H
      refine HQ.op [] [] (OT.indexB ul77 sz196 hb_0 h9) ⟨rfl, rfl, trivial⟩ trivial rfl rfl rfl rfl (fun _ => rfl) fun _ => ?_
      refine HQ.op [] [] (OT.loadFA (vs := [.int .i64 ((gt p0 i4).N), .int .i64 ((gt p0 i4).R.X0), .int .i64 ((gt p0 i4).R.Y0), .int .i64 ((gt p0 i4).R.X1), .int .i64 ((gt p0 i4).R.Y1)]) ag196 sz196 hb_0 h9 rfl rfl) ⟨rfl, trivial⟩ trivial rfl rfl rfl rfl (fun _ => rfl) fun _ => ?_
      obtain ⟨t10, h11, H⟩ := bnd H
      refine HQ.op [1] [1] (OT.callV (us := [.agg #[.int .i64 ((gt p0 i4).N), .int .i64 ((gt p0 i4).R.X0), .int .i64 ((gt p0 i4).R.Y0), .int .i64 ((gt p0 i4).R.X1), .int .i64 ((gt p0 i4).R.Y1)]]) (cap := #[BP β_1_0 0]) (all := #[.agg #[.int .i64 ((gt p0 i4).N), .int .i64 ((gt p0 i4).R.X0), .int .i64 ((gt p0 i4).R.Y0), .int .i64 ((gt p0 i4).R.X1), .int .i64 ((gt p0 i4).R.Y1)], BP β_1_0 0]) (PreX := [Box β_1_0 [.int .i64 i5]]) (PreL := []) [.tmp 15] Try.call191 rfl rfl rfl fun w FX FL hs1 hF1 hs2 hF2 hp => impl_EntryAt_1_c (p0 := (gt p0 i4)) (q0 := i5) hs1 hF1 h11) ⟨rfl, rfl, trivial⟩ ⟨rfl, trivial⟩ rfl rfl rfl rfl (fun _ => rfl) fun _ => ?_
      refine HQ.done ?_
      refine HQ.keep [(0, _), (1, _), (4, _), (7, _), (8, _), (5, _), (16, _)] ⟨rfl, rfl, rfl, rfl, rfl, rfl, rfl, trivial⟩ ?_
      rcases brk H with ⟨hc, H⟩ | ⟨hc, H⟩
      · refine HQ.condT rfl hc ?_
        clear hc
        refine HQ.rseq ?_
        refine HQ.pu Pu.move ⟨rfl, trivial⟩ rfl rfl rfl ?_
        refine HQ.pu Pu.assign ⟨rfl, trivial⟩ rfl rfl rfl ?_
        refine HQ.done ?_
        refine HQ.keep [(0, _), (1, _), (4, _), (7, _), (8, _)] ⟨rfl, rfl, rfl, rfl, rfl, trivial⟩ ?_
        refine HQ.ret ?_
        refine HQ.blkR ?_
        refine HQ.thenR ?_
        obtain rfl := Option.some.inj H
        refine HQ.retL ?_
        exact HQ.fin (vs := [_]) Try.results190 () ⟨rfl, trivial⟩ rfl [1] ⟨rfl, trivial⟩ rfl
      · refine HQ.condF rfl hc ?_
        clear hc
        refine HQ.skip ?_
        refine HQ.blkN ?_
        refine HQ.thenN ?_
        refine HQ.regionQ ?_
        refine HQ.pu Pu.add ⟨rfl, rfl, trivial⟩ rfl rfl rfl ?_
        refine HQ.pu Pu.move ⟨rfl, trivial⟩ rfl rfl rfl ?_
        refine HQ.done ?_
        refine HQ.keep [(0, _), (1, _), (4, _), (7, _), (8, _)] ⟨rfl, rfl, rfl, rfl, rfl, trivial⟩ ?_
        obtain rfl := Option.some.inj H
        exact HQ.next () ⟨rfl, rfl, rfl, rfl, rfl, trivial⟩ ⟨rfl, trivial⟩ rfl
    · refine HQ.condF rfl hc ?_
      clear hc
      refine HQ.exit ?_
      refine HQ.thenE ?_
      obtain rfl := Option.some.inj H
      exact HQ.out () ⟨rfl, rfl, rfl, rfl, rfl, trivial⟩ ⟨rfl, trivial⟩ rfl
  · rintro ⟨i13, i14⟩ rfl _
    clear h15
    replace H := H
    refine HQ.keep [(0, _), (1, _), (4, _), (7, _), (8, _)] ⟨rfl, rfl, rfl, rfl, rfl, trivial⟩ ?_
    refine HQ.keepR [(1, _)] ⟨rfl, trivial⟩ rfl ?_
    refine HQ.blkE ?_
    refine HQ.thenN ?_
    refine HQ.rseq ?_
    refine HQ.pu Pu.assign ⟨rfl, trivial⟩ rfl rfl rfl ?_
    refine HQ.done ?_
    refine HQ.keep [(4, _)] ⟨rfl, trivial⟩ ?_
    refine HQ.ret ?_
    obtain rfl := Option.some.inj H
    exact HQ.fin (vs := [_]) Try.results190 () ⟨rfl, trivial⟩ rfl [1] ⟨rfl, trivial⟩ rfl
  · rintro r rfl a w hr
    obtain rfl := Option.some.inj H
    exact hr

/-! impl.EntryAt -/
theorem impl_EntryAt_c {w : World} {k : Nat} {p0 : (List TEntry)} {p1 : Int} {a_0 : Option Addr} {c_0 : Nat} (hb_0 : BorS kTEntry a_0 c_0 p0 w.heap (Lt w Nil)) {r : Int} (H : impl_EntryAt k p0 p1 = some r) :
    Calls Try.prog 185 #[.slice a_0 (List.length p0) c_0, .int .i64 p1] w (Rt w Nil (fun _ : Unit => .int .i64 r) (fun _ => [])) := by
  rw [impl_EntryAt] at H
  refine Calls.enter0 (N := 8) (us := [_, _]) Try.func185 rfl rfl rfl ?_
  refine HQ.rseq ?_
  refine HQ.op [] [1] (OT.box (cs := [.int .i64 p1]) rfl) ⟨rfl, trivial⟩ trivial rfl rfl rfl rfl (fun _ => rfl) fun b1 => ?_
  refine HQ.pu Pu.assign ⟨rfl, trivial⟩ rfl rfl rfl ?_
  refine HQ.done ?_
  refine HQ.keep [(0, _), (3, _), (4, _)] ⟨rfl, rfl, rfl, trivial⟩ ?_
  refine HQ.rseq ?_
  refine HQ.pu Pu.move ⟨rfl, trivial⟩ rfl rfl rfl ?_
  refine HQ.pu (Pu.makeFunc (us := [BP b1 0]) [.tmp 3] rfl rfl) ⟨rfl, trivial⟩ rfl rfl rfl ?_
  obtain ⟨t2, h3, H⟩ := bnd H
  refine HQ.op [1] [1] (OT.callM (us := [_, _]) (PreX := [Box b1 [.int .i64 p1]]) (PreL := []) [.tmp 5, .tmp 6] Try.call190 rfl rfl fun w FX FL hs1 hF1 hs2 hF2 hp => slices_IndexFunc_impl_Entry_impl_Entry_impl_EntryAt_1_c (p0 := p0) (p1_0 := p1) hs1 hF1 (hb_0.passY hp) h3) ⟨rfl, rfl, rfl, trivial⟩ ⟨rfl, trivial⟩ rfl rfl rfl rfl (fun _ => rfl) fun _ => ?_
  refine HQ.pu Pu.assign ⟨rfl, trivial⟩ rfl rfl rfl ?_
  refine HQ.done ?_
  refine HQ.keep [(4, _)] ⟨rfl, trivial⟩ ?_
  refine HQ.ret ?_
  obtain rfl := Option.some.inj H
  exact HQ.fin (vs := [_]) Try.results185 () ⟨rfl, trivial⟩ rfl [] trivial rfl

/-! impl.NodeOk -/
theorem impl_NodeOk_c {w : World} {k : Nat} {p0 : TNode} {a_0 : Option Addr} {c_0 : Nat} (hb_0 : BorS kTEntry a_0 c_0 p0.L w.heap (Lt w Nil)) {r : Bool} (H : impl_NodeOk k p0 = some r) :
    Calls Try.prog 160 #[.agg #[.bool p0.Leaf, .slice a_0 (List.length p0.L) c_0]] w (Rt w Nil (fun _ : Unit => .bool r) (fun _ => [])) := by
  rw [impl_NodeOk] at H
  refine Calls.enter0 (N := 63) (us := [_]) Try.func160 rfl rfl rfl ?_
  refine HQ.rseq ?_
  refine HQ.op [] [1] (OT.box (cs := [.bool p0.Leaf, .slice a_0 (List.length p0.L) c_0]) rfl) ⟨rfl, trivial⟩ trivial rfl rfl rfl rfl (fun _ => rfl) fun b1 => ?_
  refine HQ.pu Pu.assign ⟨rfl, trivial⟩ rfl rfl rfl ?_
  refine HQ.done ?_
  refine HQ.keep [(1, _), (2, _)] ⟨rfl, rfl, trivial⟩ ?_
  refine HQ.seq ?_
  refine HQ.rseq ?_
  refine HQ.pu (Pu.fieldB fo79_1 rfl) ⟨rfl, trivial⟩ rfl rfl rfl ?_
  refine HQ.op [1] [1] (OT.loadB sc77 rfl) ⟨rfl, trivial⟩ ⟨rfl, trivial⟩ rfl rfl rfl rfl (fun _ => rfl) fun _ => ?_
  refine HQ.pu (Pu.len ul77) ⟨rfl, trivial⟩ rfl rfl rfl ?_
  refine HQ.pu Pu.gtr ⟨rfl, rfl, trivial⟩ rfl rfl rfl ?_
  refine HQ.pu Pu.move ⟨rfl, trivial⟩ rfl rfl rfl ?_
  refine HQ.cutAt 10 [(19, .bool ((decide (((List.length p0.L : Nat) : Int) > 4)) || ((!p0.Leaf) && (decide (((List.length p0.L : Nat) : Int) = 0))))), (1, BP b1 0), (2, .bool false)] [(1, Box b1 [.bool p0.Leaf, .slice a_0 (List.length p0.L) c_0])] ?_ ?_
  · rcases Bool.eq_false_or_eq_true (decide (((List.length p0.L : Nat) : Int) > 4)) with hg2 | hg2
    · refine HQ.off rfl rfl hg2 rfl ?_
      refine HQ.off rfl rfl hg2 rfl ?_
      refine HQ.off rfl rfl hg2 rfl ?_
      refine HQ.off rfl rfl hg2 rfl ?_
      refine HQ.offU rfl rfl rfl ?_
      refine HQ.offU rfl rfl rfl ?_
      refine HQ.offU rfl rfl rfl ?_
      refine HQ.offU rfl rfl rfl ?_
      refine HQ.off rfl rfl hg2 rfl ?_
      refine HQ.pu (Pu.pickOT (u := ((!p0.Leaf) && (decide (((List.length p0.L : Nat) : Int) = 0)))) hg2) ⟨rfl, rfl, trivial⟩ rfl rfl rfl ?_
      exact HQ.mid ⟨rfl, rfl, rfl, trivial⟩ ⟨rfl, trivial⟩ rfl
    · refine HQ.on rfl rfl hg2 ?_
      refine HQ.pu (Pu.fieldB fo79_0 rfl) ⟨rfl, trivial⟩ rfl rfl rfl ?_
      refine HQ.on rfl rfl hg2 ?_
      refine HQ.op [1] [1] (OT.loadB sc4 rfl) ⟨rfl, trivial⟩ ⟨rfl, trivial⟩ rfl rfl rfl rfl (fun _ => rfl) fun _ => ?_
      refine HQ.on rfl rfl hg2 ?_
      refine HQ.pu Pu.not ⟨rfl, trivial⟩ rfl rfl rfl ?_
      refine HQ.on rfl rfl hg2 ?_
      refine HQ.pu Pu.move ⟨rfl, trivial⟩ rfl rfl rfl ?_
      refine HQ.cutAt 5 [(18, .bool ((!p0.Leaf) && (decide (((List.length p0.L : Nat) : Int) = 0)))), (1, BP b1 0), (2, .bool false), (9, .bool (decide (((List.length p0.L : Nat) : Int) > 4)))] [(1, Box b1 [.bool p0.Leaf, .slice a_0 (List.length p0.L) c_0])] ?_ ?_
      · rcases Bool.eq_false_or_eq_true (!p0.Leaf) with hg3 | hg3
        · refine HQ.on rfl rfl hg3 ?_
          refine HQ.pu (Pu.fieldB fo79_1 rfl) ⟨rfl, trivial⟩ rfl rfl rfl ?_
          refine HQ.on rfl rfl hg3 ?_
          refine HQ.op [1] [1] (OT.loadB sc77 rfl) ⟨rfl, trivial⟩ ⟨rfl, trivial⟩ rfl rfl rfl rfl (fun _ => rfl) fun _ => ?_
          refine HQ.on rfl rfl hg3 ?_
          refine HQ.pu (Pu.len ul77) ⟨rfl, trivial⟩ rfl rfl rfl ?_
          refine HQ.on rfl rfl hg3 ?_
          refine HQ.pu Pu.eql ⟨rfl, rfl, trivial⟩ rfl rfl rfl ?_
          refine HQ.on rfl rfl hg2 ?_
          refine HQ.pu (Pu.pickAT hg3) ⟨rfl, rfl, trivial⟩ rfl rfl rfl ?_
          exact HQ.mid ⟨rfl, rfl, rfl, rfl, trivial⟩ ⟨rfl, trivial⟩ rfl
        · refine HQ.off rfl rfl hg3 rfl ?_
          refine HQ.off rfl rfl hg3 rfl ?_
          refine HQ.off rfl rfl hg3 rfl ?_
          refine HQ.off rfl rfl hg3 rfl ?_
          refine HQ.on rfl rfl hg2 ?_
          refine HQ.pu (Pu.pickAF (u := (decide (((List.length p0.L : Nat) : Int) = 0))) hg3) ⟨rfl, rfl, trivial⟩ rfl rfl rfl ?_
          exact HQ.mid ⟨rfl, rfl, rfl, rfl, trivial⟩ ⟨rfl, trivial⟩ rfl
      refine HQ.pu (Pu.pickOF hg2) ⟨rfl, rfl, trivial⟩ rfl rfl rfl ?_
      exact HQ.mid ⟨rfl, rfl, rfl, trivial⟩ ⟨rfl, trivial⟩ rfl
  refine HQ.done ?_
  refine HQ.keep [(19, _), (1, _), (2, _)] ⟨rfl, rfl, rfl, trivial⟩ ?_
  rcases brk H with ⟨hc, H⟩ | ⟨hc, H⟩
  · refine HQ.condT rfl hc ?_
    clear hc
    refine HQ.rseq ?_
    refine HQ.pu Pu.assign ⟨rfl, trivial⟩ rfl rfl rfl ?_
    refine HQ.done ?_
    refine HQ.keep [(1, _), (2, _)] ⟨rfl, rfl, trivial⟩ ?_
    refine HQ.ret ?_
    refine HQ.thenR ?_
    obtain rfl := Option.some.inj H
    exact HQ.fin (vs := [_]) Try.results160 () ⟨rfl, trivial⟩ rfl [] trivial rfl
  · refine HQ.condF rfl hc ?_
    clear hc
    refine HQ.skipThen ?_
    refine HQ.seq ?_
    refine HQ.rseq ?_
    refine HQ.pu (Pu.fieldB fo79_1 rfl) ⟨rfl, trivial⟩ rfl rfl rfl ?_
    refine HQ.op [1] [1] (OT.loadB sc77 rfl) ⟨rfl, trivial⟩ ⟨rfl, trivial⟩ rfl rfl rfl rfl (fun _ => rfl) fun _ => ?_
    refine HQ.pu (Pu.len ul77) ⟨rfl, trivial⟩ rfl rfl rfl ?_
    refine HQ.pu Pu.move ⟨rfl, trivial⟩ rfl rfl rfl ?_
    refine HQ.done ?_
    refine HQ.keep [(1, _), (2, _), (21, _), (22, _), (23, _)] ⟨rfl, rfl, rfl, rfl, rfl, trivial⟩ ?_
    refine HQ.block ?_
    obtain ⟨o80, h82, H⟩ := bnd H
    refine HQ.loop h82 0 (fun (s : Int) (g : Unit) => match s, g with | i29, () => [(1, BP b1 0), (2, .bool false), (21, .slice a_0 (List.length p0.L) c_0), (22, .int .i64 ((List.length p0.L : Nat) : Int)), (23, .int .i64 i29)]) (fun (s : Int) (g : Unit) => match s, g with | i29, () => [(1, Box b1 [.bool p0.Leaf, .slice a_0 (List.length p0.L) c_0])]) (fun r => bodyPost Try.prog Try.f160 (Rt w Nil (fun _ : Unit => .bool r) (fun _ => [])) .ret) () ⟨rfl, rfl, rfl, rfl, rfl, trivial⟩ ⟨rfl, trivial⟩ rfl ?_ ?_ ?_
    · clear H h82
      rintro i29 _ o H
      rw [impl_NodeOk_b0] at H
      refine HQ.keep [(1, _), (2, _), (21, _), (22, _), (23, _)] ⟨rfl, rfl, rfl, rfl, rfl, trivial⟩ ?_
      refine HQ.keepR [(1, _)] ⟨rfl, trivial⟩ rfl ?_
      refine HQ.rseq ?_
      refine HQ.pu Pu.lss ⟨rfl, rfl, trivial⟩ rfl rfl rfl ?_
      refine HQ.done ?_
      refine HQ.keep [(1, _), (2, _), (21, _), (22, _), (23, _), (24, _)] ⟨rfl, rfl, rfl, rfl, rfl, rfl, trivial⟩ ?_
      refine HQ.seq ?_
      rcases brk H with ⟨hc, H⟩ | ⟨hc, H⟩
      · refine HQ.condT rfl hc ?_
        clear hc
        refine HQ.skipThen ?_
        refine HQ.seq ?_
        refine HQ.block ?_
        refine HQ.rseq ?_
        refine HQ.pu Pu.move ⟨rfl, trivial⟩ rfl rfl rfl ?_
        obtain ⟨h55, H⟩ := asr H
        refine HQ.op [] [] (OT.indexB ul77 sz196 hb_0 h55) ⟨rfl, rfl, trivial⟩ trivial rfl rfl rfl rfl (fun _ => rfl) fun _ => ?_
        refine HQ.op [] [] (OT.loadFA (vs := [.int .i64 ((gt p0.L i29).N), .int .i64 ((gt p0.L i29).R.X0), .int .i64 ((gt p0.L i29).R.Y0), .int .i64 ((gt p0.L i29).R.X1), .int .i64 ((gt p0.L i29).R.Y1)]) ag196 sz196 hb_0 h55 rfl rfl) ⟨rfl, trivial⟩ trivial rfl rfl rfl rfl (fun _ => rfl) fun _ => ?_
        refine HQ.op [] [4] (OT.alloc zc196) trivial trivial rfl rfl rfl rfl (fun _ => rfl) fun b56 => ?_
        refine HQ.pu Pu.assign ⟨rfl, trivial⟩ rfl rfl rfl ?_
        refine HQ.opN [4] [4] [] (OT.storeC (cs' := [.int .i64 ((gt p0.L i29).N), .int .i64 ((gt p0.L i29).R.X0), .int .i64 ((gt p0.L i29).R.Y0), .int .i64 ((gt p0.L i29).R.X1), .int .i64 ((gt p0.L i29).R.Y1)]) sz196 rfl rfl rfl rfl rfl) ⟨rfl, rfl, trivial⟩ ⟨rfl, trivial⟩ rfl rfl rfl (fun _ => rfl) fun _ => ?_
        refine HQ.done ?_
        refine HQ.keep [(1, _), (2, _), (21, _), (22, _), (23, _), (4, _), (3, _)] ⟨rfl, rfl, rfl, rfl, rfl, rfl, rfl, trivial⟩ ?_
        refine HQ.rseq ?_
        refine HQ.pu (Pu.fieldB fo79_0 rfl) ⟨rfl, trivial⟩ rfl rfl rfl ?_
        refine HQ.op [1] [1] (OT.loadB sc4 rfl) ⟨rfl, trivial⟩ ⟨rfl, trivial⟩ rfl rfl rfl rfl (fun _ => rfl) fun _ => ?_
        refine HQ.pu Pu.move ⟨rfl, trivial⟩ rfl rfl rfl ?_
        obtain ⟨c60, h61, H⟩ := bnd H
        refine HQ.cutAt 5 [(35, .bool c60), (1, BP b1 0), (2, .bool false), (21, .slice a_0 (List.length p0.L) c_0), (22, .int .i64 ((List.length p0.L : Nat) : Int)), (23, .int .i64 i29), (4, BP b56 0), (3, .int .i64 i29)] [(1, Box b1 [.bool p0.Leaf, .slice a_0 (List.length p0.L) c_0]), (4, Box b56 [.int .i64 ((gt p0.L i29).N), .int .i64 ((gt p0.L i29).R.X0), .int .i64 ((gt p0.L i29).R.Y0), .int .i64 ((gt p0.L i29).R.X1), .int .i64 ((gt p0.L i29).R.Y1)])] ?_ ?_
        · clear H
          have H := h61
          rcases brk H with ⟨hg57, H⟩ | ⟨hg57, H⟩
          · refine HQ.on rfl rfl hg57 ?_
            refine HQ.pu (Pu.fieldB fo196_0 rfl) ⟨rfl, trivial⟩ rfl rfl rfl ?_
            refine HQ.on rfl rfl hg57 ?_
            refine HQ.op [4] [4] (OT.loadB sc3 rfl) ⟨rfl, trivial⟩ ⟨rfl, trivial⟩ rfl rfl rfl rfl (fun _ => rfl) fun _ => ?_
            refine HQ.on rfl rfl hg57 ?_
            obtain ⟨t58, h59, H⟩ := bnd H
            refine HQ.op [] [] (OT.call (us := [_, _, _]) (Pre := []) [.tmp 32, .const (.int .i64 1), .const (.int .i64 999)] Try.call91 rfl rfl fun w F hs hF hp => impl_in_c h59) ⟨rfl, rfl, rfl, rfl, trivial⟩ trivial rfl rfl rfl rfl (fun _ => rfl) fun _ => ?_
            refine HQ.on rfl rfl hg57 ?_
            refine HQ.pu Pu.not ⟨rfl, trivial⟩ rfl rfl rfl ?_
            obtain rfl := Option.some.inj H
            refine HQ.pu (Pu.pickC1 hg57) ⟨rfl, rfl, trivial⟩ rfl rfl rfl ?_
            exact HQ.mid ⟨rfl, rfl, rfl, rfl, rfl, rfl, rfl, rfl, trivial⟩ ⟨rfl, rfl, trivial⟩ rfl
          · obtain rfl := Option.some.inj H
            refine HQ.off rfl rfl hg57 rfl ?_
            refine HQ.off rfl rfl hg57 rfl ?_
            refine HQ.off rfl rfl hg57 rfl ?_
            refine HQ.off rfl rfl hg57 rfl ?_
            refine HQ.pu (Pu.pickC0 hg57) ⟨rfl, rfl, trivial⟩ rfl rfl rfl ?_
            exact HQ.mid ⟨rfl, rfl, rfl, rfl, rfl, rfl, rfl, rfl, trivial⟩ ⟨rfl, rfl, trivial⟩ rfl
        refine HQ.pu Pu.move ⟨rfl, trivial⟩ rfl rfl rfl ?_
        obtain ⟨c68, h69, H⟩ := bnd H
        refine HQ.cutAt 10 [(46, .bool c68), (1, BP b1 0), (2, .bool false), (21, .slice a_0 (List.length p0.L) c_0), (22, .int .i64 ((List.length p0.L : Nat) : Int)), (23, .int .i64 i29), (4, BP b56 0), (3, .int .i64 i29)] [(1, Box b1 [.bool p0.Leaf, .slice a_0 (List.length p0.L) c_0]), (4, Box b56 [.int .i64 ((gt p0.L i29).N), .int .i64 ((gt p0.L i29).R.X0), .int .i64 ((gt p0.L i29).R.Y0), .int .i64 ((gt p0.L i29).R.X1), .int .i64 ((gt p0.L i29).R.Y1)])] ?_ ?_
        · clear H
          have H := h69
          rcases brk H with ⟨hg62, H⟩ | ⟨hg62, H⟩
          · obtain rfl := Option.some.inj H
            refine HQ.off rfl rfl hg62 rfl ?_
            refine HQ.off rfl rfl hg62 rfl ?_
            refine HQ.off rfl rfl hg62 rfl ?_
            refine HQ.off rfl rfl hg62 rfl ?_
            refine HQ.offU rfl rfl rfl ?_
            refine HQ.offU rfl rfl rfl ?_
            refine HQ.offU rfl rfl rfl ?_
            refine HQ.offU rfl rfl rfl ?_
            refine HQ.off rfl rfl hg62 rfl ?_
            refine HQ.pu (Pu.pickC1 hg62) ⟨rfl, rfl, trivial⟩ rfl rfl rfl ?_
            exact HQ.mid ⟨rfl, rfl, rfl, rfl, rfl, rfl, rfl, rfl, trivial⟩ ⟨rfl, rfl, trivial⟩ rfl
          · refine HQ.on rfl rfl hg62 ?_
            refine HQ.pu (Pu.fieldB fo79_0 rfl) ⟨rfl, trivial⟩ rfl rfl rfl ?_
            refine HQ.on rfl rfl hg62 ?_
            refine HQ.op [1] [1] (OT.loadB sc4 rfl) ⟨rfl, trivial⟩ ⟨rfl, trivial⟩ rfl rfl rfl rfl (fun _ => rfl) fun _ => ?_
            refine HQ.on rfl rfl hg62 ?_
            refine HQ.pu Pu.not ⟨rfl, trivial⟩ rfl rfl rfl ?_
            refine HQ.on rfl rfl hg62 ?_
            refine HQ.pu Pu.move ⟨rfl, trivial⟩ rfl rfl rfl ?_
            obtain ⟨c66, h67, H⟩ := bnd H
            refine HQ.cutAt 5 [(45, .bool c66), (1, BP b1 0), (2, .bool false), (21, .slice a_0 (List.length p0.L) c_0), (22, .int .i64 ((List.length p0.L : Nat) : Int)), (23, .int .i64 i29), (4, BP b56 0), (3, .int .i64 i29), (36, .bool c60), (37, BP b1 0), (38, .bool p0.Leaf), (39, .bool (!p0.Leaf)), (40, .bool (!p0.Leaf))] [(1, Box b1 [.bool p0.Leaf, .slice a_0 (List.length p0.L) c_0]), (4, Box b56 [.int .i64 ((gt p0.L i29).N), .int .i64 ((gt p0.L i29).R.X0), .int .i64 ((gt p0.L i29).R.Y0), .int .i64 ((gt p0.L i29).R.X1), .int .i64 ((gt p0.L i29).R.Y1)])] ?_ ?_
            · clear H
              have H := h67
              rcases brk H with ⟨hg63, H⟩ | ⟨hg63, H⟩
              · refine HQ.on rfl rfl hg63 ?_
                refine HQ.pu (Pu.fieldB fo196_0 rfl) ⟨rfl, trivial⟩ rfl rfl rfl ?_
                refine HQ.on rfl rfl hg63 ?_
                refine HQ.op [4] [4] (OT.loadB sc3 rfl) ⟨rfl, trivial⟩ ⟨rfl, trivial⟩ rfl rfl rfl rfl (fun _ => rfl) fun _ => ?_
                refine HQ.on rfl rfl hg63 ?_
                obtain ⟨t64, h65, H⟩ := bnd H
                refine HQ.op [] [] (OT.call (us := [_, _, _]) (Pre := []) [.tmp 42, .const (.int .i64 0), .const (.int .i64 47)] Try.call91 rfl rfl fun w F hs hF hp => impl_in_c h65) ⟨rfl, rfl, rfl, rfl, trivial⟩ trivial rfl rfl rfl rfl (fun _ => rfl) fun _ => ?_
                refine HQ.on rfl rfl hg63 ?_
                refine HQ.pu Pu.not ⟨rfl, trivial⟩ rfl rfl rfl ?_
                obtain rfl := Option.some.inj H
                refine HQ.on rfl rfl hg62 ?_
                refine HQ.pu (Pu.pickC1 hg63) ⟨rfl, rfl, trivial⟩ rfl rfl rfl ?_
                exact HQ.mid ⟨rfl, rfl, rfl, rfl, rfl, rfl, rfl, rfl, rfl, rfl, rfl, rfl, rfl, trivial⟩ ⟨rfl, rfl, trivial⟩ rfl
              · obtain rfl := Option.some.inj H
                refine HQ.off rfl rfl hg63 rfl ?_
                refine HQ.off rfl rfl hg63 rfl ?_
                refine HQ.off rfl rfl hg63 rfl ?_
                refine HQ.off rfl rfl hg63 rfl ?_
                refine HQ.on rfl rfl hg62 ?_
                refine HQ.pu (Pu.pickC0 hg63) ⟨rfl, rfl, trivial⟩ rfl rfl rfl ?_
                exact HQ.mid ⟨rfl, rfl, rfl, rfl, rfl, rfl, rfl, rfl, rfl, rfl, rfl, rfl, rfl, trivial⟩ ⟨rfl, rfl, trivial⟩ rfl
            obtain rfl := Option.some.inj H
            refine HQ.pu (Pu.pickC0 hg62) ⟨rfl, rfl, trivial⟩ rfl rfl rfl ?_
            exact HQ.mid ⟨rfl, rfl, rfl, rfl, rfl, rfl, rfl, rfl, trivial⟩ ⟨rfl, rfl, trivial⟩ rfl
        refine HQ.pu Pu.move ⟨rfl, trivial⟩ rfl rfl rfl ?_
        obtain ⟨c73, h74, H⟩ := bnd H
        refine HQ.cutAt 5 [(52, .bool c73), (1, BP b1 0), (2, .bool false), (21, .slice a_0 (List.length p0.L) c_0), (22, .int .i64 ((List.length p0.L : Nat) : Int)), (23, .int .i64 i29), (4, BP b56 0), (3, .int .i64 i29)] [(1, Box b1 [.bool p0.Leaf, .slice a_0 (List.length p0.L) c_0]), (4, Box b56 [.int .i64 ((gt p0.L i29).N), .int .i64 ((gt p0.L i29).R.X0), .int .i64 ((gt p0.L i29).R.Y0), .int .i64 ((gt p0.L i29).R.X1), .int .i64 ((gt p0.L i29).R.Y1)])] ?_ ?_
        · clear H
          have H := h74
          rcases brk H with ⟨hg70, H⟩ | ⟨hg70, H⟩
          · obtain rfl := Option.some.inj H
            refine HQ.off rfl rfl hg70 rfl ?_
            refine HQ.off rfl rfl hg70 rfl ?_
            refine HQ.off rfl rfl hg70 rfl ?_
            refine HQ.off rfl rfl hg70 rfl ?_
            refine HQ.pu (Pu.pickC1 hg70) ⟨rfl, rfl, trivial⟩ rfl rfl rfl ?_
            exact HQ.mid ⟨rfl, rfl, rfl, rfl, rfl, rfl, rfl, rfl, trivial⟩ ⟨rfl, rfl, trivial⟩ rfl
          · refine HQ.on rfl rfl hg70 ?_
            refine HQ.pu (Pu.fieldB fo196_1 rfl) ⟨rfl, trivial⟩ rfl rfl rfl ?_
            refine HQ.on rfl rfl hg70 ?_
            refine HQ.op [4] [4] (OT.loadBA (vs := [.int .i64 ((gt p0.L i29).R.X0), .int .i64 ((gt p0.L i29).R.Y0), .int .i64 ((gt p0.L i29).R.X1), .int .i64 ((gt p0.L i29).R.Y1)]) ag194 sz194 rfl rfl) ⟨rfl, trivial⟩ ⟨rfl, trivial⟩ rfl rfl rfl rfl (fun _ => rfl) fun _ => ?_
            refine HQ.on rfl rfl hg70 ?_
            obtain ⟨t71, h72, H⟩ := bnd H
            refine HQ.op [] [] (OT.call (us := [_]) (Pre := []) [.tmp 49] Try.call184 rfl rfl fun w F hs hF hp => impl_BoxOk_c h72) ⟨rfl, rfl, trivial⟩ trivial rfl rfl rfl rfl (fun _ => rfl) fun _ => ?_
            refine HQ.on rfl rfl hg70 ?_
            refine HQ.pu Pu.not ⟨rfl, trivial⟩ rfl rfl rfl ?_
            obtain rfl := Option.some.inj H
            refine HQ.pu (Pu.pickC0 hg70) ⟨rfl, rfl, trivial⟩ rfl rfl rfl ?_
            exact HQ.mid ⟨rfl, rfl, rfl, rfl, rfl, rfl, rfl, rfl, trivial⟩ ⟨rfl, rfl, trivial⟩ rfl
        refine HQ.pu Pu.move ⟨rfl, trivial⟩ rfl rfl rfl ?_
        obtain ⟨c78, h79, H⟩ := bnd H
        refine HQ.cutAt 8 [(61, .bool c78), (1, BP b1 0), (2, .bool false), (21, .slice a_0 (List.length p0.L) c_0), (22, .int .i64 ((List.length p0.L : Nat) : Int)), (23, .int .i64 i29)] [(1, Box b1 [.bool p0.Leaf, .slice a_0 (List.length p0.L) c_0]), (4, Box b56 [.int .i64 ((gt p0.L i29).N), .int .i64 ((gt p0.L i29).R.X0), .int .i64 ((gt p0.L i29).R.Y0), .int .i64 ((gt p0.L i29).R.X1), .int .i64 ((gt p0.L i29).R.Y1)])] ?_ ?_
        · clear H
          have H := h79
          rcases brk H with ⟨hg75, H⟩ | ⟨hg75, H⟩
          · obtain rfl := Option.some.inj H
            refine HQ.off rfl rfl hg75 rfl ?_
            refine HQ.off rfl rfl hg75 rfl ?_
            refine HQ.off rfl rfl hg75 rfl ?_
            refine HQ.off rfl rfl hg75 rfl ?_
            refine HQ.off rfl rfl hg75 rfl ?_
            refine HQ.off rfl rfl hg75 rfl ?_
            refine HQ.off rfl rfl hg75 rfl ?_
            refine HQ.pu (Pu.pickC1 hg75) ⟨rfl, rfl, trivial⟩ rfl rfl rfl ?_
            exact HQ.mid ⟨rfl, rfl, rfl, rfl, rfl, rfl, trivial⟩ ⟨rfl, rfl, trivial⟩ rfl
          · refine HQ.on rfl rfl hg75 ?_
            refine HQ.pu (Pu.fieldB fo79_1 rfl) ⟨rfl, trivial⟩ rfl rfl rfl ?_
            refine HQ.on rfl rfl hg75 ?_
            refine HQ.op [1] [1] (OT.loadB sc77 rfl) ⟨rfl, trivial⟩ ⟨rfl, trivial⟩ rfl rfl rfl rfl (fun _ => rfl) fun _ => ?_
            refine HQ.on rfl rfl hg75 ?_
            refine HQ.pu (Pu.fieldB fo196_0 rfl) ⟨rfl, trivial⟩ rfl rfl rfl ?_
            refine HQ.on rfl rfl hg75 ?_
            refine HQ.op [4] [4] (OT.loadB sc3 rfl) ⟨rfl, trivial⟩ ⟨rfl, trivial⟩ rfl rfl rfl rfl (fun _ => rfl) fun _ => ?_
            refine HQ.on rfl rfl hg75 ?_
            obtain ⟨t76, h77, H⟩ := bnd H
            refine HQ.op [] [] (OT.call (us := [_, _]) (Pre := []) [.tmp 55, .tmp 57] Try.call185 rfl rfl fun w F hs hF hp => impl_EntryAt_c (hb_0.pass hp) h77) ⟨rfl, rfl, rfl, trivial⟩ trivial rfl rfl rfl rfl (fun _ => rfl) fun _ => ?_
            refine HQ.on rfl rfl hg75 ?_
            refine HQ.pu Pu.move ⟨rfl, trivial⟩ rfl rfl rfl ?_
            refine HQ.on rfl rfl hg75 ?_
            refine HQ.pu Pu.neq ⟨rfl, rfl, trivial⟩ rfl rfl rfl ?_
            obtain rfl := Option.some.inj H
            refine HQ.pu (Pu.pickC0 hg75) ⟨rfl, rfl, trivial⟩ rfl rfl rfl ?_
            exact HQ.mid ⟨rfl, rfl, rfl, rfl, rfl, rfl, trivial⟩ ⟨rfl, rfl, trivial⟩ rfl
        refine HQ.done ?_
        refine HQ.keep [(61, _), (1, _), (2, _), (21, _), (22, _), (23, _)] ⟨rfl, rfl, rfl, rfl, rfl, rfl, trivial⟩ ?_
        rcases brk H with ⟨hc, H⟩ | ⟨hc, H⟩
        · refine HQ.condT rfl hc ?_
          clear hc
          refine HQ.rseq ?_
          refine HQ.pu Pu.assign ⟨rfl, trivial⟩ rfl rfl rfl ?_
          refine HQ.done ?_
          refine HQ.keep [(1, _), (2, _), (21, _), (22, _), (23, _)] ⟨rfl, rfl, rfl, rfl, rfl, trivial⟩ ?_
          refine HQ.ret ?_
          refine HQ.blkR ?_
          refine HQ.thenR ?_
          obtain rfl := Option.some.inj H
          refine HQ.retL ?_
          exact HQ.fin (vs := [_]) Try.results160 () ⟨rfl, trivial⟩ rfl [] trivial rfl
        · refine HQ.condF rfl hc ?_
          clear hc
          refine HQ.skip ?_
          refine HQ.blkN ?_
          refine HQ.thenN ?_
          refine HQ.regionQ ?_
          refine HQ.pu Pu.add ⟨rfl, rfl, trivial⟩ rfl rfl rfl ?_
          refine HQ.pu Pu.move ⟨rfl, trivial⟩ rfl rfl rfl ?_
          refine HQ.done ?_
          refine HQ.keep [(1, _), (2, _), (21, _), (22, _), (23, _)] ⟨rfl, rfl, rfl, rfl, rfl, trivial⟩ ?_
          obtain rfl := Option.some.inj H
          exact HQ.next () ⟨rfl, rfl, rfl, rfl, rfl, trivial⟩ ⟨rfl, trivial⟩ rfl
      · refine HQ.condF rfl hc ?_
        clear hc
        refine HQ.exit ?_
        refine HQ.thenE ?_
        obtain rfl := Option.some.inj H
        exact HQ.out () ⟨rfl, rfl, rfl, rfl, rfl, trivial⟩ ⟨rfl, trivial⟩ rfl
    · rintro i81 rfl _
      clear h82
      replace H := H
      refine HQ.keep [(1, _), (2, _), (21, _), (22, _), (23, _)] ⟨rfl, rfl, rfl, rfl, rfl, trivial⟩ ?_
      refine HQ.keepR [(1, _)] ⟨rfl, trivial⟩ rfl ?_
      refine HQ.blkE ?_
      refine HQ.thenN ?_
      refine HQ.rseq ?_
      refine HQ.pu Pu.assign ⟨rfl, trivial⟩ rfl rfl rfl ?_
      refine HQ.done ?_
      refine HQ.keep [(2, _)] ⟨rfl, trivial⟩ ?_
      refine HQ.ret ?_
      obtain rfl := Option.some.inj H
      exact HQ.fin (vs := [_]) Try.results160 () ⟨rfl, trivial⟩ rfl [] trivial rfl
    · rintro r rfl a w hr
      obtain rfl := Option.some.inj H
      exact hr

/-! impl.Put2 -/
theorem impl_Put2_c {w : World} {p0 : (List Int)} {p1 : Int} {a_0 : Option Addr} {c_0 : Nat} (hb_0 : BorS kU8 a_0 c_0 p0 w.heap (Lt w Nil)) {r : (List Int)} (H : impl_Put2 p0 p1 = some r) :
    Calls Try.prog 162 #[.slice a_0 (List.length p0) c_0, .int .i64 p1] w (Rt w Nil (fun g : Option Addr × Nat => .slice g.1 (List.length r) g.2) (fun g => [OwnS kU8 g.1 g.2 r])) := by
  rw [impl_Put2] at H
  refine Calls.enter0 (N := 20) (us := [_, _]) Try.func162 rfl rfl rfl ?_
  refine HQ.rseq ?_
  refine HQ.pu Pu.assign ⟨rfl, trivial⟩ rfl rfl rfl ?_
  refine HQ.done ?_
  refine HQ.keep [(0, _), (1, _), (4, _)] ⟨rfl, rfl, rfl, trivial⟩ ?_
  refine HQ.rseq ?_
  refine HQ.pu Pu.move ⟨rfl, trivial⟩ rfl rfl rfl ?_
  obtain ⟨t1, h2, H⟩ := bnd H
  refine HQ.op [] [1] (OT.call (us := [_]) (Pre := []) [.tmp 6] Try.call154 rfl rfl fun w F hs hF hp => slices_Clone_byte_byte_c (hb_0.pass hp) h2) ⟨rfl, rfl, trivial⟩ trivial rfl rfl rfl rfl (fun _ => rfl) fun ⟨a3, c4⟩ => ?_
  refine HQ.pu Pu.assign ⟨rfl, trivial⟩ rfl rfl rfl ?_
  refine HQ.done ?_
  refine HQ.keep [(1, _), (4, _), (5, _)] ⟨rfl, rfl, rfl, trivial⟩ ?_
  refine HQ.seq ?_
  refine HQ.rseq ?_
  refine HQ.pu Pu.move ⟨rfl, trivial⟩ rfl rfl rfl ?_
  obtain ⟨t5, h6, H⟩ := bnd H
  refine HQ.op [] [] (OT.call (us := [_, _, _]) (Pre := []) [.tmp 8, .const (.int .i64 0), .const (.int .i64 65535)] Try.call91 rfl rfl fun w F hs hF hp => impl_in_c h6) ⟨rfl, rfl, rfl, rfl, trivial⟩ trivial rfl rfl rfl rfl (fun _ => rfl) fun _ => ?_
  refine HQ.pu Pu.not ⟨rfl, trivial⟩ rfl rfl rfl ?_
  refine HQ.done ?_
  refine HQ.keep [(1, _), (4, _), (5, _), (10, _)] ⟨rfl, rfl, rfl, rfl, trivial⟩ ?_
  rcases brk H with ⟨hc, H⟩ | ⟨hc, H⟩
  · refine HQ.condT rfl hc ?_
    clear hc
    refine HQ.rseq ?_
    refine HQ.pu Pu.move ⟨rfl, trivial⟩ rfl rfl rfl ?_
    refine HQ.pu Pu.assign ⟨rfl, trivial⟩ rfl rfl rfl ?_
    refine HQ.done ?_
    refine HQ.keep [(1, _), (4, _), (5, _)] ⟨rfl, rfl, rfl, trivial⟩ ?_
    refine HQ.ret ?_
    refine HQ.thenR ?_
    obtain rfl := Option.some.inj H
    exact HQ.fin (vs := [_]) Try.results162 (a3, c4) ⟨rfl, trivial⟩ rfl [1] ⟨rfl, trivial⟩ rfl
  · refine HQ.condF rfl hc ?_
    clear hc
    refine HQ.skipThen ?_
    refine HQ.rseq ?_
    refine HQ.pu Pu.move ⟨rfl, trivial⟩ rfl rfl rfl ?_
    refine HQ.pu Pu.move ⟨rfl, trivial⟩ rfl rfl rfl ?_
    refine HQ.pu (Pu.shr (by decide)) ⟨rfl, rfl, trivial⟩ rfl rfl rfl ?_
    refine HQ.pu (Pu.conv ul3 ul5) ⟨rfl, trivial⟩ rfl rfl rfl ?_
    refine HQ.pu Pu.move ⟨rfl, trivial⟩ rfl rfl rfl ?_
    refine HQ.pu (Pu.conv ul3 ul5) ⟨rfl, trivial⟩ rfl rfl rfl ?_
    refine HQ.op [] [2] (OT.buildF (us := [.int .u8 (IntKind.u8.wrap (Int.fdiv p1 (2 ^ (min (Int.toNat 8) 64)))), .int .u8 (IntKind.u8.wrap p1)]) (ys := ([(IntKind.u8.wrap (Int.fdiv p1 (2 ^ (min (Int.toNat 8) 64)))), (IntKind.u8.wrap p1)] : (List Int))) (enc := (encI .u8)) (hl := fun _ => ⟨rfl, rfl⟩) [.tmp 15, .tmp 17] sl37.ul sl37.szE sl37.zc rfl rfl rfl rfl rfl) ⟨rfl, rfl, trivial⟩ trivial rfl rfl rfl rfl (fun _ => rfl) fun ⟨a7, c8⟩ => ?_
    obtain ⟨h11, H⟩ := asr H
    refine HQ.op [1, 2] [1, 2] (OT.appendG (enc := (encI .u8)) (hl := fun _ => ⟨rfl, rfl⟩) sl37 ul37 h11) ⟨rfl, rfl, trivial⟩ ⟨rfl, rfl, trivial⟩ rfl rfl rfl rfl (fun _ => rfl) fun ⟨a9, c10⟩ => ?_
    refine HQ.pu Pu.assign ⟨rfl, trivial⟩ rfl rfl rfl ?_
    refine HQ.done ?_
    refine HQ.keep [(4, _)] ⟨rfl, trivial⟩ ?_
    refine HQ.ret ?_
    obtain rfl := Option.some.inj H
    exact HQ.fin (vs := [_]) Try.results162 (a9, c10) ⟨rfl, trivial⟩ rfl [1] ⟨rfl, trivial⟩ rfl

end Go.Proofs.Sx
