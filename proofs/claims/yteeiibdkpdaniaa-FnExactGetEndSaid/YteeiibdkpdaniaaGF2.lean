import Derived.Test.YteeiibdkpdaniaaGF1
import Derived.KernelRfl
namespace Go.Proofs.Sx
open Go.RowKit
set_option linter.unusedVariables false
set_option linter.unusedSimpArgs false
set_option maxRecDepth 20000
set_option maxHeartbeats 1000000
/-! spec.TxOk -/
theorem spec_TxOk_c {w : World} {k : Nat} {p0 : TTx} {a_0 : Option Addr} {c_0 : Nat} (hb_0 : BorS kTChange a_0 c_0 p0.Puts w.heap (Lt w Nil)) {r : Bool} (H : spec_TxOk k p0 = some r) :
    Calls Try.prog 19 #[.agg #[.int .i64 p0.Seq, .int .i64 p0.Root, .int .i64 p0.Size, .slice a_0 (List.length p0.Puts) c_0]] w (Rt w Nil (fun _ : Unit => .bool r) (fun _ => [])) := by
  rw [spec_TxOk] at H
  refine Calls.enter0 (N := 67) (us := [_]) Try.func19 rfl rfl rfl ?_
  refine HQ.rseq ?_
  refine HQ.op [] [1] (OT.box (cs := [.int .i64 p0.Seq, .int .i64 p0.Root, .int .i64 p0.Size, .slice a_0 (List.length p0.Puts) c_0]) rfl) ⟨rfl, trivial⟩ trivial rfl rfl rfl rfl (fun _ => rfl) fun b1 => ?_
  refine HQ.pu Pu.assign ⟨rfl, trivial⟩ rfl rfl rfl ?_
  refine HQ.done ?_
  refine HQ.keep [(1, _), (2, _)] ⟨rfl, rfl, trivial⟩ ?_
  refine HQ.seq ?_
  refine HQ.rseq ?_
  refine HQ.pu Pu.assign ⟨rfl, trivial⟩ rfl rfl rfl ?_
  refine HQ.done ?_
  refine HQ.keep [(1, _), (2, _), (3, _)] ⟨rfl, rfl, rfl, trivial⟩ ?_
  refine HQ.block ?_
  obtain ⟨o174, h188, H⟩ := bnd H
  refine HQ.loop h188 0 (fun (s : Int) (g : Unit) => match s, g with | i59, () => [(1, BP b1 0), (2, .bool false), (3, .int .i64 i59)]) (fun (s : Int) (g : Unit) => match s, g with | i59, () => [(1, Box b1 [.int .i64 p0.Seq, .int .i64 p0.Root, .int .i64 p0.Size, .slice a_0 (List.length p0.Puts) c_0])]) (fun r => bodyPost Try.prog Try.f19 (Rt w Nil (fun _ : Unit => .bool r) (fun _ => [])) .ret) () ⟨rfl, rfl, rfl, trivial⟩ ⟨rfl, trivial⟩ rfl ?_ ?_ ?_
  · clear H h188
    rintro i59 _ o H
    rw [spec_TxOk_b2] at H
    refine HQ.keep [(1, _), (2, _), (3, _)] ⟨rfl, rfl, rfl, trivial⟩ ?_
    refine HQ.keepR [(1, _)] ⟨rfl, trivial⟩ rfl ?_
    refine HQ.seq ?_
    refine HQ.rseq ?_
    refine HQ.pu Pu.move ⟨rfl, trivial⟩ rfl rfl rfl ?_
    refine HQ.pu (Pu.fieldB fo47_3 rfl) ⟨rfl, trivial⟩ rfl rfl rfl ?_
    refine HQ.op [1] [1] (OT.loadB sc45 rfl) ⟨rfl, trivial⟩ ⟨rfl, trivial⟩ rfl rfl rfl rfl (fun _ => rfl) fun _ => ?_
    refine HQ.pu (Pu.len ul45) ⟨rfl, trivial⟩ rfl rfl rfl ?_
    refine HQ.pu Pu.lss ⟨rfl, rfl, trivial⟩ rfl rfl rfl ?_
    refine HQ.done ?_
    refine HQ.keep [(1, _), (2, _), (3, _), (5, _), (6, _), (7, _), (8, _), (9, _)] ⟨rfl, rfl, rfl, rfl, rfl, rfl, rfl, rfl, trivial⟩ ?_
    rcases brk H with ⟨hc, H⟩ | ⟨hc, H⟩
    · refine HQ.condT rfl hc ?_
      clear hc
      refine HQ.skipThen ?_
      refine HQ.seq ?_
      refine HQ.block ?_
      refine HQ.seq ?_
      refine HQ.seq ?_
      refine HQ.dStart mixd ?_
      obtain ⟨h118, H⟩ := asr H
      obtain ⟨⟨a119, c120⟩, hb121, hn122⟩ := BorS.nest hb_0 h118
      refine HQ.dPart [(1, BP b1 0), (2, .bool false), (3, .int .i64 i59), (5, .int .i64 i59), (6, BP b1 3), (7, .slice a_0 (List.length p0.Puts) c_0), (8, .int .i64 ((List.length p0.Puts : Nat) : Int)), (9, .bool (decide (i59 < ((List.length p0.Puts : Nat) : Int))))] 9 [⟨[], [], []⟩, ⟨[0], [0], [0]⟩, ⟨[], [], []⟩, ⟨[], [], [1, 2]⟩, ⟨[], [], [3]⟩, ⟨[], [], [4]⟩, ⟨[], [], []⟩, ⟨[0], [0], [6]⟩, ⟨[], [], [7]⟩] [⟨none, none⟩] (fun (g117 : Unit) => [BP b1 3, .slice a_0 (List.length p0.Puts) c_0, .int .i64 i59, EP a_0 i59 3 0, EP a_0 i59 3 0, .int .i64 ((gt p0.Puts i59).Page), BP b1 2, .int .i64 p0.Size, .int .i64 (wrap64 (p0.Size - 1))]) (fun (g117 : Unit) => [Box b1 [.int .i64 p0.Seq, .int .i64 p0.Root, .int .i64 p0.Size, .slice a_0 (List.length p0.Puts) c_0]]) () [1] [1] [] ⟨rfl, rfl, rfl, rfl, rfl, rfl, rfl, rfl, trivial⟩ ⟨rfl, trivial⟩ rfl (by kernel_rfl) (by kernel_rfl) (fun _ => rfl) (by kernel_rfl) (fun _ => rfl) rfl ⟨?_, ?_, ?_, ?_, ?_, ?_, ?_, ?_, ?_, trivial⟩ fun g117 => ?_
      · exact OpOK2.of (fun g117 => [(.tmp 1, BP b1 0)]) _ _ (fun g117 _ => g117) rfl rfl (fun _ => ⟨rfl, trivial⟩) (fun g117 => Pu.toOT (Pu.fieldB fo47_3 rfl)) (fun _ _ => ⟨rfl, rfl, ⟨rfl, trivial⟩⟩)
      · exact OpOK2.of (fun g117 => [(.tmp 12, BP b1 3)]) _ _ (fun g117 _ => g117) rfl rfl (fun _ => ⟨rfl, trivial⟩) (fun g117 => OT.loadB sc45 rfl) (fun _ _ => ⟨rfl, rfl, ⟨rfl, trivial⟩⟩)
      · exact OpOK2.of (fun g117 => [(.tmp 3, .int .i64 i59)]) _ _ (fun g117 _ => g117) rfl rfl (fun _ => ⟨rfl, trivial⟩) (fun g117 => Pu.toOT Pu.move) (fun _ _ => ⟨rfl, rfl, ⟨rfl, trivial⟩⟩)
      · exact OpOK2.of (fun g117 => [(.tmp 13, .slice a_0 (List.length p0.Puts) c_0), (.tmp 14, .int .i64 i59)]) _ _ (fun g117 _ => g117) rfl rfl (fun _ => ⟨rfl, rfl, trivial⟩) (fun g117 => OT.indexB ul45 sz73 hb_0 h118) (fun _ _ => ⟨rfl, rfl, ⟨rfl, trivial⟩⟩)
      · exact OpOK2.of (fun g117 => [(.tmp 15, EP a_0 i59 3 0)]) _ _ (fun g117 _ => g117) rfl rfl (fun _ => ⟨rfl, trivial⟩) (fun g117 => Pu.toOT (Pu.fieldE fo73_0 rfl)) (fun _ _ => ⟨rfl, rfl, ⟨rfl, trivial⟩⟩)
      · exact OpOK2.of (fun g117 => [(.tmp 16, EP a_0 i59 3 0)]) _ _ (fun g117 _ => g117) rfl rfl (fun _ => ⟨rfl, trivial⟩) (fun g117 => OT.loadN (v := .int .i64 ((gt p0.Puts i59).Page)) sc3 hn122 hlTChange rfl) (fun _ _ => ⟨rfl, rfl, ⟨rfl, trivial⟩⟩)
      · exact OpOK2.of (fun g117 => [(.tmp 1, BP b1 0)]) _ _ (fun g117 _ => g117) rfl rfl (fun _ => ⟨rfl, trivial⟩) (fun g117 => Pu.toOT (Pu.fieldB fo47_2 rfl)) (fun _ _ => ⟨rfl, rfl, ⟨rfl, trivial⟩⟩)
      · exact OpOK2.of (fun g117 => [(.tmp 18, BP b1 2)]) _ _ (fun g117 _ => g117) rfl rfl (fun _ => ⟨rfl, trivial⟩) (fun g117 => OT.loadB sc3 rfl) (fun _ _ => ⟨rfl, rfl, ⟨rfl, trivial⟩⟩)
      · exact OpOK2.of (fun g117 => [(.tmp 19, .int .i64 p0.Size), (.const (.int .i64 1), .int .i64 1)]) _ _ (fun g117 _ => g117) rfl rfl (fun _ => ⟨rfl, rfl, trivial⟩) (fun g117 => Pu.toOT Pu.sub) (fun _ _ => ⟨rfl, rfl, ⟨rfl, trivial⟩⟩)
      refine HQ.keep [(1, _), (2, _), (3, _), (5, _), (6, _), (7, _), (8, _), (9, _), (12, _), (13, _), (14, _), (15, _), (16, _), (17, _), (18, _), (19, _), (20, _)] ⟨rfl, rfl, rfl, rfl, rfl, rfl, rfl, rfl, rfl, rfl, rfl, rfl, rfl, rfl, rfl, rfl, rfl, trivial⟩ ?_
      refine HQ.keepR [(1, _)] ⟨rfl, trivial⟩ rfl ?_
      refine HQ.dRun 3 rfl rfl (by kernel_rfl) (by kernel_rfl) ?_
      obtain ⟨t123, h124, H⟩ := bnd H
      refine HQ.op [] [] (OT.call (us := [_, _, _]) (Pre := []) [.tmp 17, .const (.int .i64 0), .tmp 20] Try.call49 rfl rfl fun w F hs hF hp => spec_l1In_c h124) ⟨rfl, rfl, rfl, rfl, trivial⟩ trivial rfl rfl rfl rfl (fun _ => rfl) fun _ => ?_
      refine HQ.pu Pu.not ⟨rfl, trivial⟩ rfl rfl rfl ?_
      refine HQ.pu Pu.move ⟨rfl, trivial⟩ rfl rfl rfl ?_
      refine HQ.done ?_
      obtain ⟨c135, h136, H⟩ := bnd H
      refine HQ.dMid (m' := 21) [(32, .bool c135), (1, BP b1 0), (2, .bool false), (3, .int .i64 i59), (5, .int .i64 i59), (6, BP b1 3), (7, .slice a_0 (List.length p0.Puts) c_0), (8, .int .i64 ((List.length p0.Puts : Nat) : Int)), (9, .bool (decide (i59 < ((List.length p0.Puts : Nat) : Int)))), (12, BP b1 3), (13, .slice a_0 (List.length p0.Puts) c_0), (14, .int .i64 i59), (15, EP a_0 i59 3 0), (16, EP a_0 i59 3 0), (17, .int .i64 ((gt p0.Puts i59).Page)), (18, BP b1 2), (19, .int .i64 p0.Size), (20, .int .i64 (wrap64 (p0.Size - 1))), (21, .bool t123), (22, .bool (!t123)), (23, .bool (!t123))] [(1, Box b1 [.int .i64 p0.Seq, .int .i64 p0.Root, .int .i64 p0.Size, .slice a_0 (List.length p0.Puts) c_0])] (fun hmid => ?_) ?_
      · clear H
        have H := h136
        rcases brk H with ⟨hg125, H⟩ | ⟨hg125, H⟩
        · obtain rfl := Option.some.inj H
          refine HQ.dPart [(1, BP b1 0), (2, .bool false), (3, .int .i64 i59), (5, .int .i64 i59), (6, BP b1 3), (7, .slice a_0 (List.length p0.Puts) c_0), (8, .int .i64 ((List.length p0.Puts : Nat) : Int)), (9, .bool (decide (i59 < ((List.length p0.Puts : Nat) : Int)))), (12, BP b1 3), (13, .slice a_0 (List.length p0.Puts) c_0), (14, .int .i64 i59), (15, EP a_0 i59 3 0), (16, EP a_0 i59 3 0), (17, .int .i64 ((gt p0.Puts i59).Page)), (18, BP b1 2), (19, .int .i64 p0.Size), (20, .int .i64 (wrap64 (p0.Size - 1))), (21, .bool t123), (22, .bool (!t123)), (23, .bool (!t123))] 15 [⟨[], [], []⟩, ⟨[], [], []⟩, ⟨[], [], []⟩, ⟨[], [], []⟩, ⟨[], [], []⟩, ⟨[], [], []⟩, ⟨[], [], []⟩, ⟨[], [], []⟩, ⟨[], [], []⟩, ⟨[], [], []⟩, ⟨[], [], []⟩, ⟨[], [], []⟩, ⟨[], [], []⟩, ⟨[], [], []⟩, ⟨[], [], []⟩] [] (fun (g134 : Unit) => [undef, undef, undef, undef, undef, undef, undef, undef, undef, undef, undef, undef, undef, undef, undef]) (fun (g134 : Unit) => []) () [] [] [] ⟨rfl, rfl, rfl, rfl, rfl, rfl, rfl, rfl, rfl, rfl, rfl, rfl, rfl, rfl, rfl, rfl, rfl, rfl, rfl, rfl, trivial⟩ trivial rfl (by kernel_rfl) (by kernel_rfl) (fun _ => rfl) (by kernel_rfl) (fun _ => rfl) rfl ⟨?_, ?_, ?_, trivial⟩ fun g134 => ?_
          · exact OpOK2.off rfl rfl rfl hg125 rfl rfl (fun _ => ⟨rfl, trivial⟩)
          · exact OpOK2.off rfl rfl rfl hg125 rfl rfl (fun _ => ⟨rfl, trivial⟩)
          · exact OpOK2.off rfl rfl rfl hg125 rfl rfl (fun _ => ⟨rfl, trivial⟩)
          refine HQ.keep [(1, _), (2, _), (3, _), (5, _), (6, _), (7, _), (8, _), (9, _), (12, _), (13, _), (14, _), (15, _), (16, _), (17, _), (18, _), (19, _), (20, _), (21, _), (22, _), (23, _), (24, _), (25, _), (26, _)] ⟨rfl, rfl, rfl, rfl, rfl, rfl, rfl, rfl, rfl, rfl, rfl, rfl, rfl, rfl, rfl, rfl, rfl, rfl, rfl, rfl, rfl, rfl, rfl, trivial⟩ ?_
          refine HQ.keepR [(1, _)] ⟨rfl, trivial⟩ rfl ?_
          refine HQ.dRun 5 rfl rfl (by kernel_rfl) (by kernel_rfl) ?_
          refine HQ.off rfl rfl hg125 rfl ?_
          refine HQ.off rfl rfl hg125 rfl ?_
          refine HQ.off rfl rfl hg125 rfl ?_
          refine HQ.off rfl rfl hg125 rfl ?_
          refine HQ.off rfl rfl hg125 rfl ?_
          refine HQ.done ?_
          refine HQ.dRun 1 rfl rfl (by kernel_rfl) (by kernel_rfl) ?_
          refine HQ.pu (Pu.pickC1 hg125) ⟨rfl, rfl, trivial⟩ rfl rfl rfl ?_
          refine HQ.done ?_
          exact HQ.dUse hmid ⟨rfl, rfl, rfl, rfl, rfl, rfl, rfl, rfl, rfl, rfl, rfl, rfl, rfl, rfl, rfl, rfl, rfl, rfl, rfl, rfl, rfl, trivial⟩ ⟨rfl, trivial⟩ rfl
        · refine HQ.dPart [(1, BP b1 0), (2, .bool false), (3, .int .i64 i59), (5, .int .i64 i59), (6, BP b1 3), (7, .slice a_0 (List.length p0.Puts) c_0), (8, .int .i64 ((List.length p0.Puts : Nat) : Int)), (9, .bool (decide (i59 < ((List.length p0.Puts : Nat) : Int)))), (12, BP b1 3), (13, .slice a_0 (List.length p0.Puts) c_0), (14, .int .i64 i59), (15, EP a_0 i59 3 0), (16, EP a_0 i59 3 0), (17, .int .i64 ((gt p0.Puts i59).Page)), (18, BP b1 2), (19, .int .i64 p0.Size), (20, .int .i64 (wrap64 (p0.Size - 1))), (21, .bool t123), (22, .bool (!t123)), (23, .bool (!t123))] 15 [⟨[], [], []⟩, ⟨[], [], []⟩, ⟨[], [], []⟩, ⟨[], [], []⟩, ⟨[], [], []⟩, ⟨[], [], []⟩, ⟨[], [], []⟩, ⟨[], [], []⟩, ⟨[], [], []⟩, ⟨[], [], []⟩, ⟨[], [], []⟩, ⟨[], [], []⟩, ⟨[], [], []⟩, ⟨[0], [0], [12]⟩, ⟨[], [], []⟩] [⟨none, none⟩] (fun (g126 : Unit) => [undef, undef, undef, undef, undef, undef, undef, undef, undef, undef, undef, undef, BP b1 3, .slice a_0 (List.length p0.Puts) c_0, .int .i64 i59]) (fun (g126 : Unit) => [Box b1 [.int .i64 p0.Seq, .int .i64 p0.Root, .int .i64 p0.Size, .slice a_0 (List.length p0.Puts) c_0]]) () [1] [1] [] ⟨rfl, rfl, rfl, rfl, rfl, rfl, rfl, rfl, rfl, rfl, rfl, rfl, rfl, rfl, rfl, rfl, rfl, rfl, rfl, rfl, trivial⟩ ⟨rfl, trivial⟩ rfl (by kernel_rfl) (by kernel_rfl) (fun _ => rfl) (by kernel_rfl) (fun _ => rfl) rfl ⟨?_, ?_, ?_, trivial⟩ fun g126 => ?_
          · exact OpOK2.on (fun g126 => [(.tmp 1, BP b1 0)]) _ _ (fun g126 _ => g126) rfl rfl rfl hg125 (fun _ => ⟨rfl, trivial⟩) (fun g126 => Pu.toOT (Pu.fieldB fo47_3 rfl)) (fun _ _ => ⟨rfl, rfl, ⟨rfl, trivial⟩⟩)
          · exact OpOK2.on (fun g126 => [(.tmp 24, BP b1 3)]) _ _ (fun g126 _ => g126) rfl rfl rfl hg125 (fun _ => ⟨rfl, trivial⟩) (fun g126 => OT.loadB sc45 rfl) (fun _ _ => ⟨rfl, rfl, ⟨rfl, trivial⟩⟩)
          · exact OpOK2.on (fun g126 => [(.tmp 3, .int .i64 i59)]) _ _ (fun g126 _ => g126) rfl rfl rfl hg125 (fun _ => ⟨rfl, trivial⟩) (fun g126 => Pu.toOT Pu.move) (fun _ _ => ⟨rfl, rfl, ⟨rfl, trivial⟩⟩)
          refine HQ.keep [(1, _), (2, _), (3, _), (5, _), (6, _), (7, _), (8, _), (9, _), (12, _), (13, _), (14, _), (15, _), (16, _), (17, _), (18, _), (19, _), (20, _), (21, _), (22, _), (23, _), (24, _), (25, _), (26, _)] ⟨rfl, rfl, rfl, rfl, rfl, rfl, rfl, rfl, rfl, rfl, rfl, rfl, rfl, rfl, rfl, rfl, rfl, rfl, rfl, rfl, rfl, rfl, rfl, trivial⟩ ?_
          refine HQ.keepR [(1, _)] ⟨rfl, trivial⟩ rfl ?_
          refine HQ.dRun 5 rfl rfl (by kernel_rfl) (by kernel_rfl) ?_
          refine HQ.on rfl rfl hg125 ?_
          obtain ⟨h127, H⟩ := asr H
          refine HQ.op [] [] (OT.indexB ul45 sz73 hb_0 h127) ⟨rfl, rfl, trivial⟩ trivial rfl rfl rfl rfl (fun _ => rfl) fun _ => ?_
          refine HQ.on rfl rfl hg125 ?_
          refine HQ.pu (Pu.fieldE fo73_1 rfl) ⟨rfl, trivial⟩ rfl rfl rfl ?_
          refine HQ.on rfl rfl hg125 ?_
          obtain ⟨⟨a128, c129⟩, hb130, hn131⟩ := BorS.nest hb_0 h127
          refine HQ.op [] [] (OT.loadNA (vs := [.bool ((gt p0.Puts i59).N.Leaf), .slice a128 (List.length ((gt p0.Puts i59).N.L)) c129]) ag58 sz58 hn131 hlTChange rfl rfl) ⟨rfl, trivial⟩ trivial rfl rfl rfl rfl (fun _ => rfl) fun _ => ?_
          refine HQ.on rfl rfl hg125 ?_
          obtain ⟨t132, h133, H⟩ := bnd H
          refine HQ.op [] [] (OT.call (us := [_]) (Pre := []) [.tmp 29] Try.call58 rfl rfl fun w F hs hF hp => spec_NodeOk_c (hb130.pass hp) h133) ⟨rfl, rfl, trivial⟩ trivial rfl rfl rfl rfl (fun _ => rfl) fun _ => ?_
          refine HQ.on rfl rfl hg125 ?_
          refine HQ.pu Pu.not ⟨rfl, trivial⟩ rfl rfl rfl ?_
          refine HQ.done ?_
          obtain rfl := Option.some.inj H
          refine HQ.dRun 1 rfl rfl (by kernel_rfl) (by kernel_rfl) ?_
          refine HQ.pu (Pu.pickC0 hg125) ⟨rfl, rfl, trivial⟩ rfl rfl rfl ?_
          refine HQ.done ?_
          exact HQ.dUse hmid ⟨rfl, rfl, rfl, rfl, rfl, rfl, rfl, rfl, rfl, rfl, rfl, rfl, rfl, rfl, rfl, rfl, rfl, rfl, rfl, rfl, rfl, trivial⟩ ⟨rfl, trivial⟩ rfl
      refine HQ.dEnd rfl ?_
      refine HQ.thenN ?_
      refine HQ.keep [(32, _), (1, _), (2, _), (3, _), (5, _), (6, _), (7, _), (8, _), (9, _), (12, _), (13, _), (14, _), (15, _), (16, _), (17, _), (18, _), (19, _), (20, _), (21, _), (22, _), (23, _)] ⟨rfl, rfl, rfl, rfl, rfl, rfl, rfl, rfl, rfl, rfl, rfl, rfl, rfl, rfl, rfl, rfl, rfl, rfl, rfl, rfl, rfl, trivial⟩ ?_
      rcases brk H with ⟨hc, H⟩ | ⟨hc, H⟩
      · refine HQ.condT rfl hc ?_
        clear hc
        refine HQ.rseq ?_
        refine HQ.pu Pu.assign ⟨rfl, trivial⟩ rfl rfl rfl ?_
        refine HQ.done ?_
        refine HQ.keep [(32, _), (1, _), (2, _), (3, _), (5, _), (6, _), (7, _), (8, _), (9, _), (12, _), (13, _), (14, _), (15, _), (16, _), (17, _), (18, _), (19, _), (20, _), (21, _), (22, _), (23, _)] ⟨rfl, rfl, rfl, rfl, rfl, rfl, rfl, rfl, rfl, rfl, rfl, rfl, rfl, rfl, rfl, rfl, rfl, rfl, rfl, rfl, rfl, trivial⟩ ?_
        refine HQ.ret ?_
        refine HQ.thenR ?_
        refine HQ.blkR ?_
        refine HQ.thenR ?_
        obtain rfl := Option.some.inj H
        refine HQ.retL ?_
        exact HQ.fin (vs := [_]) Try.results19 () ⟨rfl, trivial⟩ rfl [] trivial rfl
      · refine HQ.condF rfl hc ?_
        clear hc
        refine HQ.skipThen ?_
        refine HQ.rseq ?_
        refine HQ.pu Pu.assign ⟨rfl, trivial⟩ rfl rfl rfl ?_
        refine HQ.done ?_
        refine HQ.keep [(32, _), (1, _), (2, _), (3, _), (5, _), (6, _), (7, _), (8, _), (9, _), (12, _), (13, _), (14, _), (15, _), (16, _), (17, _), (18, _), (19, _), (20, _), (21, _), (22, _), (23, _), (4, _)] ⟨rfl, rfl, rfl, rfl, rfl, rfl, rfl, rfl, rfl, rfl, rfl, rfl, rfl, rfl, rfl, rfl, rfl, rfl, rfl, rfl, rfl, rfl, trivial⟩ ?_
        refine HQ.block ?_
        obtain ⟨o171, h173, H⟩ := bnd H
        refine HQ.loop h173 2 (fun (s : Int) (g : Unit) => match s, g with | i148, () => [(32, .bool c135), (1, BP b1 0), (2, .bool false), (3, .int .i64 i59), (5, .int .i64 i59), (6, BP b1 3), (7, .slice a_0 (List.length p0.Puts) c_0), (8, .int .i64 ((List.length p0.Puts : Nat) : Int)), (9, .bool (decide (i59 < ((List.length p0.Puts : Nat) : Int)))), (12, BP b1 3), (13, .slice a_0 (List.length p0.Puts) c_0), (14, .int .i64 i59), (15, EP a_0 i59 3 0), (16, EP a_0 i59 3 0), (17, .int .i64 ((gt p0.Puts i59).Page)), (18, BP b1 2), (19, .int .i64 p0.Size), (20, .int .i64 (wrap64 (p0.Size - 1))), (21, .bool t123), (22, .bool (!t123)), (23, .bool (!t123)), (4, .int .i64 i148)]) (fun (s : Int) (g : Unit) => match s, g with | i148, () => [(1, Box b1 [.int .i64 p0.Seq, .int .i64 p0.Root, .int .i64 p0.Size, .slice a_0 (List.length p0.Puts) c_0])]) (fun r => bodyPost Try.prog Try.f19 (Rt w Nil (fun _ : Unit => .bool r) (fun _ => [])) .ret) () ⟨rfl, rfl, rfl, rfl, rfl, rfl, rfl, rfl, rfl, rfl, rfl, rfl, rfl, rfl, rfl, rfl, rfl, rfl, rfl, rfl, rfl, rfl, trivial⟩ ⟨rfl, trivial⟩ rfl ?_ ?_ ?_
        · clear H h173
          rintro i148 _ o H
          rw [spec_TxOk_b3] at H
          refine HQ.keep [(32, _), (1, _), (2, _), (3, _), (5, _), (6, _), (7, _), (8, _), (9, _), (12, _), (13, _), (14, _), (15, _), (16, _), (17, _), (18, _), (19, _), (20, _), (21, _), (22, _), (23, _), (4, _)] ⟨rfl, rfl, rfl, rfl, rfl, rfl, rfl, rfl, rfl, rfl, rfl, rfl, rfl, rfl, rfl, rfl, rfl, rfl, rfl, rfl, rfl, rfl, trivial⟩ ?_
          refine HQ.keepR [(1, _)] ⟨rfl, trivial⟩ rfl ?_
          refine HQ.seq ?_
          refine HQ.rseq ?_
          refine HQ.pu Pu.move ⟨rfl, trivial⟩ rfl rfl rfl ?_
          refine HQ.pu Pu.move ⟨rfl, trivial⟩ rfl rfl rfl ?_
          refine HQ.pu Pu.lss ⟨rfl, rfl, trivial⟩ rfl rfl rfl ?_
          refine HQ.done ?_
          refine HQ.keep [(32, _), (1, _), (2, _), (3, _), (5, _), (6, _), (7, _), (8, _), (9, _), (12, _), (13, _), (14, _), (15, _), (16, _), (17, _), (18, _), (19, _), (20, _), (21, _), (22, _), (23, _), (4, _), (33, _), (34, _), (35, _)] ⟨rfl, rfl, rfl, rfl, rfl, rfl, rfl, rfl, rfl, rfl, rfl, rfl, rfl, rfl, rfl, rfl, rfl, rfl, rfl, rfl, rfl, rfl, rfl, rfl, rfl, trivial⟩ ?_
          rcases brk H with ⟨hc, H⟩ | ⟨hc, H⟩
          · refine HQ.condT rfl hc ?_
            clear hc
            refine HQ.skipThen ?_
            refine HQ.seq ?_
            refine HQ.block ?_
            obtain ⟨h161, H⟩ := asr H
            obtain ⟨h166, H⟩ := asr H
            obtain ⟨⟨a162, c163⟩, hb164, hn165⟩ := BorS.nest hb_0 h161
            obtain ⟨⟨a167, c168⟩, hb169, hn170⟩ := BorS.nest hb_0 h166
            refine HQ.drawS mixd [(32, .bool c135), (1, BP b1 0), (2, .bool false), (3, .int .i64 i59), (5, .int .i64 i59), (6, BP b1 3), (7, .slice a_0 (List.length p0.Puts) c_0), (8, .int .i64 ((List.length p0.Puts : Nat) : Int)), (9, .bool (decide (i59 < ((List.length p0.Puts : Nat) : Int)))), (12, BP b1 3), (13, .slice a_0 (List.length p0.Puts) c_0), (14, .int .i64 i59), (15, EP a_0 i59 3 0), (16, EP a_0 i59 3 0), (17, .int .i64 ((gt p0.Puts i59).Page)), (18, BP b1 2), (19, .int .i64 p0.Size), (20, .int .i64 (wrap64 (p0.Size - 1))), (21, .bool t123), (22, .bool (!t123)), (23, .bool (!t123)), (4, .int .i64 i148), (33, .int .i64 i148), (34, .int .i64 i59), (35, .bool (decide (i148 < i59)))] 12 [⟨[], [], []⟩, ⟨[0], [0], [0]⟩, ⟨[], [], []⟩, ⟨[], [], [1, 2]⟩, ⟨[], [], [3]⟩, ⟨[], [], [4]⟩, ⟨[], [], []⟩, ⟨[0], [0], [6]⟩, ⟨[], [], []⟩, ⟨[], [], [7, 8]⟩, ⟨[], [], [9]⟩, ⟨[], [], [10]⟩] [⟨none, none⟩] (fun (g160 : Unit) => [BP b1 3, .slice a_0 (List.length p0.Puts) c_0, .int .i64 i148, EP a_0 i148 3 0, EP a_0 i148 3 0, .int .i64 ((gt p0.Puts i148).Page), BP b1 3, .slice a_0 (List.length p0.Puts) c_0, .int .i64 i59, EP a_0 i59 3 0, EP a_0 i59 3 0, .int .i64 ((gt p0.Puts i59).Page)]) (fun (g160 : Unit) => [Box b1 [.int .i64 p0.Seq, .int .i64 p0.Root, .int .i64 p0.Size, .slice a_0 (List.length p0.Puts) c_0]]) () [1] [1] [] ⟨rfl, rfl, rfl, rfl, rfl, rfl, rfl, rfl, rfl, rfl, rfl, rfl, rfl, rfl, rfl, rfl, rfl, rfl, rfl, rfl, rfl, rfl, rfl, rfl, rfl, trivial⟩ ⟨rfl, trivial⟩ rfl (by kernel_rfl) (fun _ => rfl) (by kernel_rfl) (fun _ => rfl) ⟨?_, ?_, ?_, ?_, ?_, ?_, ?_, ?_, ?_, ?_, ?_, ?_, trivial⟩ fun g160 => ?_
            · exact OpOK.of (fun g160 => [(.tmp 1, BP b1 0)]) _ _ (fun g160 _ => g160) rfl rfl (fun _ => ⟨rfl, trivial⟩) (fun g160 => Pu.toOT (Pu.fieldB fo47_3 rfl)) (fun _ _ => ⟨rfl, rfl, ⟨rfl, trivial⟩⟩)
            · exact OpOK.of (fun g160 => [(.tmp 38, BP b1 3)]) _ _ (fun g160 _ => g160) rfl rfl (fun _ => ⟨rfl, trivial⟩) (fun g160 => OT.loadB sc45 rfl) (fun _ _ => ⟨rfl, rfl, ⟨rfl, trivial⟩⟩)
            · exact OpOK.of (fun g160 => [(.tmp 4, .int .i64 i148)]) _ _ (fun g160 _ => g160) rfl rfl (fun _ => ⟨rfl, trivial⟩) (fun g160 => Pu.toOT Pu.move) (fun _ _ => ⟨rfl, rfl, ⟨rfl, trivial⟩⟩)
            · exact OpOK.of (fun g160 => [(.tmp 39, .slice a_0 (List.length p0.Puts) c_0), (.tmp 40, .int .i64 i148)]) _ _ (fun g160 _ => g160) rfl rfl (fun _ => ⟨rfl, rfl, trivial⟩) (fun g160 => OT.indexB ul45 sz73 hb_0 h161) (fun _ _ => ⟨rfl, rfl, ⟨rfl, trivial⟩⟩)
            · exact OpOK.of (fun g160 => [(.tmp 41, EP a_0 i148 3 0)]) _ _ (fun g160 _ => g160) rfl rfl (fun _ => ⟨rfl, trivial⟩) (fun g160 => Pu.toOT (Pu.fieldE fo73_0 rfl)) (fun _ _ => ⟨rfl, rfl, ⟨rfl, trivial⟩⟩)
            · exact OpOK.of (fun g160 => [(.tmp 42, EP a_0 i148 3 0)]) _ _ (fun g160 _ => g160) rfl rfl (fun _ => ⟨rfl, trivial⟩) (fun g160 => OT.loadN (v := .int .i64 ((gt p0.Puts i148).Page)) sc3 hn165 hlTChange rfl) (fun _ _ => ⟨rfl, rfl, ⟨rfl, trivial⟩⟩)
            · exact OpOK.of (fun g160 => [(.tmp 1, BP b1 0)]) _ _ (fun g160 _ => g160) rfl rfl (fun _ => ⟨rfl, trivial⟩) (fun g160 => Pu.toOT (Pu.fieldB fo47_3 rfl)) (fun _ _ => ⟨rfl, rfl, ⟨rfl, trivial⟩⟩)
            · exact OpOK.of (fun g160 => [(.tmp 44, BP b1 3)]) _ _ (fun g160 _ => g160) rfl rfl (fun _ => ⟨rfl, trivial⟩) (fun g160 => OT.loadB sc45 rfl) (fun _ _ => ⟨rfl, rfl, ⟨rfl, trivial⟩⟩)
            · exact OpOK.of (fun g160 => [(.tmp 3, .int .i64 i59)]) _ _ (fun g160 _ => g160) rfl rfl (fun _ => ⟨rfl, trivial⟩) (fun g160 => Pu.toOT Pu.move) (fun _ _ => ⟨rfl, rfl, ⟨rfl, trivial⟩⟩)
            · exact OpOK.of (fun g160 => [(.tmp 45, .slice a_0 (List.length p0.Puts) c_0), (.tmp 46, .int .i64 i59)]) _ _ (fun g160 _ => g160) rfl rfl (fun _ => ⟨rfl, rfl, trivial⟩) (fun g160 => OT.indexB ul45 sz73 hb_0 h166) (fun _ _ => ⟨rfl, rfl, ⟨rfl, trivial⟩⟩)
            · exact OpOK.of (fun g160 => [(.tmp 47, EP a_0 i59 3 0)]) _ _ (fun g160 _ => g160) rfl rfl (fun _ => ⟨rfl, trivial⟩) (fun g160 => Pu.toOT (Pu.fieldE fo73_0 rfl)) (fun _ _ => ⟨rfl, rfl, ⟨rfl, trivial⟩⟩)
            · exact OpOK.of (fun g160 => [(.tmp 48, EP a_0 i59 3 0)]) _ _ (fun g160 _ => g160) rfl rfl (fun _ => ⟨rfl, trivial⟩) (fun g160 => OT.loadN (v := .int .i64 ((gt p0.Puts i59).Page)) sc3 hn170 hlTChange rfl) (fun _ _ => ⟨rfl, rfl, ⟨rfl, trivial⟩⟩)
            refine HQ.keep [(32, _), (1, _), (2, _), (3, _), (5, _), (6, _), (7, _), (8, _), (9, _), (12, _), (13, _), (14, _), (15, _), (16, _), (17, _), (18, _), (19, _), (20, _), (21, _), (22, _), (23, _), (4, _), (33, _), (34, _), (35, _), (38, _), (39, _), (40, _), (41, _), (42, _), (43, _), (44, _), (45, _), (46, _), (47, _), (48, _), (49, _)] ⟨rfl, rfl, rfl, rfl, rfl, rfl, rfl, rfl, rfl, rfl, rfl, rfl, rfl, rfl, rfl, rfl, rfl, rfl, rfl, rfl, rfl, rfl, rfl, rfl, rfl, rfl, rfl, rfl, rfl, rfl, rfl, rfl, rfl, rfl, rfl, rfl, rfl, trivial⟩ ?_
            refine HQ.keepR [(1, _)] ⟨rfl, trivial⟩ rfl ?_
            refine HQ.pu Pu.eql ⟨rfl, rfl, trivial⟩ rfl rfl rfl ?_
            refine HQ.done ?_
            refine HQ.keep [(32, _), (1, _), (2, _), (3, _), (5, _), (6, _), (7, _), (8, _), (9, _), (12, _), (13, _), (14, _), (15, _), (16, _), (17, _), (18, _), (19, _), (20, _), (21, _), (22, _), (23, _), (4, _), (33, _), (34, _), (35, _), (38, _), (39, _), (40, _), (41, _), (42, _), (43, _), (44, _), (45, _), (46, _), (47, _), (48, _), (49, _), (50, _)] ⟨rfl, rfl, rfl, rfl, rfl, rfl, rfl, rfl, rfl, rfl, rfl, rfl, rfl, rfl, rfl, rfl, rfl, rfl, rfl, rfl, rfl, rfl, rfl, rfl, rfl, rfl, rfl, rfl, rfl, rfl, rfl, rfl, rfl, rfl, rfl, rfl, rfl, rfl, trivial⟩ ?_
            rcases brk H with ⟨hc, H⟩ | ⟨hc, H⟩
            · refine HQ.condT rfl hc ?_
              clear hc
              refine HQ.rseq ?_
              refine HQ.pu Pu.assign ⟨rfl, trivial⟩ rfl rfl rfl ?_
              refine HQ.done ?_
              refine HQ.keep [(32, _), (1, _), (2, _), (3, _), (5, _), (6, _), (7, _), (8, _), (9, _), (12, _), (13, _), (14, _), (15, _), (16, _), (17, _), (18, _), (19, _), (20, _), (21, _), (22, _), (23, _), (4, _), (33, _), (34, _), (35, _), (38, _), (39, _), (40, _), (41, _), (42, _), (43, _), (44, _), (45, _), (46, _), (47, _), (48, _), (49, _), (50, _)] ⟨rfl, rfl, rfl, rfl, rfl, rfl, rfl, rfl, rfl, rfl, rfl, rfl, rfl, rfl, rfl, rfl, rfl, rfl, rfl, rfl, rfl, rfl, rfl, rfl, rfl, rfl, rfl, rfl, rfl, rfl, rfl, rfl, rfl, rfl, rfl, rfl, rfl, rfl, trivial⟩ ?_
              refine HQ.ret ?_
              refine HQ.blkR ?_
              refine HQ.thenR ?_
              obtain rfl := Option.some.inj H
              refine HQ.retL ?_
              exact HQ.fin (vs := [_]) Try.results19 () ⟨rfl, trivial⟩ rfl [] trivial rfl
            · refine HQ.condF rfl hc ?_
              clear hc
              refine HQ.skip ?_
              refine HQ.blkN ?_
              refine HQ.thenN ?_
              refine HQ.regionQ ?_
              refine HQ.pu Pu.move ⟨rfl, trivial⟩ rfl rfl rfl ?_
              refine HQ.pu Pu.add ⟨rfl, rfl, trivial⟩ rfl rfl rfl ?_
              refine HQ.pu Pu.assign ⟨rfl, trivial⟩ rfl rfl rfl ?_
              refine HQ.done ?_
              refine HQ.keep [(32, _), (1, _), (2, _), (3, _), (5, _), (6, _), (7, _), (8, _), (9, _), (12, _), (13, _), (14, _), (15, _), (16, _), (17, _), (18, _), (19, _), (20, _), (21, _), (22, _), (23, _), (4, _), (33, _), (34, _), (35, _), (38, _), (39, _), (40, _), (41, _), (42, _), (43, _), (44, _), (45, _), (46, _), (47, _), (48, _), (49, _), (50, _), (36, _), (37, _)] ⟨rfl, rfl, rfl, rfl, rfl, rfl, rfl, rfl, rfl, rfl, rfl, rfl, rfl, rfl, rfl, rfl, rfl, rfl, rfl, rfl, rfl, rfl, rfl, rfl, rfl, rfl, rfl, rfl, rfl, rfl, rfl, rfl, rfl, rfl, rfl, rfl, rfl, rfl, rfl, rfl, trivial⟩ ?_
              obtain rfl := Option.some.inj H
              exact HQ.next () ⟨rfl, rfl, rfl, rfl, rfl, rfl, rfl, rfl, rfl, rfl, rfl, rfl, rfl, rfl, rfl, rfl, rfl, rfl, rfl, rfl, rfl, rfl, trivial⟩ ⟨rfl, trivial⟩ rfl
          · refine HQ.condF rfl hc ?_
            clear hc
            refine HQ.exit ?_
            refine HQ.thenE ?_
            obtain rfl := Option.some.inj H
            exact HQ.out () ⟨rfl, rfl, rfl, rfl, rfl, rfl, rfl, rfl, rfl, rfl, rfl, rfl, rfl, rfl, rfl, rfl, rfl, rfl, rfl, rfl, rfl, rfl, trivial⟩ ⟨rfl, trivial⟩ rfl
        · rintro i172 rfl _
          clear h173
          replace H := H
          refine HQ.keep [(32, _), (1, _), (2, _), (3, _), (5, _), (6, _), (7, _), (8, _), (9, _), (12, _), (13, _), (14, _), (15, _), (16, _), (17, _), (18, _), (19, _), (20, _), (21, _), (22, _), (23, _), (4, _)] ⟨rfl, rfl, rfl, rfl, rfl, rfl, rfl, rfl, rfl, rfl, rfl, rfl, rfl, rfl, rfl, rfl, rfl, rfl, rfl, rfl, rfl, rfl, trivial⟩ ?_
          refine HQ.keepR [(1, _)] ⟨rfl, trivial⟩ rfl ?_
          refine HQ.blkE ?_
          refine HQ.blkN ?_
          refine HQ.thenN ?_
          refine HQ.regionQ ?_
          refine HQ.pu Pu.move ⟨rfl, trivial⟩ rfl rfl rfl ?_
          refine HQ.pu Pu.add ⟨rfl, rfl, trivial⟩ rfl rfl rfl ?_
          refine HQ.pu Pu.assign ⟨rfl, trivial⟩ rfl rfl rfl ?_
          refine HQ.done ?_
          refine HQ.keep [(32, _), (1, _), (2, _), (3, _), (5, _), (6, _), (7, _), (8, _), (9, _), (12, _), (13, _), (14, _), (15, _), (16, _), (17, _), (18, _), (19, _), (20, _), (21, _), (22, _), (23, _), (4, _), (10, _), (11, _)] ⟨rfl, rfl, rfl, rfl, rfl, rfl, rfl, rfl, rfl, rfl, rfl, rfl, rfl, rfl, rfl, rfl, rfl, rfl, rfl, rfl, rfl, rfl, rfl, rfl, trivial⟩ ?_
          obtain rfl := Option.some.inj H
          exact HQ.next () ⟨rfl, rfl, rfl, trivial⟩ ⟨rfl, trivial⟩ rfl
        · rintro r rfl a w hr
          obtain rfl := Option.some.inj H
          exact ⟨rfl, hr⟩
    · refine HQ.condF rfl hc ?_
      clear hc
      refine HQ.exit ?_
      refine HQ.thenE ?_
      obtain rfl := Option.some.inj H
      exact HQ.out () ⟨rfl, rfl, rfl, trivial⟩ ⟨rfl, trivial⟩ rfl
  · rintro i175 rfl _
    clear h188
    replace H := H
    refine HQ.keep [(1, _), (2, _), (3, _)] ⟨rfl, rfl, rfl, trivial⟩ ?_
    refine HQ.keepR [(1, _)] ⟨rfl, trivial⟩ rfl ?_
    refine HQ.blkE ?_
    refine HQ.thenN ?_
    refine HQ.rseq ?_
    refine HQ.pu (Pu.fieldB fo47_0 rfl) ⟨rfl, trivial⟩ rfl rfl rfl ?_
    refine HQ.op [1] [1] (OT.loadB sc3 rfl) ⟨rfl, trivial⟩ ⟨rfl, trivial⟩ rfl rfl rfl rfl (fun _ => rfl) fun _ => ?_
    obtain ⟨t176, h177, H⟩ := bnd H
    refine HQ.op [] [] (OT.call (us := [_, _, _]) (Pre := []) [.tmp 52, .const (.int .i64 1), .const (.int .i64 65535)] Try.call49 rfl rfl fun w F hs hF hp => spec_l1In_c h177) ⟨rfl, rfl, rfl, rfl, trivial⟩ trivial rfl rfl rfl rfl (fun _ => rfl) fun _ => ?_
    refine HQ.pu Pu.move ⟨rfl, trivial⟩ rfl rfl rfl ?_
    obtain ⟨c181, h182, H⟩ := bnd H
    refine HQ.cutAt 4 [(58, .bool c181), (1, BP b1 0), (2, .bool false)] [(1, Box b1 [.int .i64 p0.Seq, .int .i64 p0.Root, .int .i64 p0.Size, .slice a_0 (List.length p0.Puts) c_0])] ?_ ?_
    · clear H
      have H := h182
      rcases brk H with ⟨hg178, H⟩ | ⟨hg178, H⟩
      · refine HQ.on rfl rfl hg178 ?_
        refine HQ.pu (Pu.fieldB fo47_2 rfl) ⟨rfl, trivial⟩ rfl rfl rfl ?_
        refine HQ.on rfl rfl hg178 ?_
        refine HQ.op [1] [1] (OT.loadB sc3 rfl) ⟨rfl, trivial⟩ ⟨rfl, trivial⟩ rfl rfl rfl rfl (fun _ => rfl) fun _ => ?_
        refine HQ.on rfl rfl hg178 ?_
        obtain ⟨t179, h180, H⟩ := bnd H
        refine HQ.op [] [] (OT.call (us := [_, _, _]) (Pre := []) [.tmp 56, .const (.int .i64 1), .const (.int .i64 48)] Try.call49 rfl rfl fun w F hs hF hp => spec_l1In_c h180) ⟨rfl, rfl, rfl, rfl, trivial⟩ trivial rfl rfl rfl rfl (fun _ => rfl) fun _ => ?_
        obtain rfl := Option.some.inj H
        refine HQ.pu (Pu.pickC1 hg178) ⟨rfl, rfl, trivial⟩ rfl rfl rfl ?_
        exact HQ.mid ⟨rfl, rfl, rfl, trivial⟩ ⟨rfl, trivial⟩ rfl
      · obtain rfl := Option.some.inj H
        refine HQ.off rfl rfl hg178 rfl ?_
        refine HQ.off rfl rfl hg178 rfl ?_
        refine HQ.off rfl rfl hg178 rfl ?_
        refine HQ.pu (Pu.pickC0 hg178) ⟨rfl, rfl, trivial⟩ rfl rfl rfl ?_
        exact HQ.mid ⟨rfl, rfl, rfl, trivial⟩ ⟨rfl, trivial⟩ rfl
    refine HQ.pu Pu.move ⟨rfl, trivial⟩ rfl rfl rfl ?_
    obtain ⟨c186, h187, H⟩ := bnd H
    refine HQ.cutAt 7 [(66, .bool c186), (2, .bool false)] [(1, Box b1 [.int .i64 p0.Seq, .int .i64 p0.Root, .int .i64 p0.Size, .slice a_0 (List.length p0.Puts) c_0])] ?_ ?_
    · clear H
      have H := h187
      rcases brk H with ⟨hg183, H⟩ | ⟨hg183, H⟩
      · refine HQ.on rfl rfl hg183 ?_
        refine HQ.pu (Pu.fieldB fo47_1 rfl) ⟨rfl, trivial⟩ rfl rfl rfl ?_
        refine HQ.on rfl rfl hg183 ?_
        refine HQ.op [1] [1] (OT.loadB sc3 rfl) ⟨rfl, trivial⟩ ⟨rfl, trivial⟩ rfl rfl rfl rfl (fun _ => rfl) fun _ => ?_
        refine HQ.on rfl rfl hg183 ?_
        refine HQ.pu (Pu.fieldB fo47_2 rfl) ⟨rfl, trivial⟩ rfl rfl rfl ?_
        refine HQ.on rfl rfl hg183 ?_
        refine HQ.op [1] [1] (OT.loadB sc3 rfl) ⟨rfl, trivial⟩ ⟨rfl, trivial⟩ rfl rfl rfl rfl (fun _ => rfl) fun _ => ?_
        refine HQ.on rfl rfl hg183 ?_
        refine HQ.pu Pu.sub ⟨rfl, rfl, trivial⟩ rfl rfl rfl ?_
        refine HQ.on rfl rfl hg183 ?_
        obtain ⟨t184, h185, H⟩ := bnd H
        refine HQ.op [] [] (OT.call (us := [_, _, _]) (Pre := []) [.tmp 61, .const (.int .i64 0), .tmp 64] Try.call49 rfl rfl fun w F hs hF hp => spec_l1In_c h185) ⟨rfl, rfl, rfl, rfl, trivial⟩ trivial rfl rfl rfl rfl (fun _ => rfl) fun _ => ?_
        obtain rfl := Option.some.inj H
        refine HQ.pu (Pu.pickC1 hg183) ⟨rfl, rfl, trivial⟩ rfl rfl rfl ?_
        exact HQ.mid ⟨rfl, rfl, trivial⟩ ⟨rfl, trivial⟩ rfl
      · obtain rfl := Option.some.inj H
        refine HQ.off rfl rfl hg183 rfl ?_
        refine HQ.off rfl rfl hg183 rfl ?_
        refine HQ.off rfl rfl hg183 rfl ?_
        refine HQ.off rfl rfl hg183 rfl ?_
        refine HQ.off rfl rfl hg183 rfl ?_
        refine HQ.off rfl rfl hg183 rfl ?_
        refine HQ.pu (Pu.pickC0 hg183) ⟨rfl, rfl, trivial⟩ rfl rfl rfl ?_
        exact HQ.mid ⟨rfl, rfl, trivial⟩ ⟨rfl, trivial⟩ rfl
    refine HQ.pu Pu.assign ⟨rfl, trivial⟩ rfl rfl rfl ?_
    refine HQ.done ?_
    refine HQ.keep [(2, _)] ⟨rfl, trivial⟩ ?_
    refine HQ.ret ?_
    obtain rfl := Option.some.inj H
    exact HQ.fin (vs := [_]) Try.results19 () ⟨rfl, trivial⟩ rfl [] trivial rfl
  · rintro r rfl a w hr
    obtain rfl := Option.some.inj H
    exact hr

end Go.Proofs.Sx
