import Derived.Test.YtgfhnepkpbmbcaaCF4
import Derived.KernelRfl
namespace Go.Proofs.Sx
open Go.RowKit
set_option linter.unusedVariables false
set_option linter.unusedSimpArgs false
set_option maxRecDepth 20000
set_option maxHeartbeats 1000000
/-! spec.TxOk -/
theorem spec_TxOk_c {w : World} {k : Nat} {p0 : TTx} {a_0 : Option Addr} {c_0 : Nat} (hb_0 : BorS kTChange a_0 c_0 p0.Puts w.heap (Lt w Nil)) {r : Bool} (H : spec_TxOk k p0 = some r) :
    Calls Try.prog 102 #[.agg #[.int .i64 p0.Seq, .int .i64 p0.Root, .int .i64 p0.Size, .slice a_0 (List.length p0.Puts) c_0]] w (Rt w Nil (fun _ : Unit => .bool r) (fun _ => [])) := by
  rw [spec_TxOk] at H
  refine Calls.enter0 (N := 67) (us := [_]) Try.func102 rfl rfl rfl ?_
  refine HQ.rseq ?_
  refine HQ.op [] [1] (OT.box (cs := [.int .i64 p0.Seq, .int .i64 p0.Root, .int .i64 p0.Size, .slice a_0 (List.length p0.Puts) c_0]) rfl) ⟨rfl, trivial⟩ trivial rfl rfl rfl rfl (fun _ => rfl) fun b1 => ?_
  refine HQ.pu Pu.assign ⟨rfl, trivial⟩ rfl rfl rfl ?_
  refine HQ.done ?_
  refine HQ.keep [(1, _), (2, _)] ⟨rfl, rfl, trivial⟩ ?_
  refine HQ.seq ?_
  refine HQ.rseq ?_
  refine HQ.pu Pu.assign ⟨rfl, trivial⟩ rfl rfl rfl ?_
  refine HQ.done ?_
  refine HQ.keep [(1, _), (2, _), (3, _)] ⟨rfl, rfl, rfl, trivial⟩ ?_
  refine HQ.block ?_
  obtain ⟨o174, h188, H⟩ := bnd H
  refine HQ.loop h188 0 (fun (s : Int) (g : Unit) => match s, g with | i59, () => [(1, BP b1 0), (2, .bool false), (3, .int .i64 i59)]) (fun (s : Int) (g : Unit) => match s, g with | i59, () => [(1, Box b1 [.int .i64 p0.Seq, .int .i64 p0.Root, .int .i64 p0.Size, .slice a_0 (List.length p0.Puts) c_0])]) (fun r => bodyPost Try.prog Try.f102 (Rt w Nil (fun _ : Unit => .bool r) (fun _ => [])) .ret) () ⟨rfl, rfl, rfl, trivial⟩ ⟨rfl, trivial⟩ rfl ?_ ?_ ?_
  · clear H h188
    rintro i59 _ o H
    rw [spec_TxOk_b2] at H
    refine HQ.keep [(1, _), (2, _), (3, _)] ⟨rfl, rfl, rfl, trivial⟩ ?_
    refine HQ.keepR [(1, _)] ⟨rfl, trivial⟩ rfl ?_
    refine HQ.seq ?_
    refine HQ.rseq ?_
    refine HQ.pu Pu.move ⟨rfl, trivial⟩ rfl rfl rfl ?_
    refine HQ.pu (Pu.fieldB fo60_3 rfl) ⟨rfl, trivial⟩ rfl rfl rfl ?_
    refine HQ.op [1] [1] (OT.loadB sc58 rfl) ⟨rfl, trivial⟩ ⟨rfl, trivial⟩ rfl rfl rfl rfl (fun _ => rfl) fun _ => ?_
    refine HQ.pu (Pu.len ul58) ⟨rfl, trivial⟩ rfl rfl rfl ?_
    refine HQ.pu Pu.lss ⟨rfl, rfl, trivial⟩ rfl rfl rfl ?_
    refine HQ.done ?_
    refine HQ.keep [(1, _), (2, _), (3, _), (9, _)] ⟨rfl, rfl, rfl, rfl, trivial⟩ ?_
    rcases brk H with ⟨hc, H⟩ | ⟨hc, H⟩
    · refine HQ.condT rfl hc ?_
      clear hc
      refine HQ.skipThen ?_
      refine HQ.seq ?_
      refine HQ.block ?_
      refine HQ.seq ?_
      refine HQ.seq ?_
      refine HQ.dStart mixd ?_
      obtain ⟨h118, H⟩ := asr H
      obtain ⟨⟨a119, c120⟩, hb121, hn122⟩ := BorS.nest hb_0 h118
      refine HQ.dPart [(1, BP b1 0), (2, .bool false), (3, .int .i64 i59)] 9 [⟨[], [], []⟩, ⟨[0], [0], [0]⟩, ⟨[], [], []⟩, ⟨[], [], [1, 2]⟩, ⟨[], [], [3]⟩, ⟨[], [], [4]⟩, ⟨[], [], []⟩, ⟨[0], [0], [6]⟩, ⟨[], [], [7]⟩] [⟨none, none⟩] (fun (g117 : Unit) => [BP b1 3, .slice a_0 (List.length p0.Puts) c_0, .int .i64 i59, EP a_0 i59 3 0, EP a_0 i59 3 0, .int .i64 ((gt p0.Puts i59).Page), BP b1 2, .int .i64 p0.Size, .int .i64 (wrap64 (p0.Size - 1))]) (fun (g117 : Unit) => [Box b1 [.int .i64 p0.Seq, .int .i64 p0.Root, .int .i64 p0.Size, .slice a_0 (List.length p0.Puts) c_0]]) () [1] [1] [] ⟨rfl, rfl, rfl, trivial⟩ ⟨rfl, trivial⟩ rfl (by kernel_rfl) (by kernel_rfl) (fun _ => rfl) (by kernel_rfl) (fun _ => rfl) rfl ⟨?_, ?_, ?_, ?_, ?_, ?_, ?_, ?_, ?_, trivial⟩ fun g117 => ?_
      · exact OpOK2.of (fun g117 => [(.tmp 1, BP b1 0)]) _ _ (fun g117 _ => g117) rfl rfl (fun _ => ⟨rfl, trivial⟩) (fun g117 => Pu.toOT (Pu.fieldB fo60_3 rfl)) (fun _ _ => ⟨rfl, rfl, ⟨rfl, trivial⟩⟩)
      · exact OpOK2.of (fun g117 => [(.tmp 12, BP b1 3)]) _ _ (fun g117 _ => g117) rfl rfl (fun _ => ⟨rfl, trivial⟩) (fun g117 => OT.loadB sc58 rfl) (fun _ _ => ⟨rfl, rfl, ⟨rfl, trivial⟩⟩)
      · exact OpOK2.of (fun g117 => [(.tmp 3, .int .i64 i59)]) _ _ (fun g117 _ => g117) rfl rfl (fun _ => ⟨rfl, trivial⟩) (fun g117 => Pu.toOT Pu.move) (fun _ _ => ⟨rfl, rfl, ⟨rfl, trivial⟩⟩)
      · exact OpOK2.of (fun g117 => [(.tmp 13, .slice a_0 (List.length p0.Puts) c_0), (.tmp 14, .int .i64 i59)]) _ _ (fun g117 _ => g117) rfl rfl (fun _ => ⟨rfl, rfl, trivial⟩) (fun g117 => OT.indexB ul58 sz81 hb_0 h118) (fun _ _ => ⟨rfl, rfl, ⟨rfl, trivial⟩⟩)
      · exact OpOK2.of (fun g117 => [(.tmp 15, EP a_0 i59 3 0)]) _ _ (fun g117 _ => g117) rfl rfl (fun _ => ⟨rfl, trivial⟩) (fun g117 => Pu.toOT (Pu.fieldE fo81_0 rfl)) (fun _ _ => ⟨rfl, rfl, ⟨rfl, trivial⟩⟩)
      · exact OpOK2.of (fun g117 => [(.tmp 16, EP a_0 i59 3 0)]) _ _ (fun g117 _ => g117) rfl rfl (fun _ => ⟨rfl, trivial⟩) (fun g117 => OT.loadN (v := .int .i64 ((gt p0.Puts i59).Page)) sc3 hn122 hlTChange rfl) (fun _ _ => ⟨rfl, rfl, ⟨rfl, trivial⟩⟩)
      · exact OpOK2.of (fun g117 => [(.tmp 1, BP b1 0)]) _ _ (fun g117 _ => g117) rfl rfl (fun _ => ⟨rfl, trivial⟩) (fun g117 => Pu.toOT (Pu.fieldB fo60_2 rfl)) (fun _ _ => ⟨rfl, rfl, ⟨rfl, trivial⟩⟩)
      · exact OpOK2.of (fun g117 => [(.tmp 18, BP b1 2)]) _ _ (fun g117 _ => g117) rfl rfl (fun _ => ⟨rfl, trivial⟩) (fun g117 => OT.loadB sc3 rfl) (fun _ _ => ⟨rfl, rfl, ⟨rfl, trivial⟩⟩)
      · exact OpOK2.of (fun g117 => [(.tmp 19, .int .i64 p0.Size), (.const (.int .i64 1), .int .i64 1)]) _ _ (fun g117 _ => g117) rfl rfl (fun _ => ⟨rfl, rfl, trivial⟩) (fun g117 => Pu.toOT Pu.sub) (fun _ _ => ⟨rfl, rfl, ⟨rfl, trivial⟩⟩)
      refine HQ.keep [(1, _), (2, _), (3, _), (17, _), (20, _)] ⟨rfl, rfl, rfl, rfl, rfl, trivial⟩ ?_
      refine HQ.keepR [(1, _)] ⟨rfl, trivial⟩ rfl ?_
      refine HQ.dRun 3 rfl rfl (by kernel_rfl) (by kernel_rfl) ?_
      obtain ⟨t123, h124, H⟩ := bnd H
      refine HQ.op [] [] (OT.call (us := [_, _, _]) (Pre := []) [.tmp 17, .const (.int .i64 0), .tmp 20] Try.call85 rfl rfl fun w F hs hF hp => spec_l1In_c h124) ⟨rfl, rfl, rfl, rfl, trivial⟩ trivial rfl rfl rfl rfl (fun _ => rfl) fun _ => ?_
      refine HQ.pu Pu.not ⟨rfl, trivial⟩ rfl rfl rfl ?_
      refine HQ.pu Pu.move ⟨rfl, trivial⟩ rfl rfl rfl ?_
      refine HQ.done ?_
      obtain ⟨c135, h136, H⟩ := bnd H
      refine HQ.dMid (m' := 21) [(32, .bool c135), (1, BP b1 0), (2, .bool false), (3, .int .i64 i59)] [(1, Box b1 [.int .i64 p0.Seq, .int .i64 p0.Root, .int .i64 p0.Size, .slice a_0 (List.length p0.Puts) c_0])] (fun hmid => ?_) ?_
      · clear H
        have H := h136
        rcases brk H with ⟨hg125, H⟩ | ⟨hg125, H⟩
        · obtain rfl := Option.some.inj H
          refine HQ.dPart [(1, BP b1 0), (2, .bool false), (3, .int .i64 i59), (23, .bool (!t123))] 15 [⟨[], [], []⟩, ⟨[], [], []⟩, ⟨[], [], []⟩, ⟨[], [], []⟩, ⟨[], [], []⟩, ⟨[], [], []⟩, ⟨[], [], []⟩, ⟨[], [], []⟩, ⟨[], [], []⟩, ⟨[], [], []⟩, ⟨[], [], []⟩, ⟨[], [], []⟩, ⟨[], [], []⟩, ⟨[], [], []⟩, ⟨[], [], []⟩] [] (fun (g134 : Unit) => [undef, undef, undef, undef, undef, undef, undef, undef, undef, undef, undef, undef, undef, undef, undef]) (fun (g134 : Unit) => []) () [] [] [] ⟨rfl, rfl, rfl, rfl, trivial⟩ trivial rfl (by kernel_rfl) (by kernel_rfl) (fun _ => rfl) (by kernel_rfl) (fun _ => rfl) rfl ⟨?_, ?_, ?_, trivial⟩ fun g134 => ?_
          · exact OpOK2.off rfl rfl rfl hg125 rfl rfl (fun _ => ⟨rfl, trivial⟩)
          · exact OpOK2.off rfl rfl rfl hg125 rfl rfl (fun _ => ⟨rfl, trivial⟩)
          · exact OpOK2.off rfl rfl rfl hg125 rfl rfl (fun _ => ⟨rfl, trivial⟩)
          refine HQ.keep [(1, _), (2, _), (3, _), (23, _), (24, _), (25, _), (26, _)] ⟨rfl, rfl, rfl, rfl, rfl, rfl, rfl, trivial⟩ ?_
          refine HQ.keepR [(1, _)] ⟨rfl, trivial⟩ rfl ?_
          refine HQ.dRun 5 rfl rfl (by kernel_rfl) (by kernel_rfl) ?_
          refine HQ.off rfl rfl hg125 rfl ?_
          refine HQ.off rfl rfl hg125 rfl ?_
          refine HQ.off rfl rfl hg125 rfl ?_
          refine HQ.off rfl rfl hg125 rfl ?_
          refine HQ.off rfl rfl hg125 rfl ?_
          refine HQ.done ?_
          refine HQ.dRun 1 rfl rfl (by kernel_rfl) (by kernel_rfl) ?_
          refine HQ.pu (Pu.pickC1 hg125) ⟨rfl, rfl, trivial⟩ rfl rfl rfl ?_
          refine HQ.done ?_
          exact HQ.dUse hmid ⟨rfl, rfl, rfl, rfl, trivial⟩ ⟨rfl, trivial⟩ rfl
        · refine HQ.dPart [(1, BP b1 0), (2, .bool false), (3, .int .i64 i59), (23, .bool (!t123))] 15 [⟨[], [], []⟩, ⟨[], [], []⟩, ⟨[], [], []⟩, ⟨[], [], []⟩, ⟨[], [], []⟩, ⟨[], [], []⟩, ⟨[], [], []⟩, ⟨[], [], []⟩, ⟨[], [], []⟩, ⟨[], [], []⟩, ⟨[], [], []⟩, ⟨[], [], []⟩, ⟨[], [], []⟩, ⟨[0], [0], [12]⟩, ⟨[], [], []⟩] [⟨none, none⟩] (fun (g126 : Unit) => [undef, undef, undef, undef, undef, undef, undef, undef, undef, undef, undef, undef, BP b1 3, .slice a_0 (List.length p0.Puts) c_0, .int .i64 i59]) (fun (g126 : Unit) => [Box b1 [.int .i64 p0.Seq, .int .i64 p0.Root, .int .i64 p0.Size, .slice a_0 (List.length p0.Puts) c_0]]) () [1] [1] [] ⟨rfl, rfl, rfl, rfl, trivial⟩ ⟨rfl, trivial⟩ rfl (by kernel_rfl) (by kernel_rfl) (fun _ => rfl) (by kernel_rfl) (fun _ => rfl) rfl ⟨?_, ?_, ?_, trivial⟩ fun g126 => ?_
          · exact OpOK2.on (fun g126 => [(.tmp 1, BP b1 0)]) _ _ (fun g126 _ => g126) rfl rfl rfl hg125 (fun _ => ⟨rfl, trivial⟩) (fun g126 => Pu.toOT (Pu.fieldB fo60_3 rfl)) (fun _ _ => ⟨rfl, rfl, ⟨rfl, trivial⟩⟩)
          · exact OpOK2.on (fun g126 => [(.tmp 24, BP b1 3)]) _ _ (fun g126 _ => g126) rfl rfl rfl hg125 (fun _ => ⟨rfl, trivial⟩) (fun g126 => OT.loadB sc58 rfl) (fun _ _ => ⟨rfl, rfl, ⟨rfl, trivial⟩⟩)
          · exact OpOK2.on (fun g126 => [(.tmp 3, .int .i64 i59)]) _ _ (fun g126 _ => g126) rfl rfl rfl hg125 (fun _ => ⟨rfl, trivial⟩) (fun g126 => Pu.toOT Pu.move) (fun _ _ => ⟨rfl, rfl, ⟨rfl, trivial⟩⟩)
          refine HQ.keep [(1, _), (2, _), (3, _), (23, _), (24, _), (25, _), (26, _)] ⟨rfl, rfl, rfl, rfl, rfl, rfl, rfl, trivial⟩ ?_
          refine HQ.keepR [(1, _)] ⟨rfl, trivial⟩ rfl ?_
          refine HQ.dRun 5 rfl rfl (by kernel_rfl) (by kernel_rfl) ?_
          refine HQ.on rfl rfl hg125 ?_
          obtain ⟨h127, H⟩ := asr H
          refine HQ.op [] [] (OT.indexB ul58 sz81 hb_0 h127) ⟨rfl, rfl, trivial⟩ trivial rfl rfl rfl rfl (fun _ => rfl) fun _ => ?_
          refine HQ.on rfl rfl hg125 ?_
          refine HQ.pu (Pu.fieldE fo81_1 rfl) ⟨rfl, trivial⟩ rfl rfl rfl ?_
          refine HQ.on rfl rfl hg125 ?_
          obtain ⟨⟨a128, c129⟩, hb130, hn131⟩ := BorS.nest hb_0 h127
          refine HQ.op [] [] (OT.loadNA (vs := [.bool ((gt p0.Puts i59).N.Leaf), .slice a128 (List.length ((gt p0.Puts i59).N.L)) c129]) ag79 sz79 hn131 hlTChange rfl rfl) ⟨rfl, trivial⟩ trivial rfl rfl rfl rfl (fun _ => rfl) fun _ => ?_
          refine HQ.on rfl rfl hg125 ?_
          obtain ⟨t132, h133, H⟩ := bnd H
          refine HQ.op [] [] (OT.call (us := [_]) (Pre := []) [.tmp 29] Try.call158 rfl rfl fun w F hs hF hp => spec_NodeOk_c (hb130.pass hp) h133) ⟨rfl, rfl, trivial⟩ trivial rfl rfl rfl rfl (fun _ => rfl) fun _ => ?_
          refine HQ.on rfl rfl hg125 ?_
          refine HQ.pu Pu.not ⟨rfl, trivial⟩ rfl rfl rfl ?_
          refine HQ.done ?_
          obtain rfl := Option.some.inj H
          refine HQ.dRun 1 rfl rfl (by kernel_rfl) (by kernel_rfl) ?_
          refine HQ.pu (Pu.pickC0 hg125) ⟨rfl, rfl, trivial⟩ rfl rfl rfl ?_
          refine HQ.done ?_
          exact HQ.dUse hmid ⟨rfl, rfl, rfl, rfl, trivial⟩ ⟨rfl, trivial⟩ rfl
      refine HQ.dEnd rfl ?_
      refine HQ.thenN ?_
      refine HQ.keep [(32, _), (1, _), (2, _), (3, _)] ⟨rfl, rfl, rfl, rfl, trivial⟩ ?_
      rcases brk H with ⟨hc, H⟩ | ⟨hc, H⟩
      · refine HQ.condT rfl hc ?_
        clear hc
        refine HQ.rseq ?_
        refine HQ.pu Pu.assign ⟨rfl, trivial⟩ rfl rfl rfl ?_
        refine HQ.done ?_
        refine HQ.keep [(1, _), (2, _), (3, _)] ⟨rfl, rfl, rfl, trivial⟩ ?_
        refine HQ.ret ?_
        refine HQ.thenR ?_
        refine HQ.blkR ?_
        refine HQ.thenR ?_
        obtain rfl := Option.some.inj H
        refine HQ.retL ?_
        exact HQ.fin (vs := [_]) Try.results102 () ⟨rfl, trivial⟩ rfl [] trivial rfl
      · refine HQ.condF rfl hc ?_
        clear hc
        refine HQ.skipThen ?_
        refine HQ.rseq ?_
        refine HQ.pu Pu.assign ⟨rfl, trivial⟩ rfl rfl rfl ?_
        refine HQ.done ?_
        refine HQ.keep [(1, _), (2, _), (3, _), (4, _)] ⟨rfl, rfl, rfl, rfl, trivial⟩ ?_
        refine HQ.block ?_
        obtain ⟨o171, h173, H⟩ := bnd H
        refine HQ.loop h173 2 (fun (s : Int) (g : Unit) => match s, g with | i148, () => [(1, BP b1 0), (2, .bool false), (3, .int .i64 i59), (4, .int .i64 i148)]) (fun (s : Int) (g : Unit) => match s, g with | i148, () => [(1, Box b1 [.int .i64 p0.Seq, .int .i64 p0.Root, .int .i64 p0.Size, .slice a_0 (List.length p0.Puts) c_0])]) (fun r => bodyPost Try.prog Try.f102 (Rt w Nil (fun _ : Unit => .bool r) (fun _ => [])) .ret) () ⟨rfl, rfl, rfl, rfl, trivial⟩ ⟨rfl, trivial⟩ rfl ?_ ?_ ?_
        · clear H h173
          rintro i148 _ o H
          rw [spec_TxOk_b3] at H
          refine HQ.keep [(1, _), (2, _), (3, _), (4, _)] ⟨rfl, rfl, rfl, rfl, trivial⟩ ?_
          refine HQ.keepR [(1, _)] ⟨rfl, trivial⟩ rfl ?_
          refine HQ.seq ?_
          refine HQ.rseq ?_
          refine HQ.pu Pu.move ⟨rfl, trivial⟩ rfl rfl rfl ?_
          refine HQ.pu Pu.move ⟨rfl, trivial⟩ rfl rfl rfl ?_
          refine HQ.pu Pu.lss ⟨rfl, rfl, trivial⟩ rfl rfl rfl ?_
          refine HQ.done ?_
          refine HQ.keep [(1, _), (2, _), (3, _), (4, _), (35, _)] ⟨rfl, rfl, rfl, rfl, rfl, trivial⟩ ?_
          rcases brk H with ⟨hc, H⟩ | ⟨hc, H⟩
          · refine HQ.condT rfl hc ?_
            clear hc
            refine HQ.skipThen ?_
            refine HQ.seq ?_
            refine HQ.block ?_
            obtain ⟨h161, H⟩ := asr H
            obtain ⟨h166, H⟩ := asr H
            obtain ⟨⟨a162, c163⟩, hb164, hn165⟩ := BorS.nest hb_0 h161
            obtain ⟨⟨a167, c168⟩, hb169, hn170⟩ := BorS.nest hb_0 h166
            refine HQ.drawS mixd [(1, BP b1 0), (2, .bool false), (3, .int .i64 i59), (4, .int .i64 i148)] 12 [⟨[], [], []⟩, ⟨[0], [0], [0]⟩, ⟨[], [], []⟩, ⟨[], [], [1, 2]⟩, ⟨[], [], [3]⟩, ⟨[], [], [4]⟩, ⟨[], [], []⟩, ⟨[0], [0], [6]⟩, ⟨[], [], []⟩, ⟨[], [], [7, 8]⟩, ⟨[], [], [9]⟩, ⟨[], [], [10]⟩] [⟨none, none⟩] (fun (g160 : Unit) => [BP b1 3, .slice a_0 (List.length p0.Puts) c_0, .int .i64 i148, EP a_0 i148 3 0, EP a_0 i148 3 0, .int .i64 ((gt p0.Puts i148).Page), BP b1 3, .slice a_0 (List.length p0.Puts) c_0, .int .i64 i59, EP a_0 i59 3 0, EP a_0 i59 3 0, .int .i64 ((gt p0.Puts i59).Page)]) (fun (g160 : Unit) => [Box b1 [.int .i64 p0.Seq, .int .i64 p0.Root, .int .i64 p0.Size, .slice a_0 (List.length p0.Puts) c_0]]) () [1] [1] [] ⟨rfl, rfl, rfl, rfl, trivial⟩ ⟨rfl, trivial⟩ rfl (by kernel_rfl) (fun _ => rfl) (by kernel_rfl) (fun _ => rfl) ⟨?_, ?_, ?_, ?_, ?_, ?_, ?_, ?_, ?_, ?_, ?_, ?_, trivial⟩ fun g160 => ?_
            · exact OpOK.of (fun g160 => [(.tmp 1, BP b1 0)]) _ _ (fun g160 _ => g160) rfl rfl (fun _ => ⟨rfl, trivial⟩) (fun g160 => Pu.toOT (Pu.fieldB fo60_3 rfl)) (fun _ _ => ⟨rfl, rfl, ⟨rfl, trivial⟩⟩)
            · exact OpOK.of (fun g160 => [(.tmp 38, BP b1 3)]) _ _ (fun g160 _ => g160) rfl rfl (fun _ => ⟨rfl, trivial⟩) (fun g160 => OT.loadB sc58 rfl) (fun _ _ => ⟨rfl, rfl, ⟨rfl, trivial⟩⟩)
            · exact OpOK.of (fun g160 => [(.tmp 4, .int .i64 i148)]) _ _ (fun g160 _ => g160) rfl rfl (fun _ => ⟨rfl, trivial⟩) (fun g160 => Pu.toOT Pu.move) (fun _ _ => ⟨rfl, rfl, ⟨rfl, trivial⟩⟩)
            · exact OpOK.of (fun g160 => [(.tmp 39, .slice a_0 (List.length p0.Puts) c_0), (.tmp 40, .int .i64 i148)]) _ _ (fun g160 _ => g160) rfl rfl (fun _ => ⟨rfl, rfl, trivial⟩) (fun g160 => OT.indexB ul58 sz81 hb_0 h161) (fun _ _ => ⟨rfl, rfl, ⟨rfl, trivial⟩⟩)
            · exact OpOK.of (fun g160 => [(.tmp 41, EP a_0 i148 3 0)]) _ _ (fun g160 _ => g160) rfl rfl (fun _ => ⟨rfl, trivial⟩) (fun g160 => Pu.toOT (Pu.fieldE fo81_0 rfl)) (fun _ _ => ⟨rfl, rfl, ⟨rfl, trivial⟩⟩)
            · exact OpOK.of (fun g160 => [(.tmp 42, EP a_0 i148 3 0)]) _ _ (fun g160 _ => g160) rfl rfl (fun _ => ⟨rfl, trivial⟩) (fun g160 => OT.loadN (v := .int .i64 ((gt p0.Puts i148).Page)) sc3 hn165 hlTChange rfl) (fun _ _ => ⟨rfl, rfl, ⟨rfl, trivial⟩⟩)
            · exact OpOK.of (fun g160 => [(.tmp 1, BP b1 0)]) _ _ (fun g160 _ => g160) rfl rfl (fun _ => ⟨rfl, trivial⟩) (fun g160 => Pu.toOT (Pu.fieldB fo60_3 rfl)) (fun _ _ => ⟨rfl, rfl, ⟨rfl, trivial⟩⟩)
            · exact OpOK.of (fun g160 => [(.tmp 44, BP b1 3)]) _ _ (fun g160 _ => g160) rfl rfl (fun _ => ⟨rfl, trivial⟩) (fun g160 => OT.loadB sc58 rfl) (fun _ _ => ⟨rfl, rfl, ⟨rfl, trivial⟩⟩)
            · exact OpOK.of (fun g160 => [(.tmp 3, .int .i64 i59)]) _ _ (fun g160 _ => g160) rfl rfl (fun _ => ⟨rfl, trivial⟩) (fun g160 => Pu.toOT Pu.move) (fun _ _ => ⟨rfl, rfl, ⟨rfl, trivial⟩⟩)
            · exact OpOK.of (fun g160 => [(.tmp 45, .slice a_0 (List.length p0.Puts) c_0), (.tmp 46, .int .i64 i59)]) _ _ (fun g160 _ => g160) rfl rfl (fun _ => ⟨rfl, rfl, trivial⟩) (fun g160 => OT.indexB ul58 sz81 hb_0 h166) (fun _ _ => ⟨rfl, rfl, ⟨rfl, trivial⟩⟩)
            · exact OpOK.of (fun g160 => [(.tmp 47, EP a_0 i59 3 0)]) _ _ (fun g160 _ => g160) rfl rfl (fun _ => ⟨rfl, trivial⟩) (fun g160 => Pu.toOT (Pu.fieldE fo81_0 rfl)) (fun _ _ => ⟨rfl, rfl, ⟨rfl, trivial⟩⟩)
            · exact OpOK.of (fun g160 => [(.tmp 48, EP a_0 i59 3 0)]) _ _ (fun g160 _ => g160) rfl rfl (fun _ => ⟨rfl, trivial⟩) (fun g160 => OT.loadN (v := .int .i64 ((gt p0.Puts i59).Page)) sc3 hn170 hlTChange rfl) (fun _ _ => ⟨rfl, rfl, ⟨rfl, trivial⟩⟩)
            refine HQ.keep [(1, _), (2, _), (3, _), (4, _), (43, _), (49, _)] ⟨rfl, rfl, rfl, rfl, rfl, rfl, trivial⟩ ?_
            refine HQ.keepR [(1, _)] ⟨rfl, trivial⟩ rfl ?_
            refine HQ.pu Pu.eql ⟨rfl, rfl, trivial⟩ rfl rfl rfl ?_
            refine HQ.done ?_
            refine HQ.keep [(1, _), (2, _), (3, _), (4, _), (50, _)] ⟨rfl, rfl, rfl, rfl, rfl, trivial⟩ ?_
            rcases brk H with ⟨hc, H⟩ | ⟨hc, H⟩
            · refine HQ.condT rfl hc ?_
              clear hc
              refine HQ.rseq ?_
              refine HQ.pu Pu.assign ⟨rfl, trivial⟩ rfl rfl rfl ?_
              refine HQ.done ?_
              refine HQ.keep [(1, _), (2, _), (3, _), (4, _)] ⟨rfl, rfl, rfl, rfl, trivial⟩ ?_
              refine HQ.ret ?_
              refine HQ.blkR ?_
              refine HQ.thenR ?_
              obtain rfl := Option.some.inj H
              refine HQ.retL ?_
              exact HQ.fin (vs := [_]) Try.results102 () ⟨rfl, trivial⟩ rfl [] trivial rfl
            · refine HQ.condF rfl hc ?_
              clear hc
              refine HQ.skip ?_
              refine HQ.blkN ?_
              refine HQ.thenN ?_
              refine HQ.regionQ ?_
              refine HQ.pu Pu.move ⟨rfl, trivial⟩ rfl rfl rfl ?_
              refine HQ.pu Pu.add ⟨rfl, rfl, trivial⟩ rfl rfl rfl ?_
              refine HQ.pu Pu.assign ⟨rfl, trivial⟩ rfl rfl rfl ?_
              refine HQ.done ?_
              refine HQ.keep [(1, _), (2, _), (3, _), (4, _)] ⟨rfl, rfl, rfl, rfl, trivial⟩ ?_
              obtain rfl := Option.some.inj H
              exact HQ.next () ⟨rfl, rfl, rfl, rfl, trivial⟩ ⟨rfl, trivial⟩ rfl
          · refine HQ.condF rfl hc ?_
            clear hc
            refine HQ.exit ?_
            refine HQ.thenE ?_
            obtain rfl := Option.some.inj H
            exact HQ.out () ⟨rfl, rfl, rfl, rfl, trivial⟩ ⟨rfl, trivial⟩ rfl
        · rintro i172 rfl _
          clear h173
          replace H := H
          refine HQ.keep [(1, _), (2, _), (3, _), (4, _)] ⟨rfl, rfl, rfl, rfl, trivial⟩ ?_
          refine HQ.keepR [(1, _)] ⟨rfl, trivial⟩ rfl ?_
          refine HQ.blkE ?_
          refine HQ.blkN ?_
          refine HQ.thenN ?_
          refine HQ.regionQ ?_
          refine HQ.pu Pu.move ⟨rfl, trivial⟩ rfl rfl rfl ?_
          refine HQ.pu Pu.add ⟨rfl, rfl, trivial⟩ rfl rfl rfl ?_
          refine HQ.pu Pu.assign ⟨rfl, trivial⟩ rfl rfl rfl ?_
          refine HQ.done ?_
          refine HQ.keep [(1, _), (2, _), (3, _)] ⟨rfl, rfl, rfl, trivial⟩ ?_
          obtain rfl := Option.some.inj H
          exact HQ.next () ⟨rfl, rfl, rfl, trivial⟩ ⟨rfl, trivial⟩ rfl
        · rintro r rfl a w hr
          obtain rfl := Option.some.inj H
          exact ⟨rfl, hr⟩
    · refine HQ.condF rfl hc ?_
      clear hc
      refine HQ.exit ?_
      refine HQ.thenE ?_
      obtain rfl := Option.some.inj H
      exact HQ.out () ⟨rfl, rfl, rfl, trivial⟩ ⟨rfl, trivial⟩ rfl
  · rintro i175 rfl _
    clear h188
    replace H := H
    refine HQ.keep [(1, _), (2, _), (3, _)] ⟨rfl, rfl, rfl, trivial⟩ ?_
    refine HQ.keepR [(1, _)] ⟨rfl, trivial⟩ rfl ?_
    refine HQ.blkE ?_
    refine HQ.thenN ?_
    refine HQ.rseq ?_
    refine HQ.pu (Pu.fieldB fo60_0 rfl) ⟨rfl, trivial⟩ rfl rfl rfl ?_
    refine HQ.op [1] [1] (OT.loadB sc3 rfl) ⟨rfl, trivial⟩ ⟨rfl, trivial⟩ rfl rfl rfl rfl (fun _ => rfl) fun _ => ?_
    obtain ⟨t176, h177, H⟩ := bnd H
    refine HQ.op [] [] (OT.call (us := [_, _, _]) (Pre := []) [.tmp 52, .const (.int .i64 1), .const (.int .i64 65535)] Try.call85 rfl rfl fun w F hs hF hp => spec_l1In_c h177) ⟨rfl, rfl, rfl, rfl, trivial⟩ trivial rfl rfl rfl rfl (fun _ => rfl) fun _ => ?_
    refine HQ.pu Pu.move ⟨rfl, trivial⟩ rfl rfl rfl ?_
    obtain ⟨c181, h182, H⟩ := bnd H
    refine HQ.cutAt 4 [(58, .bool c181), (1, BP b1 0), (2, .bool false)] [(1, Box b1 [.int .i64 p0.Seq, .int .i64 p0.Root, .int .i64 p0.Size, .slice a_0 (List.length p0.Puts) c_0])] ?_ ?_
    · clear H
      have H := h182
      rcases brk H with ⟨hg178, H⟩ | ⟨hg178, H⟩
      · refine HQ.on rfl rfl hg178 ?_
        refine HQ.pu (Pu.fieldB fo60_2 rfl) ⟨rfl, trivial⟩ rfl rfl rfl ?_
        refine HQ.on rfl rfl hg178 ?_
        refine HQ.op [1] [1] (OT.loadB sc3 rfl) ⟨rfl, trivial⟩ ⟨rfl, trivial⟩ rfl rfl rfl rfl (fun _ => rfl) fun _ => ?_
        refine HQ.on rfl rfl hg178 ?_
        obtain ⟨t179, h180, H⟩ := bnd H
        refine HQ.op [] [] (OT.call (us := [_, _, _]) (Pre := []) [.tmp 56, .const (.int .i64 1), .const (.int .i64 48)] Try.call85 rfl rfl fun w F hs hF hp => spec_l1In_c h180) ⟨rfl, rfl, rfl, rfl, trivial⟩ trivial rfl rfl rfl rfl (fun _ => rfl) fun _ => ?_
        obtain rfl := Option.some.inj H
        refine HQ.pu (Pu.pickC1 hg178) ⟨rfl, rfl, trivial⟩ rfl rfl rfl ?_
        exact HQ.mid ⟨rfl, rfl, rfl, trivial⟩ ⟨rfl, trivial⟩ rfl
      · obtain rfl := Option.some.inj H
        refine HQ.off rfl rfl hg178 rfl ?_
        refine HQ.off rfl rfl hg178 rfl ?_
        refine HQ.off rfl rfl hg178 rfl ?_
        refine HQ.pu (Pu.pickC0 hg178) ⟨rfl, rfl, trivial⟩ rfl rfl rfl ?_
        exact HQ.mid ⟨rfl, rfl, rfl, trivial⟩ ⟨rfl, trivial⟩ rfl
    refine HQ.pu Pu.move ⟨rfl, trivial⟩ rfl rfl rfl ?_
    obtain ⟨c186, h187, H⟩ := bnd H
    refine HQ.cutAt 7 [(66, .bool c186), (2, .bool false)] [(1, Box b1 [.int .i64 p0.Seq, .int .i64 p0.Root, .int .i64 p0.Size, .slice a_0 (List.length p0.Puts) c_0])] ?_ ?_
    · clear H
      have H := h187
      rcases brk H with ⟨hg183, H⟩ | ⟨hg183, H⟩
      · refine HQ.on rfl rfl hg183 ?_
        refine HQ.pu (Pu.fieldB fo60_1 rfl) ⟨rfl, trivial⟩ rfl rfl rfl ?_
        refine HQ.on rfl rfl hg183 ?_
        refine HQ.op [1] [1] (OT.loadB sc3 rfl) ⟨rfl, trivial⟩ ⟨rfl, trivial⟩ rfl rfl rfl rfl (fun _ => rfl) fun _ => ?_
        refine HQ.on rfl rfl hg183 ?_
        refine HQ.pu (Pu.fieldB fo60_2 rfl) ⟨rfl, trivial⟩ rfl rfl rfl ?_
        refine HQ.on rfl rfl hg183 ?_
        refine HQ.op [1] [1] (OT.loadB sc3 rfl) ⟨rfl, trivial⟩ ⟨rfl, trivial⟩ rfl rfl rfl rfl (fun _ => rfl) fun _ => ?_
        refine HQ.on rfl rfl hg183 ?_
        refine HQ.pu Pu.sub ⟨rfl, rfl, trivial⟩ rfl rfl rfl ?_
        refine HQ.on rfl rfl hg183 ?_
        obtain ⟨t184, h185, H⟩ := bnd H
        refine HQ.op [] [] (OT.call (us := [_, _, _]) (Pre := []) [.tmp 61, .const (.int .i64 0), .tmp 64] Try.call85 rfl rfl fun w F hs hF hp => spec_l1In_c h185) ⟨rfl, rfl, rfl, rfl, trivial⟩ trivial rfl rfl rfl rfl (fun _ => rfl) fun _ => ?_
        obtain rfl := Option.some.inj H
        refine HQ.pu (Pu.pickC1 hg183) ⟨rfl, rfl, trivial⟩ rfl rfl rfl ?_
        exact HQ.mid ⟨rfl, rfl, trivial⟩ ⟨rfl, trivial⟩ rfl
      · obtain rfl := Option.some.inj H
        refine HQ.off rfl rfl hg183 rfl ?_
        refine HQ.off rfl rfl hg183 rfl ?_
        refine HQ.off rfl rfl hg183 rfl ?_
        refine HQ.off rfl rfl hg183 rfl ?_
        refine HQ.off rfl rfl hg183 rfl ?_
        refine HQ.off rfl rfl hg183 rfl ?_
        refine HQ.pu (Pu.pickC0 hg183) ⟨rfl, rfl, trivial⟩ rfl rfl rfl ?_
        exact HQ.mid ⟨rfl, rfl, trivial⟩ ⟨rfl, trivial⟩ rfl
    refine HQ.pu Pu.assign ⟨rfl, trivial⟩ rfl rfl rfl ?_
    refine HQ.done ?_
    refine HQ.keep [(2, _)] ⟨rfl, trivial⟩ ?_
    refine HQ.ret ?_
    obtain rfl := Option.some.inj H
    exact HQ.fin (vs := [_]) Try.results102 () ⟨rfl, trivial⟩ rfl [] trivial rfl
  · rintro r rfl a w hr
    obtain rfl := Option.some.inj H
    exact hr

/-! spec.GetEnd -/
theorem spec_GetEnd_c {w : World} {k : Nat} {p0 : Int} {p1 : (List Int)} {a_0 : Option Addr} {c_0 : Nat} (hb_0 : BorS kU8 a_0 c_0 p1 w.heap (Lt w Nil)) {r : TTx × Int × Bool} (H : spec_GetEnd k p0 p1 = some r) :
    Calls Try.prog 145 #[.int .i64 p0, .slice a_0 (List.length p1) c_0] w (Rt w Nil (fun g : Option Addr × Nat => .tuple #[.agg #[.int .i64 r.1.Seq, .int .i64 r.1.Root, .int .i64 r.1.Size, .slice g.1 (List.length r.1.Puts) g.2], .int .i64 r.2.1, .bool r.2.2]) (fun g => [OwnS kTChange g.1 g.2 r.1.Puts])) := by
  rw [spec_GetEnd] at H
  refine Calls.enter0 (N := 78) (us := [_, _]) Try.func145 rfl rfl rfl ?_
  refine HQ.rseq ?_
  refine HQ.op [] [1] (OT.alloc zc60) trivial trivial rfl rfl rfl rfl (fun _ => rfl) fun b1 => ?_
  refine HQ.pu Pu.assign ⟨rfl, trivial⟩ rfl rfl rfl ?_
  refine HQ.pu Pu.assign ⟨rfl, trivial⟩ rfl rfl rfl ?_
  refine HQ.done ?_
  refine HQ.keep [(0, _), (1, _), (4, _), (5, _), (6, _)] ⟨rfl, rfl, rfl, rfl, rfl, trivial⟩ ?_
  refine HQ.seq ?_
  refine HQ.rseq ?_
  refine HQ.pu Pu.move ⟨rfl, trivial⟩ rfl rfl rfl ?_
  refine HQ.pu (Pu.len ul37) ⟨rfl, trivial⟩ rfl rfl rfl ?_
  refine HQ.pu Pu.neq ⟨rfl, rfl, trivial⟩ rfl rfl rfl ?_
  refine HQ.pu Pu.move ⟨rfl, trivial⟩ rfl rfl rfl ?_
  obtain ⟨c4, h5, H⟩ := bnd H
  refine HQ.cutAt 5 [(21, .bool c4), (0, .int .i64 p0), (1, .slice a_0 (List.length p1) c_0), (4, BP b1 0), (5, .int .i64 0), (6, .bool false)] [(1, Box b1 [.int .i64 0, .int .i64 0, .int .i64 0, .slice none 0 0])] ?_ ?_
  · clear H
    have H := h5
    rcases brk H with ⟨hg2, H⟩ | ⟨hg2, H⟩
    · obtain rfl := Option.some.inj H
      refine HQ.off rfl rfl hg2 rfl ?_
      refine HQ.off rfl rfl hg2 rfl ?_
      refine HQ.off rfl rfl hg2 rfl ?_
      refine HQ.off rfl rfl hg2 rfl ?_
      refine HQ.pu (Pu.pickC1 hg2) ⟨rfl, rfl, trivial⟩ rfl rfl rfl ?_
      exact HQ.mid ⟨rfl, rfl, rfl, rfl, rfl, rfl, trivial⟩ ⟨rfl, trivial⟩ rfl
    · refine HQ.on rfl rfl hg2 ?_
      refine HQ.pu Pu.move ⟨rfl, trivial⟩ rfl rfl rfl ?_
      refine HQ.on rfl rfl hg2 ?_
      obtain ⟨h3, H⟩ := asr H
      refine HQ.op [] [] (OT.indexB ul37 sz5 hb_0 h3) ⟨rfl, rfl, trivial⟩ trivial rfl rfl rfl rfl (fun _ => rfl) fun _ => ?_
      refine HQ.on rfl rfl hg2 ?_
      refine HQ.op [] [] (OT.loadF sc5 hb_0 h3 rfl) ⟨rfl, trivial⟩ trivial rfl rfl rfl rfl (fun _ => rfl) fun _ => ?_
      refine HQ.on rfl rfl hg2 ?_
      refine HQ.pu Pu.neq ⟨rfl, rfl, trivial⟩ rfl rfl rfl ?_
      obtain rfl := Option.some.inj H
      refine HQ.pu (Pu.pickC0 hg2) ⟨rfl, rfl, trivial⟩ rfl rfl rfl ?_
      exact HQ.mid ⟨rfl, rfl, rfl, rfl, rfl, rfl, trivial⟩ ⟨rfl, trivial⟩ rfl
  refine HQ.done ?_
  refine HQ.keep [(21, _), (0, _), (1, _), (4, _), (5, _), (6, _)] ⟨rfl, rfl, rfl, rfl, rfl, rfl, trivial⟩ ?_
  rcases brk H with ⟨hc, H⟩ | ⟨hc, H⟩
  · refine HQ.condT rfl hc ?_
    clear hc
    refine HQ.rseq ?_
    refine HQ.pu (Pu.build (us := []) (cs := [.int .i64 0, .int .i64 0, .int .i64 0, .slice none 0 0]) [] st60 rfl rfl rfl) trivial rfl rfl rfl ?_
    refine HQ.opN [1] [1] [] (OT.storeC (cs' := [.int .i64 0, .int .i64 0, .int .i64 0, .slice none 0 0]) sz60 rfl rfl rfl rfl rfl) ⟨rfl, rfl, trivial⟩ ⟨rfl, trivial⟩ rfl rfl rfl (fun _ => rfl) fun _ => ?_
    refine HQ.pu Pu.assign ⟨rfl, trivial⟩ rfl rfl rfl ?_
    refine HQ.pu Pu.assign ⟨rfl, trivial⟩ rfl rfl rfl ?_
    refine HQ.done ?_
    refine HQ.keep [(0, _), (1, _), (4, _), (5, _), (6, _)] ⟨rfl, rfl, rfl, rfl, rfl, trivial⟩ ?_
    refine HQ.ret ?_
    refine HQ.thenR ?_
    obtain rfl := Option.some.inj H
    refine HQ.nil kTChange 2 rfl ?_
    exact HQ.fin (vs := [_, _, _]) Try.results145 (none, 0) ⟨⟨_, _, 1, rfl, rfl, ag60, sz60, rfl⟩, rfl, rfl, trivial⟩ rfl [2] ⟨rfl, trivial⟩ rfl
  · refine HQ.condF rfl hc ?_
    clear hc
    refine HQ.skipThen ?_
    refine HQ.rseq ?_
    refine HQ.pu Pu.move ⟨rfl, trivial⟩ rfl rfl rfl ?_
    obtain ⟨t6, h7, H⟩ := bnd H
    refine HQ.op [] [] (OT.call (us := [_, _]) (Pre := []) [.tmp 24, .const (.int .i64 1)] Try.call163 rfl rfl fun w F hs hF hp => spec_Get2_c (hb_0.pass hp) h7) ⟨rfl, rfl, rfl, trivial⟩ trivial rfl rfl rfl rfl (fun _ => rfl) fun _ => ?_
    refine HQ.pu Pu.move ⟨rfl, trivial⟩ rfl rfl rfl ?_
    refine HQ.pu (Pu.extract rfl) ⟨rfl, trivial⟩ rfl rfl rfl ?_
    refine HQ.pu (Pu.extract rfl) ⟨rfl, trivial⟩ rfl rfl rfl ?_
    refine HQ.pu Pu.assign ⟨rfl, trivial⟩ rfl rfl rfl ?_
    refine HQ.pu Pu.assign ⟨rfl, trivial⟩ rfl rfl rfl ?_
    refine HQ.done ?_
    refine HQ.keep [(0, _), (1, _), (4, _), (5, _), (6, _), (7, _)] ⟨rfl, rfl, rfl, rfl, rfl, rfl, trivial⟩ ?_
    refine HQ.rseq ?_
    refine HQ.pu Pu.move ⟨rfl, trivial⟩ rfl rfl rfl ?_
    obtain ⟨t8, h9, H⟩ := bnd H
    refine HQ.op [] [] (OT.call (us := [_, _]) (Pre := []) [.tmp 29, .const (.int .i64 3)] Try.call163 rfl rfl fun w F hs hF hp => spec_Get2_c (hb_0.pass hp) h9) ⟨rfl, rfl, rfl, trivial⟩ trivial rfl rfl rfl rfl (fun _ => rfl) fun _ => ?_
    refine HQ.pu Pu.move ⟨rfl, trivial⟩ rfl rfl rfl ?_
    refine HQ.pu (Pu.extract rfl) ⟨rfl, trivial⟩ rfl rfl rfl ?_
    refine HQ.pu (Pu.extract rfl) ⟨rfl, trivial⟩ rfl rfl rfl ?_
    refine HQ.pu Pu.assign ⟨rfl, trivial⟩ rfl rfl rfl ?_
    refine HQ.pu Pu.assign ⟨rfl, trivial⟩ rfl rfl rfl ?_
    refine HQ.done ?_
    refine HQ.keep [(0, _), (1, _), (4, _), (5, _), (6, _), (7, _), (9, _)] ⟨rfl, rfl, rfl, rfl, rfl, rfl, rfl, trivial⟩ ?_
    obtain ⟨h11, H⟩ := asr H
    obtain ⟨h12, H⟩ := asr H
    refine HQ.drawS mixd [(0, .int .i64 p0), (1, .slice a_0 (List.length p1) c_0), (4, BP b1 0), (5, .int .i64 0), (6, .bool false), (7, .int .i64 t6.1), (9, .int .i64 t8.1)] 11 [⟨[], [], []⟩, ⟨[], [], []⟩, ⟨[], [], [1]⟩, ⟨[], [], [2]⟩, ⟨[], [], [3]⟩, ⟨[], [], []⟩, ⟨[], [], [5]⟩, ⟨[], [], [6]⟩, ⟨[], [], [7]⟩, ⟨[], [], [0, 4, 8]⟩, ⟨[], [0], []⟩] [⟨some 10, none⟩] (fun (g10 : Nat) => [.int .i64 t8.1, .slice a_0 (List.length p1) c_0, EP a_0 5 1 0, .int .u8 (gt p1 5), .int .i64 (IntKind.i64.wrap (gt p1 5)), .slice a_0 (List.length p1) c_0, EP a_0 6 1 0, .int .u8 (gt p1 6), .int .i64 (IntKind.i64.wrap (gt p1 6)), .agg #[.int .i64 t8.1, .int .i64 (IntKind.i64.wrap (gt p1 5)), .int .i64 (IntKind.i64.wrap (gt p1 6)), .slice none 0 0], BP g10 0]) (fun (g10 : Nat) => [Box g10 [.int .i64 0, .int .i64 0, .int .i64 0, .slice none 0 0]]) 0 [] [3] [] ⟨rfl, rfl, rfl, rfl, rfl, rfl, rfl, trivial⟩ trivial rfl (by kernel_rfl) (fun _ => rfl) (by kernel_rfl) (fun _ => rfl) ⟨?_, ?_, ?_, ?_, ?_, ?_, ?_, ?_, ?_, ?_, ?_, trivial⟩ fun g10 => ?_
    · exact OpOK.of (fun g10 => [(.tmp 9, .int .i64 t8.1)]) _ _ (fun g10 _ => g10) rfl rfl (fun _ => ⟨rfl, trivial⟩) (fun g10 => Pu.toOT Pu.move) (fun _ _ => ⟨rfl, rfl, ⟨rfl, trivial⟩⟩)
    · exact OpOK.of (fun g10 => [(.tmp 1, .slice a_0 (List.length p1) c_0)]) _ _ (fun g10 _ => g10) rfl rfl (fun _ => ⟨rfl, trivial⟩) (fun g10 => Pu.toOT Pu.move) (fun _ _ => ⟨rfl, rfl, ⟨rfl, trivial⟩⟩)
    · exact OpOK.of (fun g10 => [(.tmp 34, .slice a_0 (List.length p1) c_0), (.const (.int .i64 5), .int .i64 5)]) _ _ (fun g10 _ => g10) rfl rfl (fun _ => ⟨rfl, rfl, trivial⟩) (fun g10 => OT.indexB ul37 sz5 hb_0 h11) (fun _ _ => ⟨rfl, rfl, ⟨rfl, trivial⟩⟩)
    · exact OpOK.of (fun g10 => [(.tmp 35, EP a_0 5 1 0)]) _ _ (fun g10 _ => g10) rfl rfl (fun _ => ⟨rfl, trivial⟩) (fun g10 => OT.loadF sc5 hb_0 h11 rfl) (fun _ _ => ⟨rfl, rfl, ⟨rfl, trivial⟩⟩)
    · exact OpOK.of (fun g10 => [(.tmp 36, .int .u8 (gt p1 5))]) _ _ (fun g10 _ => g10) rfl rfl (fun _ => ⟨rfl, trivial⟩) (fun g10 => Pu.toOT (Pu.conv ul5 ul3)) (fun _ _ => ⟨rfl, rfl, ⟨rfl, trivial⟩⟩)
    · exact OpOK.of (fun g10 => [(.tmp 1, .slice a_0 (List.length p1) c_0)]) _ _ (fun g10 _ => g10) rfl rfl (fun _ => ⟨rfl, trivial⟩) (fun g10 => Pu.toOT Pu.move) (fun _ _ => ⟨rfl, rfl, ⟨rfl, trivial⟩⟩)
    · exact OpOK.of (fun g10 => [(.tmp 38, .slice a_0 (List.length p1) c_0), (.const (.int .i64 6), .int .i64 6)]) _ _ (fun g10 _ => g10) rfl rfl (fun _ => ⟨rfl, rfl, trivial⟩) (fun g10 => OT.indexB ul37 sz5 hb_0 h12) (fun _ _ => ⟨rfl, rfl, ⟨rfl, trivial⟩⟩)
    · exact OpOK.of (fun g10 => [(.tmp 39, EP a_0 6 1 0)]) _ _ (fun g10 _ => g10) rfl rfl (fun _ => ⟨rfl, trivial⟩) (fun g10 => OT.loadF sc5 hb_0 h12 rfl) (fun _ _ => ⟨rfl, rfl, ⟨rfl, trivial⟩⟩)
    · exact OpOK.of (fun g10 => [(.tmp 40, .int .u8 (gt p1 6))]) _ _ (fun g10 _ => g10) rfl rfl (fun _ => ⟨rfl, trivial⟩) (fun g10 => Pu.toOT (Pu.conv ul5 ul3)) (fun _ _ => ⟨rfl, rfl, ⟨rfl, trivial⟩⟩)
    · exact OpOK.of (fun g10 => [(.tmp 33, .int .i64 t8.1), (.tmp 37, .int .i64 (IntKind.i64.wrap (gt p1 5))), (.tmp 41, .int .i64 (IntKind.i64.wrap (gt p1 6)))]) _ _ (fun g10 _ => g10) rfl rfl (fun _ => ⟨rfl, rfl, rfl, trivial⟩) (fun g10 => Pu.toOT (Pu.build (us := [.int .i64 t8.1, .int .i64 (IntKind.i64.wrap (gt p1 5)), .int .i64 (IntKind.i64.wrap (gt p1 6))]) (cs := [.int .i64 t8.1, .int .i64 (IntKind.i64.wrap (gt p1 5)), .int .i64 (IntKind.i64.wrap (gt p1 6)), .slice none 0 0]) [(0, .tmp 33), (1, .tmp 37), (2, .tmp 41)] st60 rfl rfl rfl)) (fun _ _ => ⟨rfl, rfl, ⟨rfl, trivial⟩⟩)
    · exact OpOK.of (fun g10 => []) _ _ (fun g10 x => x) rfl rfl (fun _ => trivial) (fun g10 => OT.alloc zc60) (fun _ _ => ⟨rfl, rfl, ⟨rfl, trivial⟩⟩)
    refine HQ.keep [(0, _), (1, _), (4, _), (5, _), (6, _), (7, _), (42, _), (11, _)] ⟨rfl, rfl, rfl, rfl, rfl, rfl, rfl, rfl, trivial⟩ ?_
    refine HQ.keepR [(1, _), (3, _)] ⟨rfl, rfl, trivial⟩ rfl ?_
    refine HQ.opN [3] [3] [] (OT.storeC (cs' := [.int .i64 t8.1, .int .i64 (IntKind.i64.wrap (gt p1 5)), .int .i64 (IntKind.i64.wrap (gt p1 6)), .slice none 0 0]) sz60 rfl rfl rfl rfl rfl) ⟨rfl, rfl, trivial⟩ ⟨rfl, trivial⟩ rfl rfl rfl (fun _ => rfl) fun _ => ?_
    refine HQ.done ?_
    refine HQ.keep [(0, _), (1, _), (4, _), (5, _), (6, _), (7, _), (11, _)] ⟨rfl, rfl, rfl, rfl, rfl, rfl, rfl, trivial⟩ ?_
    refine HQ.seq ?_
    refine HQ.rseq ?_
    refine HQ.pu Pu.assign ⟨rfl, trivial⟩ rfl rfl rfl ?_
    refine HQ.done ?_
    refine HQ.keep [(0, _), (1, _), (4, _), (5, _), (6, _), (7, _), (11, _), (12, _)] ⟨rfl, rfl, rfl, rfl, rfl, rfl, rfl, rfl, trivial⟩ ?_
    refine HQ.block ?_
    obtain ⟨o18, h34, H⟩ := bnd H
    refine HQ.loop h34 0 (fun (s : Int) (g : Unit) => match s, g with | i15, () => [(0, .int .i64 p0), (1, .slice a_0 (List.length p1) c_0), (4, BP b1 0), (5, .int .i64 0), (6, .bool false), (7, .int .i64 t6.1), (11, BP g10 0), (12, .int .i64 i15)]) (fun (s : Int) (g : Unit) => match s, g with | i15, () => [(1, Box b1 [.int .i64 0, .int .i64 0, .int .i64 0, .slice none 0 0]), (3, Box g10 [.int .i64 t8.1, .int .i64 (IntKind.i64.wrap (gt p1 5)), .int .i64 (IntKind.i64.wrap (gt p1 6)), .slice none 0 0])]) (fun r => bodyPost Try.prog Try.f145 (Rt w Nil (fun g : Option Addr × Nat => .tuple #[.agg #[.int .i64 r.1.Seq, .int .i64 r.1.Root, .int .i64 r.1.Size, .slice g.1 (List.length r.1.Puts) g.2], .int .i64 r.2.1, .bool r.2.2]) (fun g => [OwnS kTChange g.1 g.2 r.1.Puts])) .ret) () ⟨rfl, rfl, rfl, rfl, rfl, rfl, rfl, rfl, trivial⟩ ⟨rfl, rfl, trivial⟩ rfl ?_ ?_ ?_
    · clear H h34
      rintro i15 _ o H
      rw [spec_GetEnd_b0] at H
      refine HQ.keep [(0, _), (1, _), (4, _), (5, _), (6, _), (7, _), (11, _), (12, _)] ⟨rfl, rfl, rfl, rfl, rfl, rfl, rfl, rfl, trivial⟩ ?_
      refine HQ.keepR [(1, _), (3, _)] ⟨rfl, rfl, trivial⟩ rfl ?_
      refine HQ.seq ?_
      refine HQ.rseq ?_
      refine HQ.pu Pu.move ⟨rfl, trivial⟩ rfl rfl rfl ?_
      refine HQ.pu Pu.move ⟨rfl, trivial⟩ rfl rfl rfl ?_
      refine HQ.pu (Pu.len ul37) ⟨rfl, trivial⟩ rfl rfl rfl ?_
      refine HQ.pu Pu.lss ⟨rfl, rfl, trivial⟩ rfl rfl rfl ?_
      refine HQ.done ?_
      refine HQ.keep [(0, _), (1, _), (4, _), (5, _), (6, _), (7, _), (11, _), (12, _), (46, _)] ⟨rfl, rfl, rfl, rfl, rfl, rfl, rfl, rfl, rfl, trivial⟩ ?_
      rcases brk H with ⟨hc, H⟩ | ⟨hc, H⟩
      · refine HQ.condT rfl hc ?_
        clear hc
        refine HQ.skipThen ?_
        refine HQ.seq ?_
        refine HQ.block ?_
        refine HQ.rseq ?_
        refine HQ.pu Pu.move ⟨rfl, trivial⟩ rfl rfl rfl ?_
        refine HQ.pu Pu.move ⟨rfl, trivial⟩ rfl rfl rfl ?_
        obtain ⟨h17, H⟩ := asr H
        refine HQ.op [] [] (OT.indexB ul37 sz5 hb_0 h17) ⟨rfl, rfl, trivial⟩ trivial rfl rfl rfl rfl (fun _ => rfl) fun _ => ?_
        refine HQ.op [] [] (OT.loadF sc5 hb_0 h17 rfl) ⟨rfl, trivial⟩ trivial rfl rfl rfl rfl (fun _ => rfl) fun _ => ?_
        refine HQ.pu Pu.neq ⟨rfl, rfl, trivial⟩ rfl rfl rfl ?_
        refine HQ.done ?_
        refine HQ.keep [(0, _), (1, _), (4, _), (5, _), (6, _), (7, _), (11, _), (12, _), (53, _)] ⟨rfl, rfl, rfl, rfl, rfl, rfl, rfl, rfl, rfl, trivial⟩ ?_
        rcases brk H with ⟨hc, H⟩ | ⟨hc, H⟩
        · refine HQ.condT rfl hc ?_
          clear hc
          refine HQ.rseq ?_
          refine HQ.pu (Pu.build (us := []) (cs := [.int .i64 0, .int .i64 0, .int .i64 0, .slice none 0 0]) [] st60 rfl rfl rfl) trivial rfl rfl rfl ?_
          refine HQ.opN [1] [1] [] (OT.storeC (cs' := [.int .i64 0, .int .i64 0, .int .i64 0, .slice none 0 0]) sz60 rfl rfl rfl rfl rfl) ⟨rfl, rfl, trivial⟩ ⟨rfl, trivial⟩ rfl rfl rfl (fun _ => rfl) fun _ => ?_
          refine HQ.pu Pu.assign ⟨rfl, trivial⟩ rfl rfl rfl ?_
          refine HQ.pu Pu.assign ⟨rfl, trivial⟩ rfl rfl rfl ?_
          refine HQ.done ?_
          refine HQ.keep [(0, _), (1, _), (4, _), (5, _), (6, _), (7, _), (11, _), (12, _)] ⟨rfl, rfl, rfl, rfl, rfl, rfl, rfl, rfl, trivial⟩ ?_
          refine HQ.ret ?_
          refine HQ.blkR ?_
          refine HQ.thenR ?_
          obtain rfl := Option.some.inj H
          refine HQ.nil kTChange 4 rfl ?_
          refine HQ.retL ?_
          exact HQ.fin (vs := [_, _, _]) Try.results145 (none, 0) ⟨⟨_, _, 1, rfl, rfl, ag60, sz60, rfl⟩, rfl, rfl, trivial⟩ rfl [4] ⟨rfl, trivial⟩ rfl
        · refine HQ.condF rfl hc ?_
          clear hc
          refine HQ.skip ?_
          refine HQ.blkN ?_
          refine HQ.thenN ?_
          refine HQ.regionQ ?_
          refine HQ.pu Pu.move ⟨rfl, trivial⟩ rfl rfl rfl ?_
          refine HQ.pu Pu.add ⟨rfl, rfl, trivial⟩ rfl rfl rfl ?_
          refine HQ.pu Pu.assign ⟨rfl, trivial⟩ rfl rfl rfl ?_
          refine HQ.done ?_
          refine HQ.keep [(0, _), (1, _), (4, _), (5, _), (6, _), (7, _), (11, _), (12, _)] ⟨rfl, rfl, rfl, rfl, rfl, rfl, rfl, rfl, trivial⟩ ?_
          obtain rfl := Option.some.inj H
          exact HQ.next () ⟨rfl, rfl, rfl, rfl, rfl, rfl, rfl, rfl, trivial⟩ ⟨rfl, rfl, trivial⟩ rfl
      · refine HQ.condF rfl hc ?_
        clear hc
        refine HQ.exit ?_
        refine HQ.thenE ?_
        obtain rfl := Option.some.inj H
        exact HQ.out () ⟨rfl, rfl, rfl, rfl, rfl, rfl, rfl, rfl, trivial⟩ ⟨rfl, rfl, trivial⟩ rfl
    · rintro i19 rfl _
      clear h34
      replace H := H
      refine HQ.keep [(0, _), (1, _), (4, _), (5, _), (6, _), (7, _), (11, _), (12, _)] ⟨rfl, rfl, rfl, rfl, rfl, rfl, rfl, rfl, trivial⟩ ?_
      refine HQ.keepR [(1, _), (3, _)] ⟨rfl, rfl, trivial⟩ rfl ?_
      refine HQ.blkE ?_
      refine HQ.thenN ?_
      refine HQ.seq ?_
      refine HQ.seq ?_
      refine HQ.dStart mixd ?_
      refine HQ.dPart [(0, .int .i64 p0), (1, .slice a_0 (List.length p1) c_0), (4, BP b1 0), (5, .int .i64 0), (6, .bool false), (7, .int .i64 t6.1), (11, BP g10 0)] 2 [⟨[], [], []⟩, ⟨[], [], []⟩] [] (fun (g20 : Unit) => [.int .i64 t6.1, .int .i64 p0]) (fun (g20 : Unit) => []) () [] [] [] ⟨rfl, rfl, rfl, rfl, rfl, rfl, rfl, trivial⟩ trivial rfl (by kernel_rfl) (by kernel_rfl) (fun _ => rfl) (by kernel_rfl) (fun _ => rfl) rfl ⟨?_, ?_, trivial⟩ fun g20 => ?_
      · exact OpOK2.of (fun g20 => [(.tmp 7, .int .i64 t6.1)]) _ _ (fun g20 _ => g20) rfl rfl (fun _ => ⟨rfl, trivial⟩) (fun g20 => Pu.toOT Pu.move) (fun _ _ => ⟨rfl, rfl, trivial⟩)
      · exact OpOK2.of (fun g20 => [(.tmp 0, .int .i64 p0)]) _ _ (fun g20 _ => g20) rfl rfl (fun _ => ⟨rfl, trivial⟩) (fun g20 => Pu.toOT Pu.move) (fun _ _ => ⟨rfl, rfl, trivial⟩)
      refine HQ.keep [(1, _), (4, _), (5, _), (6, _), (11, _), (55, _), (56, _)] ⟨rfl, rfl, rfl, rfl, rfl, rfl, rfl, trivial⟩ ?_
      refine HQ.keepR [(1, _), (3, _)] ⟨rfl, rfl, trivial⟩ rfl ?_
      refine HQ.dRun 7 rfl rfl (by kernel_rfl) (by kernel_rfl) ?_
      refine HQ.pu Pu.neq ⟨rfl, rfl, trivial⟩ rfl rfl rfl ?_
      refine HQ.pu Pu.move ⟨rfl, trivial⟩ rfl rfl rfl ?_
      obtain ⟨c24, h25, H⟩ := bnd H
      refine HQ.cutAt 4 [(62, .bool c24), (1, .slice a_0 (List.length p1) c_0), (4, BP b1 0), (5, .int .i64 0), (6, .bool false), (11, BP g10 0)] [(1, Box b1 [.int .i64 0, .int .i64 0, .int .i64 0, .slice none 0 0]), (3, Box g10 [.int .i64 t8.1, .int .i64 (IntKind.i64.wrap (gt p1 5)), .int .i64 (IntKind.i64.wrap (gt p1 6)), .slice none 0 0])] ?_ ?_
      · clear H
        have H := h25
        rcases brk H with ⟨hg21, H⟩ | ⟨hg21, H⟩
        · obtain rfl := Option.some.inj H
          refine HQ.off rfl rfl hg21 rfl ?_
          refine HQ.off rfl rfl hg21 rfl ?_
          refine HQ.off rfl rfl hg21 rfl ?_
          refine HQ.pu (Pu.pickC1 hg21) ⟨rfl, rfl, trivial⟩ rfl rfl rfl ?_
          exact HQ.mid ⟨rfl, rfl, rfl, rfl, rfl, rfl, trivial⟩ ⟨rfl, rfl, trivial⟩ rfl
        · refine HQ.on rfl rfl hg21 ?_
          refine HQ.op [3] [3] (OT.loadBA (vs := [.int .i64 t8.1, .int .i64 (IntKind.i64.wrap (gt p1 5)), .int .i64 (IntKind.i64.wrap (gt p1 6)), .slice none 0 0]) ag60 sz60 rfl rfl) ⟨rfl, trivial⟩ ⟨rfl, trivial⟩ rfl rfl rfl rfl (fun _ => rfl) fun _ => ?_
          refine HQ.on rfl rfl hg21 ?_
          obtain ⟨t22, h23, H⟩ := bnd H
          refine HQ.op [] [] (OT.call (us := [_]) (Pre := []) [.tmp 59] Try.call102 rfl rfl fun w F hs hF hp => spec_TxOk_c (p0 := (⟨t8.1, (IntKind.i64.wrap (gt p1 5)), (IntKind.i64.wrap (gt p1 6)), ([] : (List TChange))⟩ : TTx)) nilB h23) ⟨rfl, rfl, trivial⟩ trivial rfl rfl rfl rfl (fun _ => rfl) fun _ => ?_
          refine HQ.on rfl rfl hg21 ?_
          refine HQ.pu Pu.not ⟨rfl, trivial⟩ rfl rfl rfl ?_
          obtain rfl := Option.some.inj H
          refine HQ.pu (Pu.pickC0 hg21) ⟨rfl, rfl, trivial⟩ rfl rfl rfl ?_
          exact HQ.mid ⟨rfl, rfl, rfl, rfl, rfl, rfl, trivial⟩ ⟨rfl, rfl, trivial⟩ rfl
      refine HQ.pu Pu.move ⟨rfl, trivial⟩ rfl rfl rfl ?_
      refine HQ.done ?_
      obtain ⟨c30, h31, H⟩ := bnd H
      refine HQ.dMid (m' := 17) [(71, .bool c30), (1, .slice a_0 (List.length p1) c_0), (4, BP b1 0), (5, .int .i64 0), (6, .bool false), (11, BP g10 0)] [(1, Box b1 [.int .i64 0, .int .i64 0, .int .i64 0, .slice none 0 0]), (3, Box g10 [.int .i64 t8.1, .int .i64 (IntKind.i64.wrap (gt p1 5)), .int .i64 (IntKind.i64.wrap (gt p1 6)), .slice none 0 0])] (fun hmid => ?_) ?_
      · clear H
        have H := h31
        rcases brk H with ⟨hg26, H⟩ | ⟨hg26, H⟩
        · obtain rfl := Option.some.inj H
          refine HQ.dPart [(1, .slice a_0 (List.length p1) c_0), (4, BP b1 0), (5, .int .i64 0), (6, .bool false), (11, BP g10 0), (63, .bool c24)] 15 [⟨[], [], []⟩, ⟨[], [], []⟩, ⟨[], [], []⟩, ⟨[], [], []⟩, ⟨[], [], []⟩, ⟨[], [], []⟩, ⟨[], [], []⟩, ⟨[], [], []⟩, ⟨[], [], []⟩, ⟨[], [], []⟩, ⟨[], [], []⟩, ⟨[], [], []⟩, ⟨[], [], []⟩, ⟨[], [], []⟩, ⟨[], [], []⟩] [] (fun (g29 : Unit) => [undef, undef, undef, undef, undef, undef, undef, undef, undef, undef, undef, undef, undef, undef, undef]) (fun (g29 : Unit) => []) () [] [] [] ⟨rfl, rfl, rfl, rfl, rfl, rfl, trivial⟩ trivial rfl (by kernel_rfl) (by kernel_rfl) (fun _ => rfl) (by kernel_rfl) (fun _ => rfl) rfl ⟨?_, ?_, ?_, ?_, ?_, ?_, trivial⟩ fun g29 => ?_
          · exact OpOK2.off rfl rfl rfl hg26 rfl rfl (fun _ => ⟨rfl, trivial⟩)
          · exact OpOK2.off rfl rfl rfl hg26 rfl rfl (fun _ => ⟨rfl, trivial⟩)
          · exact OpOK2.off rfl rfl rfl hg26 rfl rfl (fun _ => ⟨rfl, trivial⟩)
          · exact OpOK2.off rfl rfl rfl hg26 rfl rfl (fun _ => ⟨rfl, trivial⟩)
          · exact OpOK2.off rfl rfl rfl hg26 rfl rfl (fun _ => ⟨rfl, trivial⟩)
          · exact OpOK2.off rfl rfl rfl hg26 rfl rfl (fun _ => ⟨rfl, trivial⟩)
          refine HQ.keep [(1, _), (4, _), (5, _), (6, _), (11, _), (63, _), (67, _), (69, _)] ⟨rfl, rfl, rfl, rfl, rfl, rfl, rfl, rfl, trivial⟩ ?_
          refine HQ.keepR [(1, _), (3, _)] ⟨rfl, rfl, trivial⟩ rfl ?_
          refine HQ.dRun 1 rfl rfl (by kernel_rfl) (by kernel_rfl) ?_
          refine HQ.off rfl rfl hg26 rfl ?_
          refine HQ.done ?_
          refine HQ.dRun 1 rfl rfl (by kernel_rfl) (by kernel_rfl) ?_
          refine HQ.pu (Pu.pickC1 hg26) ⟨rfl, rfl, trivial⟩ rfl rfl rfl ?_
          refine HQ.done ?_
          exact HQ.dUse hmid ⟨rfl, rfl, rfl, rfl, rfl, rfl, trivial⟩ ⟨rfl, rfl, trivial⟩ rfl
        · obtain ⟨h28, H⟩ := asr H
          refine HQ.dPart [(1, .slice a_0 (List.length p1) c_0), (4, BP b1 0), (5, .int .i64 0), (6, .bool false), (11, BP g10 0), (63, .bool c24)] 15 [⟨[], [], []⟩, ⟨[], [], []⟩, ⟨[], [], []⟩, ⟨[], [], []⟩, ⟨[], [], []⟩, ⟨[], [], []⟩, ⟨[], [], []⟩, ⟨[], [], []⟩, ⟨[], [], []⟩, ⟨[], [], []⟩, ⟨[], [], [9]⟩, ⟨[], [], [10]⟩, ⟨[], [], [11]⟩, ⟨[], [], []⟩, ⟨[0], [0], [13]⟩] [⟨none, none⟩] (fun (g27 : Unit) => [undef, undef, undef, undef, undef, undef, undef, undef, undef, .slice a_0 (List.length p1) c_0, EP a_0 7 1 0, .int .u8 (gt p1 7), .int .i64 (IntKind.i64.wrap (gt p1 7)), BP g10 2, .int .i64 (IntKind.i64.wrap (gt p1 6))]) (fun (g27 : Unit) => [Box g10 [.int .i64 t8.1, .int .i64 (IntKind.i64.wrap (gt p1 5)), .int .i64 (IntKind.i64.wrap (gt p1 6)), .slice none 0 0]]) () [3] [3] [] ⟨rfl, rfl, rfl, rfl, rfl, rfl, trivial⟩ ⟨rfl, trivial⟩ rfl (by kernel_rfl) (by kernel_rfl) (fun _ => rfl) (by kernel_rfl) (fun _ => rfl) rfl ⟨?_, ?_, ?_, ?_, ?_, ?_, trivial⟩ fun g27 => ?_
          · exact OpOK2.on (fun g27 => [(.tmp 1, .slice a_0 (List.length p1) c_0)]) _ _ (fun g27 _ => g27) rfl rfl rfl hg26 (fun _ => ⟨rfl, trivial⟩) (fun g27 => Pu.toOT Pu.move) (fun _ _ => ⟨rfl, rfl, ⟨rfl, trivial⟩⟩)
          · exact OpOK2.on (fun g27 => [(.tmp 64, .slice a_0 (List.length p1) c_0), (.const (.int .i64 7), .int .i64 7)]) _ _ (fun g27 _ => g27) rfl rfl rfl hg26 (fun _ => ⟨rfl, rfl, trivial⟩) (fun g27 => OT.indexB ul37 sz5 hb_0 h28) (fun _ _ => ⟨rfl, rfl, ⟨rfl, trivial⟩⟩)
          · exact OpOK2.on (fun g27 => [(.tmp 65, EP a_0 7 1 0)]) _ _ (fun g27 _ => g27) rfl rfl rfl hg26 (fun _ => ⟨rfl, trivial⟩) (fun g27 => OT.loadF sc5 hb_0 h28 rfl) (fun _ _ => ⟨rfl, rfl, ⟨rfl, trivial⟩⟩)
          · exact OpOK2.on (fun g27 => [(.tmp 66, .int .u8 (gt p1 7))]) _ _ (fun g27 _ => g27) rfl rfl rfl hg26 (fun _ => ⟨rfl, trivial⟩) (fun g27 => Pu.toOT (Pu.conv ul5 ul3)) (fun _ _ => ⟨rfl, rfl, ⟨rfl, trivial⟩⟩)
          · exact OpOK2.on (fun g27 => [(.tmp 11, BP g10 0)]) _ _ (fun g27 _ => g27) rfl rfl rfl hg26 (fun _ => ⟨rfl, trivial⟩) (fun g27 => Pu.toOT (Pu.fieldB fo60_2 rfl)) (fun _ _ => ⟨rfl, rfl, ⟨rfl, trivial⟩⟩)
          · exact OpOK2.on (fun g27 => [(.tmp 68, BP g10 2)]) _ _ (fun g27 _ => g27) rfl rfl rfl hg26 (fun _ => ⟨rfl, trivial⟩) (fun g27 => OT.loadB sc3 rfl) (fun _ _ => ⟨rfl, rfl, ⟨rfl, trivial⟩⟩)
          refine HQ.keep [(1, _), (4, _), (5, _), (6, _), (11, _), (63, _), (67, _), (69, _)] ⟨rfl, rfl, rfl, rfl, rfl, rfl, rfl, rfl, trivial⟩ ?_
          refine HQ.keepR [(1, _), (3, _)] ⟨rfl, rfl, trivial⟩ rfl ?_
          refine HQ.dRun 1 rfl rfl (by kernel_rfl) (by kernel_rfl) ?_
          refine HQ.on rfl rfl hg26 ?_
          refine HQ.pu Pu.gtr ⟨rfl, rfl, trivial⟩ rfl rfl rfl ?_
          refine HQ.done ?_
          obtain rfl := Option.some.inj H
          refine HQ.dRun 1 rfl rfl (by kernel_rfl) (by kernel_rfl) ?_
          refine HQ.pu (Pu.pickC0 hg26) ⟨rfl, rfl, trivial⟩ rfl rfl rfl ?_
          refine HQ.done ?_
          exact HQ.dUse hmid ⟨rfl, rfl, rfl, rfl, rfl, rfl, trivial⟩ ⟨rfl, rfl, trivial⟩ rfl
      refine HQ.dEnd rfl ?_
      refine HQ.thenN ?_
      refine HQ.keep [(71, _), (1, _), (4, _), (5, _), (6, _), (11, _)] ⟨rfl, rfl, rfl, rfl, rfl, rfl, trivial⟩ ?_
      rcases brk H with ⟨hc, H⟩ | ⟨hc, H⟩
      · refine HQ.condT rfl hc ?_
        clear hc
        refine HQ.rseq ?_
        refine HQ.pu (Pu.build (us := []) (cs := [.int .i64 0, .int .i64 0, .int .i64 0, .slice none 0 0]) [] st60 rfl rfl rfl) trivial rfl rfl rfl ?_
        refine HQ.opN [1] [1] [] (OT.storeC (cs' := [.int .i64 0, .int .i64 0, .int .i64 0, .slice none 0 0]) sz60 rfl rfl rfl rfl rfl) ⟨rfl, rfl, trivial⟩ ⟨rfl, trivial⟩ rfl rfl rfl (fun _ => rfl) fun _ => ?_
        refine HQ.pu Pu.assign ⟨rfl, trivial⟩ rfl rfl rfl ?_
        refine HQ.pu Pu.assign ⟨rfl, trivial⟩ rfl rfl rfl ?_
        refine HQ.done ?_
        refine HQ.keep [(1, _), (4, _), (5, _), (6, _), (11, _)] ⟨rfl, rfl, rfl, rfl, rfl, trivial⟩ ?_
        refine HQ.ret ?_
        refine HQ.thenR ?_
        obtain rfl := Option.some.inj H
        refine HQ.nil kTChange 5 rfl ?_
        exact HQ.fin (vs := [_, _, _]) Try.results145 (none, 0) ⟨⟨_, _, 1, rfl, rfl, ag60, sz60, rfl⟩, rfl, rfl, trivial⟩ rfl [5] ⟨rfl, trivial⟩ rfl
      · refine HQ.condF rfl hc ?_
        clear hc
        refine HQ.skipThen ?_
        obtain ⟨h33, H⟩ := asr H
        refine HQ.drawS mixd [(1, .slice a_0 (List.length p1) c_0), (4, BP b1 0), (5, .int .i64 0), (6, .bool false), (11, BP g10 0)] 6 [⟨[0], [0], []⟩, ⟨[], [], []⟩, ⟨[], [], [1]⟩, ⟨[], [], [2]⟩, ⟨[], [], [3]⟩, ⟨[1], [2], [0]⟩] [⟨none, none⟩, ⟨none, some 5⟩, ⟨some 5, none⟩] (fun (g32 : Unit) => [.agg #[.int .i64 t8.1, .int .i64 (IntKind.i64.wrap (gt p1 5)), .int .i64 (IntKind.i64.wrap (gt p1 6)), .slice none 0 0], .slice a_0 (List.length p1) c_0, EP a_0 7 1 0, .int .u8 (gt p1 7), .int .i64 (IntKind.i64.wrap (gt p1 7)), undef]) (fun (g32 : Unit) => [Box g10 [.int .i64 t8.1, .int .i64 (IntKind.i64.wrap (gt p1 5)), .int .i64 (IntKind.i64.wrap (gt p1 6)), .slice none 0 0], Box b1 [.int .i64 0, .int .i64 0, .int .i64 0, .slice none 0 0], Box b1 [.int .i64 t8.1, .int .i64 (IntKind.i64.wrap (gt p1 5)), .int .i64 (IntKind.i64.wrap (gt p1 6)), .slice none 0 0]]) () [3, 1] [3, 1] [] ⟨rfl, rfl, rfl, rfl, rfl, trivial⟩ ⟨rfl, rfl, trivial⟩ rfl (by kernel_rfl) (fun _ => rfl) (by kernel_rfl) (fun _ => rfl) ⟨?_, ?_, ?_, ?_, ?_, ?_, trivial⟩ fun g32 => ?_
        · exact OpOK.of (fun g32 => [(.tmp 11, BP g10 0)]) _ _ (fun g32 _ => g32) rfl rfl (fun _ => ⟨rfl, trivial⟩) (fun g32 => OT.loadBA (vs := [.int .i64 t8.1, .int .i64 (IntKind.i64.wrap (gt p1 5)), .int .i64 (IntKind.i64.wrap (gt p1 6)), .slice none 0 0]) ag60 sz60 rfl rfl) (fun _ _ => ⟨rfl, rfl, ⟨rfl, rfl, rfl, trivial⟩⟩)
        · exact OpOK.of (fun g32 => [(.tmp 1, .slice a_0 (List.length p1) c_0)]) _ _ (fun g32 _ => g32) rfl rfl (fun _ => ⟨rfl, trivial⟩) (fun g32 => Pu.toOT Pu.move) (fun _ _ => ⟨rfl, rfl, ⟨rfl, rfl, rfl, trivial⟩⟩)
        · exact OpOK.of (fun g32 => [(.tmp 74, .slice a_0 (List.length p1) c_0), (.const (.int .i64 7), .int .i64 7)]) _ _ (fun g32 _ => g32) rfl rfl (fun _ => ⟨rfl, rfl, trivial⟩) (fun g32 => OT.indexB ul37 sz5 hb_0 h33) (fun _ _ => ⟨rfl, rfl, ⟨rfl, rfl, rfl, trivial⟩⟩)
        · exact OpOK.of (fun g32 => [(.tmp 75, EP a_0 7 1 0)]) _ _ (fun g32 _ => g32) rfl rfl (fun _ => ⟨rfl, trivial⟩) (fun g32 => OT.loadF sc5 hb_0 h33 rfl) (fun _ _ => ⟨rfl, rfl, ⟨rfl, rfl, rfl, trivial⟩⟩)
        · exact OpOK.of (fun g32 => [(.tmp 76, .int .u8 (gt p1 7))]) _ _ (fun g32 _ => g32) rfl rfl (fun _ => ⟨rfl, trivial⟩) (fun g32 => Pu.toOT (Pu.conv ul5 ul3)) (fun _ _ => ⟨rfl, rfl, ⟨rfl, rfl, rfl, trivial⟩⟩)
        · exact OpOK.of (fun g32 => [(.tmp 4, BP b1 0), (.tmp 73, .agg #[.int .i64 t8.1, .int .i64 (IntKind.i64.wrap (gt p1 5)), .int .i64 (IntKind.i64.wrap (gt p1 6)), .slice none 0 0])]) _ _ (fun g32 _ => g32) rfl rfl (fun _ => ⟨rfl, rfl, trivial⟩) (fun g32 => OT.storeC (cs' := [.int .i64 t8.1, .int .i64 (IntKind.i64.wrap (gt p1 5)), .int .i64 (IntKind.i64.wrap (gt p1 6)), .slice none 0 0]) sz60 rfl rfl rfl rfl rfl) (fun _ _ => ⟨rfl, rfl, ⟨rfl, rfl, rfl, trivial⟩⟩)
        refine HQ.keep [(4, _), (5, _), (6, _), (77, _)] ⟨rfl, rfl, rfl, rfl, trivial⟩ ?_
        refine HQ.keepR [(1, _), (3, _)] ⟨rfl, rfl, trivial⟩ rfl ?_
        refine HQ.pu Pu.assign ⟨rfl, trivial⟩ rfl rfl rfl ?_
        refine HQ.pu Pu.assign ⟨rfl, trivial⟩ rfl rfl rfl ?_
        refine HQ.done ?_
        refine HQ.keep [(4, _), (5, _), (6, _)] ⟨rfl, rfl, rfl, trivial⟩ ?_
        refine HQ.ret ?_
        obtain rfl := Option.some.inj H
        refine HQ.nil kTChange 6 rfl ?_
        exact HQ.fin (vs := [_, _, _]) Try.results145 (none, 0) ⟨⟨_, _, 1, rfl, rfl, ag60, sz60, rfl⟩, rfl, rfl, trivial⟩ rfl [6] ⟨rfl, trivial⟩ rfl
    · rintro r rfl a w hr
      obtain rfl := Option.some.inj H
      exact hr

end Go.Proofs.Sx
