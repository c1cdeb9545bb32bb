import Derived.Test.YtkhommmhkeohbaaQfF2
import Derived.KernelRfl
namespace Go.Proofs.Sx
open Go.RowKit
set_option linter.unusedVariables false
set_option linter.unusedSimpArgs false
set_option maxRecDepth 20000
set_option maxHeartbeats 1000000
theorem spec_TxOk_c {w : World} {k : Nat} {p0 : TTx} {a_0 : Option Addr} {c_0 : Nat} (hb_0 : BorS kTChange a_0 c_0 p0.Puts w.heap (Lt w Nil)) {r : Bool} (H : spec_TxOk k p0 = some r) :
  Calls Try.prog 36 #[.agg #[vI p0.Seq, vI p0.Root, vI p0.Size, vS a_0 p0.Puts c_0]] w (Rt w Nil (fun _ : Unit => .bool r) (fun _ => [])) := by
 rw [spec_TxOk] at H
 refine Calls.enter0 (N := 67) (us := [_]) Try.func36 rfl rfl rfl ?_
 refine HQ.rseq ?_
 refine op [] [1] (OT.box (cs := [vI p0.Seq, vI p0.Root, vI p0.Size, vS a_0 p0.Puts c_0]) rfl) z1 trivial z4 (fun _ => rfl) fun b1 => ?_
 refine pu Pu.assign z1 z3 ?_
 refine HQ.done ?_
 refine HQ.keep [(1, _), (2, _)] z2 ?_
 refine HQ.seq ?_
 refine HQ.rseq ?_
 refine pu Pu.assign z1 z3 ?_
 refine HQ.done ?_
 refine HQ.keep [(1, _), (2, _), (3, _)] z3 ?_
 refine HQ.block ?_
 obtain ⟨o174, h188, H⟩ := bnd H
 refine HQ.loop h188 0 (fun (s : Int) (g : Unit) => match s, g with | i59, () => [(1, BP b1 0), (2, .bool false), (3, vI i59)]) (fun (s : Int) (g : Unit) => match s, g with | i59, () => [(1, Box b1 [vI p0.Seq, vI p0.Root, vI p0.Size, vS a_0 p0.Puts c_0])]) (fun r => bodyPost Try.prog Try.f36 (Rt w Nil (fun _ : Unit => .bool r) (fun _ => [])) .ret) () z3 z1 rfl ?_ ?_ ?_
 ·clear H h188
  rintro i59 _ o H
  rw [spec_TxOk_b2] at H
  refine HQ.keep [(1, _), (2, _), (3, _)] z3 ?_
  refine HQ.keepR [(1, _)] z1 rfl ?_
  refine HQ.seq ?_
  refine HQ.rseq ?_
  refine pu Pu.move z1 z3 ?_
  refine pu (Pu.fieldB fo57_3 rfl) z1 z3 ?_
  refine op [1] [1] (OT.loadB sc55 rfl) z1 z1 z4 (fun _ => rfl) fun _ => ?_
  refine pu (Pu.len ul55) z1 z3 ?_
  refine pu Pu.lss z2 z3 ?_
  refine HQ.done ?_
  refine HQ.keep [(1, _), (2, _), (3, _), (9, _)] z4 ?_
  rcases brk H with ⟨hc, H⟩ | ⟨hc, H⟩
  ·refine HQ.condT rfl hc ?_
   clear hc
   refine HQ.skipThen ?_
   refine HQ.seq ?_
   refine HQ.block ?_
   refine HQ.seq ?_
   refine HQ.seq ?_
   refine HQ.dStart mixd ?_
   obtain ⟨h118, H⟩ := asr H
   obtain ⟨⟨a119, c120⟩, hb121, hn122⟩ := BorS.nest hb_0 h118
   refine HQ.dPart [(1, BP b1 0), (2, .bool false), (3, vI i59)] 9 [⟨[], [], []⟩, ⟨[0], [0], [0]⟩, ⟨[], [], []⟩, ⟨[], [], [1, 2]⟩, ⟨[], [], [3]⟩, ⟨[], [], [4]⟩, ⟨[], [], []⟩, ⟨[0], [0], [6]⟩, ⟨[], [], [7]⟩] [⟨none, none⟩] (fun (g117 : Unit) => [BP b1 3, vS a_0 p0.Puts c_0, vI i59, EP a_0 i59 3 0, EP a_0 i59 3 0, vI ((gt p0.Puts i59).Page), BP b1 2, vI p0.Size, vI (wrap64 (p0.Size - 1))]) (fun (g117 : Unit) => [Box b1 [vI p0.Seq, vI p0.Root, vI p0.Size, vS a_0 p0.Puts c_0]]) () [1] [1] [] z3 z1 rfl (by kernel_rfl) (by kernel_rfl) (fun _ => rfl) (by kernel_rfl) (fun _ => rfl) rfl ⟨?_, ?_, ?_, ?_, ?_, ?_, ?_, ?_, ?_, trivial⟩ fun g117 => ?_
   ·exact OpOK2.pu (fun g117 => [(.tmp 1, BP b1 0)]) z2 (fun _ => z1) (fun _ => (Pu.fieldB fo57_3 rfl)) (fun _ => z1) (fun _ _ => z3)
   ·exact OpOK2.of (fun g117 => [(.tmp 12, BP b1 3)]) _ _ (fun g117 _ => g117) rfl rfl (fun _ => z1) (fun g117 => OT.loadB sc55 rfl) (fun _ _ => z3)
   ·exact OpOK2.pu (fun g117 => [(.tmp 3, vI i59)]) z2 (fun _ => z1) (fun _ => Pu.move) (fun _ => z1) (fun _ _ => z3)
   ·exact OpOK2.of (fun g117 => [(.tmp 13, vS a_0 p0.Puts c_0), (.tmp 14, vI i59)]) _ _ (fun g117 _ => g117) rfl rfl (fun _ => z2) (fun g117 => OT.indexB ul55 sz49 hb_0 h118) (fun _ _ => z3)
   ·exact OpOK2.pu (fun g117 => [(.tmp 15, EP a_0 i59 3 0)]) z2 (fun _ => z1) (fun _ => (Pu.fieldE fo49_0 rfl)) (fun _ => z1) (fun _ _ => z3)
   ·exact OpOK2.of (fun g117 => [(.tmp 16, EP a_0 i59 3 0)]) _ _ (fun g117 _ => g117) rfl rfl (fun _ => z1) (fun g117 => OT.loadN (v := vI ((gt p0.Puts i59).Page)) sc3 hn122 hlTChange rfl) (fun _ _ => z3)
   ·exact OpOK2.pu (fun g117 => [(.tmp 1, BP b1 0)]) z2 (fun _ => z1) (fun _ => (Pu.fieldB fo57_2 rfl)) (fun _ => z1) (fun _ _ => z3)
   ·exact OpOK2.of (fun g117 => [(.tmp 18, BP b1 2)]) _ _ (fun g117 _ => g117) rfl rfl (fun _ => z1) (fun g117 => OT.loadB sc3 rfl) (fun _ _ => z3)
   ·exact OpOK2.pu (fun g117 => [(.tmp 19, vI p0.Size), (.const (vI 1), vI 1)]) z2 (fun _ => z2) (fun _ => Pu.sub) (fun _ => z1) (fun _ _ => z3)
   refine HQ.keep [(1, _), (2, _), (3, _), (17, _), (20, _)] z5 ?_
   refine HQ.keepR [(1, _)] z1 rfl ?_
   refine HQ.dRun 3 rfl rfl (by kernel_rfl) (by kernel_rfl) ?_
   obtain ⟨t123, h124, H⟩ := bnd H
   refine op [] [] (OT.call (us := [_, _, _]) (Pre := []) [.tmp 17, .const (vI 0), .tmp 20] Try.call89 rfl rfl fun w F hs hF hp => spec_l1In_c h124) z4 trivial z4 (fun _ => rfl) fun _ => ?_
   refine pu Pu.not z1 z3 ?_
   refine pu Pu.move z1 z3 ?_
   refine HQ.done ?_
   obtain ⟨c135, h136, H⟩ := bnd H
   refine HQ.dMid (m' := 21) [(32, .bool c135), (1, BP b1 0), (2, .bool false), (3, vI i59)] [(1, Box b1 [vI p0.Seq, vI p0.Root, vI p0.Size, vS a_0 p0.Puts c_0])] (fun hmid => ?_) ?_
   ·clear H
    have H := h136
    rcases brk H with ⟨hg125, H⟩ | ⟨hg125, H⟩
    ·obtain rfl := Option.some.inj H
     refine HQ.dPart [(1, BP b1 0), (2, .bool false), (3, vI i59), (23, .bool (!t123))] 15 [⟨[], [], []⟩, ⟨[], [], []⟩, ⟨[], [], []⟩, ⟨[], [], []⟩, ⟨[], [], []⟩, ⟨[], [], []⟩, ⟨[], [], []⟩, ⟨[], [], []⟩, ⟨[], [], []⟩, ⟨[], [], []⟩, ⟨[], [], []⟩, ⟨[], [], []⟩, ⟨[], [], []⟩, ⟨[], [], []⟩, ⟨[], [], []⟩] [] (fun (g134 : Unit) => [undef, undef, undef, undef, undef, undef, undef, undef, undef, undef, undef, undef, undef, undef, undef]) (fun (g134 : Unit) => []) () [] [] [] z4 trivial rfl (by kernel_rfl) (by kernel_rfl) (fun _ => rfl) (by kernel_rfl) (fun _ => rfl) rfl ⟨?_, ?_, ?_, trivial⟩ fun g134 => ?_
     ·exact OpOK2.off rfl rfl rfl hg125 rfl rfl (fun _ => z1)
     ·exact OpOK2.off rfl rfl rfl hg125 rfl rfl (fun _ => z1)
     ·exact OpOK2.off rfl rfl rfl hg125 rfl rfl (fun _ => z1)
     refine HQ.keep [(1, _), (2, _), (3, _), (23, _), (24, _), (25, _), (26, _)] z7 ?_
     refine HQ.keepR [(1, _)] z1 rfl ?_
     refine HQ.dRun 5 rfl rfl (by kernel_rfl) (by kernel_rfl) ?_
     refine HQ.off rfl rfl hg125 rfl ?_
     refine HQ.off rfl rfl hg125 rfl ?_
     refine HQ.off rfl rfl hg125 rfl ?_
     refine HQ.off rfl rfl hg125 rfl ?_
     refine HQ.off rfl rfl hg125 rfl ?_
     refine HQ.done ?_
     refine HQ.dRun 1 rfl rfl (by kernel_rfl) (by kernel_rfl) ?_
     refine pu (Pu.pickC1 hg125) z2 z3 ?_
     refine HQ.done ?_
     exact HQ.dUse hmid z4 z1 rfl
    ·refine HQ.dPart [(1, BP b1 0), (2, .bool false), (3, vI i59), (23, .bool (!t123))] 15 [⟨[], [], []⟩, ⟨[], [], []⟩, ⟨[], [], []⟩, ⟨[], [], []⟩, ⟨[], [], []⟩, ⟨[], [], []⟩, ⟨[], [], []⟩, ⟨[], [], []⟩, ⟨[], [], []⟩, ⟨[], [], []⟩, ⟨[], [], []⟩, ⟨[], [], []⟩, ⟨[], [], []⟩, ⟨[0], [0], [12]⟩, ⟨[], [], []⟩] [⟨none, none⟩] (fun (g126 : Unit) => [undef, undef, undef, undef, undef, undef, undef, undef, undef, undef, undef, undef, BP b1 3, vS a_0 p0.Puts c_0, vI i59]) (fun (g126 : Unit) => [Box b1 [vI p0.Seq, vI p0.Root, vI p0.Size, vS a_0 p0.Puts c_0]]) () [1] [1] [] z4 z1 rfl (by kernel_rfl) (by kernel_rfl) (fun _ => rfl) (by kernel_rfl) (fun _ => rfl) rfl ⟨?_, ?_, ?_, trivial⟩ fun g126 => ?_
     ·exact OpOK2.on (fun g126 => [(.tmp 1, BP b1 0)]) _ _ (fun g126 _ => g126) rfl rfl rfl hg125 (fun _ => z1) (fun g126 => Pu.toOT (Pu.fieldB fo57_3 rfl)) (fun _ _ => z3)
     ·exact OpOK2.on (fun g126 => [(.tmp 24, BP b1 3)]) _ _ (fun g126 _ => g126) rfl rfl rfl hg125 (fun _ => z1) (fun g126 => OT.loadB sc55 rfl) (fun _ _ => z3)
     ·exact OpOK2.on (fun g126 => [(.tmp 3, vI i59)]) _ _ (fun g126 _ => g126) rfl rfl rfl hg125 (fun _ => z1) (fun g126 => Pu.toOT Pu.move) (fun _ _ => z3)
     refine HQ.keep [(1, _), (2, _), (3, _), (23, _), (24, _), (25, _), (26, _)] z7 ?_
     refine HQ.keepR [(1, _)] z1 rfl ?_
     refine HQ.dRun 5 rfl rfl (by kernel_rfl) (by kernel_rfl) ?_
     refine HQ.on rfl rfl hg125 ?_
     obtain ⟨h127, H⟩ := asr H
     refine op [] [] (OT.indexB ul55 sz49 hb_0 h127) z2 trivial z4 (fun _ => rfl) fun _ => ?_
     refine HQ.on rfl rfl hg125 ?_
     refine pu (Pu.fieldE fo49_1 rfl) z1 z3 ?_
     refine HQ.on rfl rfl hg125 ?_
     obtain ⟨⟨a128, c129⟩, hb130, hn131⟩ := BorS.nest hb_0 h127
     refine op [] [] (OT.loadNA (vs := [.bool ((gt p0.Puts i59).N.Leaf), vS a128 ((gt p0.Puts i59).N.L) c129]) ag47 sz47 hn131 hlTChange rfl rfl) z1 trivial z4 (fun _ => rfl) fun _ => ?_
     refine HQ.on rfl rfl hg125 ?_
     obtain ⟨t132, h133, H⟩ := bnd H
     refine op [] [] (OT.call (us := [_]) (Pre := []) [.tmp 29] Try.call105 rfl rfl fun w F hs hF hp => spec_NodeOk_c (hb130.pass hp) h133) z2 trivial z4 (fun _ => rfl) fun _ => ?_
     refine HQ.on rfl rfl hg125 ?_
     refine pu Pu.not z1 z3 ?_
     refine HQ.done ?_
     obtain rfl := Option.some.inj H
     refine HQ.dRun 1 rfl rfl (by kernel_rfl) (by kernel_rfl) ?_
     refine pu (Pu.pickC0 hg125) z2 z3 ?_
     refine HQ.done ?_
     exact HQ.dUse hmid z4 z1 rfl
   refine HQ.dEnd rfl ?_
   refine HQ.thenN ?_
   refine HQ.keep [(32, _), (1, _), (2, _), (3, _)] z4 ?_
   rcases brk H with ⟨hc, H⟩ | ⟨hc, H⟩
   ·refine HQ.condT rfl hc ?_
    clear hc
    refine HQ.rseq ?_
    refine pu Pu.assign z1 z3 ?_
    refine HQ.done ?_
    refine HQ.keep [(1, _), (2, _), (3, _)] z3 ?_
    refine HQ.ret ?_
    refine HQ.thenR ?_
    refine HQ.blkR ?_
    refine HQ.thenR ?_
    obtain rfl := Option.some.inj H
    refine HQ.retL ?_
    exact HQ.fin (vs := [_]) Try.results36 () z1 rfl [] trivial rfl
   ·refine HQ.condF rfl hc ?_
    clear hc
    refine HQ.skipThen ?_
    refine HQ.rseq ?_
    refine pu Pu.assign z1 z3 ?_
    refine HQ.done ?_
    refine HQ.keep [(1, _), (2, _), (3, _), (4, _)] z4 ?_
    refine HQ.block ?_
    obtain ⟨o171, h173, H⟩ := bnd H
    refine HQ.loop h173 2 (fun (s : Int) (g : Unit) => match s, g with | i148, () => [(1, BP b1 0), (2, .bool false), (3, vI i59), (4, vI i148)]) (fun (s : Int) (g : Unit) => match s, g with | i148, () => [(1, Box b1 [vI p0.Seq, vI p0.Root, vI p0.Size, vS a_0 p0.Puts c_0])]) (fun r => bodyPost Try.prog Try.f36 (Rt w Nil (fun _ : Unit => .bool r) (fun _ => [])) .ret) () z4 z1 rfl ?_ ?_ ?_
    ·clear H h173
     rintro i148 _ o H
     rw [spec_TxOk_b3] at H
     refine HQ.keep [(1, _), (2, _), (3, _), (4, _)] z4 ?_
     refine HQ.keepR [(1, _)] z1 rfl ?_
     refine HQ.seq ?_
     refine HQ.rseq ?_
     refine pu Pu.move z1 z3 ?_
     refine pu Pu.move z1 z3 ?_
     refine pu Pu.lss z2 z3 ?_
     refine HQ.done ?_
     refine HQ.keep [(1, _), (2, _), (3, _), (4, _), (35, _)] z5 ?_
     rcases brk H with ⟨hc, H⟩ | ⟨hc, H⟩
     ·refine HQ.condT rfl hc ?_
      clear hc
      refine HQ.skipThen ?_
      refine HQ.seq ?_
      refine HQ.block ?_
      obtain ⟨h161, H⟩ := asr H
      obtain ⟨h166, H⟩ := asr H
      obtain ⟨⟨a162, c163⟩, hb164, hn165⟩ := BorS.nest hb_0 h161
      obtain ⟨⟨a167, c168⟩, hb169, hn170⟩ := BorS.nest hb_0 h166
      refine HQ.drawS mixd [(1, BP b1 0), (2, .bool false), (3, vI i59), (4, vI i148)] 12 [⟨[], [], []⟩, ⟨[0], [0], [0]⟩, ⟨[], [], []⟩, ⟨[], [], [1, 2]⟩, ⟨[], [], [3]⟩, ⟨[], [], [4]⟩, ⟨[], [], []⟩, ⟨[0], [0], [6]⟩, ⟨[], [], []⟩, ⟨[], [], [7, 8]⟩, ⟨[], [], [9]⟩, ⟨[], [], [10]⟩] [⟨none, none⟩] (fun (g160 : Unit) => [BP b1 3, vS a_0 p0.Puts c_0, vI i148, EP a_0 i148 3 0, EP a_0 i148 3 0, vI ((gt p0.Puts i148).Page), BP b1 3, vS a_0 p0.Puts c_0, vI i59, EP a_0 i59 3 0, EP a_0 i59 3 0, vI ((gt p0.Puts i59).Page)]) (fun (g160 : Unit) => [Box b1 [vI p0.Seq, vI p0.Root, vI p0.Size, vS a_0 p0.Puts c_0]]) () [1] [1] [] z4 z1 rfl (by kernel_rfl) (fun _ => rfl) (by kernel_rfl) (fun _ => rfl) ⟨?_, ?_, ?_, ?_, ?_, ?_, ?_, ?_, ?_, ?_, ?_, ?_, trivial⟩ fun g160 => ?_
      ·exact OpOK.pu (fun g160 => [(.tmp 1, BP b1 0)]) z2 (fun _ => z1) (fun _ => (Pu.fieldB fo57_3 rfl)) (fun _ => z1) (fun _ _ => z3)
      ·exact OpOK.of (fun g160 => [(.tmp 38, BP b1 3)]) _ _ (fun g160 _ => g160) rfl rfl (fun _ => z1) (fun g160 => OT.loadB sc55 rfl) (fun _ _ => z3)
      ·exact OpOK.pu (fun g160 => [(.tmp 4, vI i148)]) z2 (fun _ => z1) (fun _ => Pu.move) (fun _ => z1) (fun _ _ => z3)
      ·exact OpOK.of (fun g160 => [(.tmp 39, vS a_0 p0.Puts c_0), (.tmp 40, vI i148)]) _ _ (fun g160 _ => g160) rfl rfl (fun _ => z2) (fun g160 => OT.indexB ul55 sz49 hb_0 h161) (fun _ _ => z3)
      ·exact OpOK.pu (fun g160 => [(.tmp 41, EP a_0 i148 3 0)]) z2 (fun _ => z1) (fun _ => (Pu.fieldE fo49_0 rfl)) (fun _ => z1) (fun _ _ => z3)
      ·exact OpOK.of (fun g160 => [(.tmp 42, EP a_0 i148 3 0)]) _ _ (fun g160 _ => g160) rfl rfl (fun _ => z1) (fun g160 => OT.loadN (v := vI ((gt p0.Puts i148).Page)) sc3 hn165 hlTChange rfl) (fun _ _ => z3)
      ·exact OpOK.pu (fun g160 => [(.tmp 1, BP b1 0)]) z2 (fun _ => z1) (fun _ => (Pu.fieldB fo57_3 rfl)) (fun _ => z1) (fun _ _ => z3)
      ·exact OpOK.of (fun g160 => [(.tmp 44, BP b1 3)]) _ _ (fun g160 _ => g160) rfl rfl (fun _ => z1) (fun g160 => OT.loadB sc55 rfl) (fun _ _ => z3)
      ·exact OpOK.pu (fun g160 => [(.tmp 3, vI i59)]) z2 (fun _ => z1) (fun _ => Pu.move) (fun _ => z1) (fun _ _ => z3)
      ·exact OpOK.of (fun g160 => [(.tmp 45, vS a_0 p0.Puts c_0), (.tmp 46, vI i59)]) _ _ (fun g160 _ => g160) rfl rfl (fun _ => z2) (fun g160 => OT.indexB ul55 sz49 hb_0 h166) (fun _ _ => z3)
      ·exact OpOK.pu (fun g160 => [(.tmp 47, EP a_0 i59 3 0)]) z2 (fun _ => z1) (fun _ => (Pu.fieldE fo49_0 rfl)) (fun _ => z1) (fun _ _ => z3)
      ·exact OpOK.of (fun g160 => [(.tmp 48, EP a_0 i59 3 0)]) _ _ (fun g160 _ => g160) rfl rfl (fun _ => z1) (fun g160 => OT.loadN (v := vI ((gt p0.Puts i59).Page)) sc3 hn170 hlTChange rfl) (fun _ _ => z3)
      refine HQ.keep [(1, _), (2, _), (3, _), (4, _), (43, _), (49, _)] z6 ?_
      refine HQ.keepR [(1, _)] z1 rfl ?_
      refine pu Pu.eql z2 z3 ?_
      refine HQ.done ?_
      refine HQ.keep [(1, _), (2, _), (3, _), (4, _), (50, _)] z5 ?_
      rcases brk H with ⟨hc, H⟩ | ⟨hc, H⟩
      ·refine HQ.condT rfl hc ?_
       clear hc
       refine HQ.rseq ?_
       refine pu Pu.assign z1 z3 ?_
       refine HQ.done ?_
       refine HQ.keep [(1, _), (2, _), (3, _), (4, _)] z4 ?_
       refine HQ.ret ?_
       refine HQ.blkR ?_
       refine HQ.thenR ?_
       obtain rfl := Option.some.inj H
       refine HQ.retL ?_
       exact HQ.fin (vs := [_]) Try.results36 () z1 rfl [] trivial rfl
      ·refine HQ.condF rfl hc ?_
       clear hc
       refine HQ.skip ?_
       refine HQ.blkN ?_
       refine HQ.thenN ?_
       refine HQ.regionQ ?_
       refine pu Pu.move z1 z3 ?_
       refine pu Pu.add z2 z3 ?_
       refine pu Pu.assign z1 z3 ?_
       refine HQ.done ?_
       refine HQ.keep [(1, _), (2, _), (3, _), (4, _)] z4 ?_
       obtain rfl := Option.some.inj H
       exact HQ.next () z4 z1 rfl
     ·refine HQ.condF rfl hc ?_
      clear hc
      refine HQ.exit ?_
      refine HQ.thenE ?_
      obtain rfl := Option.some.inj H
      exact HQ.out () z4 z1 rfl
    ·rintro i172 rfl _
     clear h173
     replace H := H
     refine HQ.keep [(1, _), (2, _), (3, _), (4, _)] z4 ?_
     refine HQ.keepR [(1, _)] z1 rfl ?_
     refine HQ.blkE ?_
     refine HQ.blkN ?_
     refine HQ.thenN ?_
     refine HQ.regionQ ?_
     refine pu Pu.move z1 z3 ?_
     refine pu Pu.add z2 z3 ?_
     refine pu Pu.assign z1 z3 ?_
     refine HQ.done ?_
     refine HQ.keep [(1, _), (2, _), (3, _)] z3 ?_
     obtain rfl := Option.some.inj H
     exact HQ.next () z3 z1 rfl
    ·rintro r rfl a w hr
     obtain rfl := Option.some.inj H
     exact ⟨rfl, hr⟩
  ·refine HQ.condF rfl hc ?_
   clear hc
   refine HQ.exit ?_
   refine HQ.thenE ?_
   obtain rfl := Option.some.inj H
   exact HQ.out () z3 z1 rfl
 ·rintro i175 rfl _
  clear h188
  replace H := H
  refine HQ.keep [(1, _), (2, _), (3, _)] z3 ?_
  refine HQ.keepR [(1, _)] z1 rfl ?_
  refine HQ.blkE ?_
  refine HQ.thenN ?_
  refine HQ.rseq ?_
  refine pu (Pu.fieldB fo57_0 rfl) z1 z3 ?_
  refine op [1] [1] (OT.loadB sc3 rfl) z1 z1 z4 (fun _ => rfl) fun _ => ?_
  obtain ⟨t176, h177, H⟩ := bnd H
  refine op [] [] (OT.call (us := [_, _, _]) (Pre := []) [.tmp 52, .const (vI 1), .const (vI 65535)] Try.call89 rfl rfl fun w F hs hF hp => spec_l1In_c h177) z4 trivial z4 (fun _ => rfl) fun _ => ?_
  refine pu Pu.move z1 z3 ?_
  obtain ⟨c181, h182, H⟩ := bnd H
  refine HQ.cutAt 4 [(58, .bool c181), (1, BP b1 0), (2, .bool false)] [(1, Box b1 [vI p0.Seq, vI p0.Root, vI p0.Size, vS a_0 p0.Puts c_0])] ?_ ?_
  ·clear H
   have H := h182
   rcases brk H with ⟨hg178, H⟩ | ⟨hg178, H⟩
   ·refine HQ.on rfl rfl hg178 ?_
    refine pu (Pu.fieldB fo57_2 rfl) z1 z3 ?_
    refine HQ.on rfl rfl hg178 ?_
    refine op [1] [1] (OT.loadB sc3 rfl) z1 z1 z4 (fun _ => rfl) fun _ => ?_
    refine HQ.on rfl rfl hg178 ?_
    obtain ⟨t179, h180, H⟩ := bnd H
    refine op [] [] (OT.call (us := [_, _, _]) (Pre := []) [.tmp 56, .const (vI 1), .const (vI 48)] Try.call89 rfl rfl fun w F hs hF hp => spec_l1In_c h180) z4 trivial z4 (fun _ => rfl) fun _ => ?_
    obtain rfl := Option.some.inj H
    refine pu (Pu.pickC1 hg178) z2 z3 ?_
    exact HQ.mid z3 z1 rfl
   ·obtain rfl := Option.some.inj H
    refine HQ.off rfl rfl hg178 rfl ?_
    refine HQ.off rfl rfl hg178 rfl ?_
    refine HQ.off rfl rfl hg178 rfl ?_
    refine pu (Pu.pickC0 hg178) z2 z3 ?_
    exact HQ.mid z3 z1 rfl
  refine pu Pu.move z1 z3 ?_
  obtain ⟨c186, h187, H⟩ := bnd H
  refine HQ.cutAt 7 [(66, .bool c186), (2, .bool false)] [(1, Box b1 [vI p0.Seq, vI p0.Root, vI p0.Size, vS a_0 p0.Puts c_0])] ?_ ?_
  ·clear H
   have H := h187
   rcases brk H with ⟨hg183, H⟩ | ⟨hg183, H⟩
   ·refine HQ.on rfl rfl hg183 ?_
    refine pu (Pu.fieldB fo57_1 rfl) z1 z3 ?_
    refine HQ.on rfl rfl hg183 ?_
    refine op [1] [1] (OT.loadB sc3 rfl) z1 z1 z4 (fun _ => rfl) fun _ => ?_
    refine HQ.on rfl rfl hg183 ?_
    refine pu (Pu.fieldB fo57_2 rfl) z1 z3 ?_
    refine HQ.on rfl rfl hg183 ?_
    refine op [1] [1] (OT.loadB sc3 rfl) z1 z1 z4 (fun _ => rfl) fun _ => ?_
    refine HQ.on rfl rfl hg183 ?_
    refine pu Pu.sub z2 z3 ?_
    refine HQ.on rfl rfl hg183 ?_
    obtain ⟨t184, h185, H⟩ := bnd H
    refine op [] [] (OT.call (us := [_, _, _]) (Pre := []) [.tmp 61, .const (vI 0), .tmp 64] Try.call89 rfl rfl fun w F hs hF hp => spec_l1In_c h185) z4 trivial z4 (fun _ => rfl) fun _ => ?_
    obtain rfl := Option.some.inj H
    refine pu (Pu.pickC1 hg183) z2 z3 ?_
    exact HQ.mid z2 z1 rfl
   ·obtain rfl := Option.some.inj H
    refine HQ.off rfl rfl hg183 rfl ?_
    refine HQ.off rfl rfl hg183 rfl ?_
    refine HQ.off rfl rfl hg183 rfl ?_
    refine HQ.off rfl rfl hg183 rfl ?_
    refine HQ.off rfl rfl hg183 rfl ?_
    refine HQ.off rfl rfl hg183 rfl ?_
    refine pu (Pu.pickC0 hg183) z2 z3 ?_
    exact HQ.mid z2 z1 rfl
  refine pu Pu.assign z1 z3 ?_
  refine HQ.done ?_
  refine HQ.keep [(2, _)] z1 ?_
  refine HQ.ret ?_
  obtain rfl := Option.some.inj H
  exact HQ.fin (vs := [_]) Try.results36 () z1 rfl [] trivial rfl
 ·rintro r rfl a w hr
  obtain rfl := Option.some.inj H
  exact hr

theorem spec_Put2_c {w : World} {p0 : (List Int)} {p1 : Int} {a_0 : Option Addr} {c_0 : Nat} (hb_0 : BorS kU8 a_0 c_0 p0 w.heap (Lt w Nil)) {r : (List Int)} (H : spec_Put2 p0 p1 = some r) :
  Calls Try.prog 106 #[vS a_0 p0 c_0, vI p1] w (Rt w Nil (fun g : Option Addr × Nat => vS g.1 r g.2) (fun g => [OwnS kU8 g.1 g.2 r])) := by
 rw [spec_Put2] at H
 refine Calls.enter0 (N := 22) (us := [_, _]) Try.func106 rfl rfl rfl ?_
 refine HQ.rseq ?_
 refine pu Pu.assign z1 z3 ?_
 refine HQ.done ?_
 refine HQ.keep [(0, _), (1, _), (4, _)] z3 ?_
 refine HQ.rseq ?_
 refine op [] [1] (OT.buildF (us := []) (ys := ([] : (List Int))) (enc := (encI .u8)) (hl := fun _ => ⟨rfl, rfl⟩) [] sl22.ul sl22.szE sl22.zc rfl rfl rfl rfl rfl) trivial trivial z4 (fun _ => rfl) fun ⟨a1, c2⟩ => ?_
 refine pu Pu.move z1 z3 ?_
 obtain ⟨h5, H⟩ := asr H
 refine op [1] [1] (OT.appendF (enc := (encI .u8)) (hl := fun _ => ⟨rfl, rfl⟩) sl22 ul22 hb_0 h5) z2 z1 z4 (fun _ => rfl) fun ⟨a3, c4⟩ => ?_
 refine pu Pu.assign z1 z3 ?_
 refine HQ.done ?_
 refine HQ.keep [(1, _), (4, _), (5, _)] z3 ?_
 refine HQ.seq ?_
 refine HQ.rseq ?_
 refine pu Pu.move z1 z3 ?_
 obtain ⟨t6, h7, H⟩ := bnd H
 refine op [] [] (OT.call (us := [_, _, _]) (Pre := []) [.tmp 9, .const (vI 0), .const (vI 65535)] Try.call89 rfl rfl fun w F hs hF hp => spec_l1In_c h7) z4 trivial z4 (fun _ => rfl) fun _ => ?_
 refine pu Pu.not z1 z3 ?_
 refine HQ.done ?_
 refine HQ.keep [(1, _), (4, _), (5, _), (11, _)] z4 ?_
 rcases brk H with ⟨hc, H⟩ | ⟨hc, H⟩
 ·refine HQ.condT rfl hc ?_
  clear hc
  refine HQ.rseq ?_
  refine pu Pu.move z1 z3 ?_
  refine pu Pu.assign z1 z3 ?_
  refine HQ.done ?_
  refine HQ.keep [(1, _), (4, _), (5, _)] z3 ?_
  refine HQ.ret ?_
  refine HQ.thenR ?_
  obtain rfl := Option.some.inj H
  exact HQ.fin (vs := [_]) Try.results106 (a3, c4) z1 rfl [1] z1 rfl
 ·refine HQ.condF rfl hc ?_
  clear hc
  refine HQ.skipThen ?_
  refine HQ.rseq ?_
  refine pu Pu.move z1 z3 ?_
  refine pu Pu.move z1 z3 ?_
  refine pu (Pu.quo (by decide)) z2 z3 ?_
  refine pu (Pu.conv ul3 ul5) z1 z3 ?_
  refine pu Pu.move z1 z3 ?_
  refine pu (Pu.rem (by decide)) z2 z3 ?_
  refine pu (Pu.conv ul3 ul5) z1 z3 ?_
  refine op [] [2] (OT.buildF (us := [.int .u8 (IntKind.u8.wrap (wrap64 (Int.tdiv p1 256))), .int .u8 (IntKind.u8.wrap (Int.tmod p1 256))]) (ys := ([(IntKind.u8.wrap (wrap64 (Int.tdiv p1 256))), (IntKind.u8.wrap (Int.tmod p1 256))] : (List Int))) (enc := (encI .u8)) (hl := fun _ => ⟨rfl, rfl⟩) [.tmp 16, .tmp 19] sl22.ul sl22.szE sl22.zc rfl rfl rfl rfl rfl) z2 trivial z4 (fun _ => rfl) fun ⟨a8, c9⟩ => ?_
  obtain ⟨h12, H⟩ := asr H
  refine op [1, 2] [1, 2] (OT.appendG (enc := (encI .u8)) (hl := fun _ => ⟨rfl, rfl⟩) sl22 ul22 h12) z2 z2 z4 (fun _ => rfl) fun ⟨a10, c11⟩ => ?_
  refine pu Pu.assign z1 z3 ?_
  refine HQ.done ?_
  refine HQ.keep [(4, _)] z1 ?_
  refine HQ.ret ?_
  obtain rfl := Option.some.inj H
  exact HQ.fin (vs := [_]) Try.results106 (a10, c11) z1 rfl [1] z1 rfl

theorem spec_PutEntry_c {w : World} {p0 : TEntry}   {r : (List Int)} (H : spec_PutEntry p0 = some r) :
  Calls Try.prog 130 #[.agg #[vI p0.N, vI p0.R.X0, vI p0.R.Y0, vI p0.R.X1, vI p0.R.Y1]] w (Rt w Nil (fun g : Option Addr × Nat => vS g.1 r g.2) (fun g => [OwnS kU8 g.1 g.2 r])) := by
 rw [spec_PutEntry] at H
 refine Calls.enter0 (N := 36) (us := [_]) Try.func130 rfl rfl rfl ?_
 refine HQ.rseq ?_
 refine op [] [1] (OT.box (cs := [vI p0.N, vI p0.R.X0, vI p0.R.Y0, vI p0.R.X1, vI p0.R.Y1]) rfl) z1 trivial z4 (fun _ => rfl) fun b1 => ?_
 refine pu Pu.assign z1 z3 ?_
 refine HQ.done ?_
 refine HQ.keep [(1, _), (2, _)] z2 ?_
 refine HQ.seq ?_
 refine HQ.rseq ?_
 refine pu (Pu.fieldB fo134_0 rfl) z1 z3 ?_
 refine op [1] [1] (OT.loadB sc3 rfl) z1 z1 z4 (fun _ => rfl) fun _ => ?_
 obtain ⟨t2, h3, H⟩ := bnd H
 refine op [] [] (OT.call (us := [_, _, _]) (Pre := []) [.tmp 4, .const (vI 0), .const (vI 65535)] Try.call89 rfl rfl fun w F hs hF hp => spec_l1In_c h3) z4 trivial z4 (fun _ => rfl) fun _ => ?_
 refine pu Pu.not z1 z3 ?_
 refine pu Pu.move z1 z3 ?_
 obtain ⟨c7, h8, H⟩ := bnd H
 refine HQ.cutAt 5 [(12, .bool c7), (1, BP b1 0), (2, .slice none 0 0)] [(1, Box b1 [vI p0.N, vI p0.R.X0, vI p0.R.Y0, vI p0.R.X1, vI p0.R.Y1])] ?_ ?_
 ·clear H
  have H := h8
  rcases brk H with ⟨hg4, H⟩ | ⟨hg4, H⟩
  ·obtain rfl := Option.some.inj H
   refine HQ.off rfl rfl hg4 rfl ?_
   refine HQ.off rfl rfl hg4 rfl ?_
   refine HQ.off rfl rfl hg4 rfl ?_
   refine HQ.off rfl rfl hg4 rfl ?_
   refine pu (Pu.pickC1 hg4) z2 z3 ?_
   exact HQ.mid z3 z1 rfl
  ·refine HQ.on rfl rfl hg4 ?_
   refine pu (Pu.fieldB fo134_1 rfl) z1 z3 ?_
   refine HQ.on rfl rfl hg4 ?_
   refine op [1] [1] (OT.loadBA (vs := [vI p0.R.X0, vI p0.R.Y0, vI p0.R.X1, vI p0.R.Y1]) ag132 sz132 rfl rfl) z1 z1 z4 (fun _ => rfl) fun _ => ?_
   refine HQ.on rfl rfl hg4 ?_
   obtain ⟨t5, h6, H⟩ := bnd H
   refine op [] [] (OT.call (us := [_]) (Pre := []) [.tmp 9] Try.call128 rfl rfl fun w F hs hF hp => spec_BoxOk_c h6) z2 trivial z4 (fun _ => rfl) fun _ => ?_
   refine HQ.on rfl rfl hg4 ?_
   refine pu Pu.not z1 z3 ?_
   obtain rfl := Option.some.inj H
   refine pu (Pu.pickC0 hg4) z2 z3 ?_
   exact HQ.mid z3 z1 rfl
 refine HQ.done ?_
 refine HQ.keep [(12, _), (1, _), (2, _)] z3 ?_
 rcases brk H with ⟨hc, H⟩ | ⟨hc, H⟩
 ·refine HQ.condT rfl hc ?_
  clear hc
  refine HQ.rseq ?_
  refine op [] [2] (OT.buildF (us := []) (ys := ([] : (List Int))) (enc := (encI .u8)) (hl := fun _ => ⟨rfl, rfl⟩) [] sl22.ul sl22.szE sl22.zc rfl rfl rfl rfl rfl) trivial trivial z4 (fun _ => rfl) fun ⟨a9, c10⟩ => ?_
  refine pu Pu.assign z1 z3 ?_
  refine HQ.done ?_
  refine HQ.keep [(1, _), (2, _)] z2 ?_
  refine HQ.ret ?_
  refine HQ.thenR ?_
  obtain rfl := Option.some.inj H
  exact HQ.fin (vs := [_]) Try.results130 (a9, c10) z1 rfl [2] z1 rfl
 ·refine HQ.condF rfl hc ?_
  clear hc
  refine HQ.skipThen ?_
  obtain ⟨t14, h15, H⟩ := bnd H
  refine HQ.drawS mixd [(1, BP b1 0), (2, .slice none 0 0)] 21 [⟨[], [0], []⟩, ⟨[], [], []⟩, ⟨[1], [1], [1]⟩, ⟨[0], [2, 0], [0, 2]⟩, ⟨[], [], []⟩, ⟨[], [], [4]⟩, ⟨[1], [1], [5]⟩, ⟨[], [], [6]⟩, ⟨[], [], []⟩, ⟨[], [], [8]⟩, ⟨[1], [1], [9]⟩, ⟨[], [], [10]⟩, ⟨[], [], []⟩, ⟨[], [], [12]⟩, ⟨[1], [1], [13]⟩, ⟨[], [], [14]⟩, ⟨[], [], []⟩, ⟨[], [], [16]⟩, ⟨[1], [1], [17]⟩, ⟨[], [], [18]⟩, ⟨[], [3], [7, 11, 15, 19]⟩] [⟨some 0, none⟩, ⟨none, none⟩, ⟨some 3, none⟩, ⟨some 20, none⟩] (fun (g11 : (Option Addr × Nat) × (Option Addr × Nat) × (Option Addr × Nat)) => [vS g11.1.1 ([] : (List Int)) g11.1.2, BP b1 0, vI p0.N, vS g11.2.1.1 t14 g11.2.1.2, BP b1 1, BP b1 1, vI p0.R.X0, .int .u8 (IntKind.u8.wrap p0.R.X0), BP b1 1, BP b1 2, vI p0.R.Y0, .int .u8 (IntKind.u8.wrap p0.R.Y0), BP b1 1, BP b1 3, vI p0.R.X1, .int .u8 (IntKind.u8.wrap p0.R.X1), BP b1 1, BP b1 4, vI p0.R.Y1, .int .u8 (IntKind.u8.wrap p0.R.Y1), vS g11.2.2.1 ([(IntKind.u8.wrap p0.R.X0), (IntKind.u8.wrap p0.R.Y0), (IntKind.u8.wrap p0.R.X1), (IntKind.u8.wrap p0.R.Y1)] : (List Int)) g11.2.2.2]) (fun (g11 : (Option Addr × Nat) × (Option Addr × Nat) × (Option Addr × Nat)) => [OwnS kU8 g11.1.1 g11.1.2 ([] : (List Int)), Box b1 [vI p0.N, vI p0.R.X0, vI p0.R.Y0, vI p0.R.X1, vI p0.R.Y1], OwnS kU8 g11.2.1.1 g11.2.1.2 t14, OwnS kU8 g11.2.2.1 g11.2.2.2 ([(IntKind.u8.wrap p0.R.X0), (IntKind.u8.wrap p0.R.Y0), (IntKind.u8.wrap p0.R.X1), (IntKind.u8.wrap p0.R.Y1)] : (List Int))]) ((none, 0), (none, 0), (none, 0)) [1] [3, 1, 4, 5] [] z2 z1 rfl (by kernel_rfl) (fun _ => rfl) (by kernel_rfl) (fun _ => rfl) ⟨?_, ?_, ?_, ?_, ?_, ?_, ?_, ?_, ?_, ?_, ?_, ?_, ?_, ?_, ?_, ?_, ?_, ?_, ?_, ?_, ?_, trivial⟩ fun g11 => ?_
  ·exact OpOK.of (fun g11 => []) _ _ (fun g11 x => (x, g11.2.1, g11.2.2)) rfl rfl (fun _ => trivial) (fun g11 => OT.buildF (us := []) (ys := ([] : (List Int))) (enc := (encI .u8)) (hl := fun _ => ⟨rfl, rfl⟩) [] sl22.ul sl22.szE sl22.zc rfl rfl rfl rfl rfl) (fun _ _ => z6)
  ·exact OpOK.pu (fun g11 => [(.tmp 1, BP b1 0)]) z2 (fun _ => z1) (fun _ => (Pu.fieldB fo134_0 rfl)) (fun _ => z1) (fun _ _ => z6)
  ·exact OpOK.of (fun g11 => [(.tmp 15, BP b1 0)]) _ _ (fun g11 _ => g11) rfl rfl (fun _ => z1) (fun g11 => OT.loadB sc3 rfl) (fun _ _ => z6)
  ·exact OpOK.of (fun g11 => [(.func 106, .func (.func 106) #[] #[]), (.tmp 14, vS g11.1.1 ([] : (List Int)) g11.1.2), (.tmp 16, vI p0.N)]) _ _ (fun g11 x => (g11.1, x, g11.2.2)) rfl rfl (fun _ => z3) (fun g11 => OT.call (us := [_, _]) (Pre := [OwnS kU8 g11.1.1 g11.1.2 ([] : (List Int))]) [.tmp 14, .tmp 16] Try.call106 rfl rfl fun w F hs hF hp => spec_Put2_c (hs.lend hF 0 rfl) h15) (fun _ _ => z6)
  ·exact OpOK.pu (fun g11 => [(.tmp 1, BP b1 0)]) z2 (fun _ => z1) (fun _ => (Pu.fieldB fo134_1 rfl)) (fun _ => z1) (fun _ _ => z6)
  ·exact OpOK.pu (fun g11 => [(.tmp 18, BP b1 1)]) z2 (fun _ => z1) (fun _ => (Pu.fieldB fo132_0 rfl)) (fun _ => z1) (fun _ _ => z6)
  ·exact OpOK.of (fun g11 => [(.tmp 19, BP b1 1)]) _ _ (fun g11 _ => g11) rfl rfl (fun _ => z1) (fun g11 => OT.loadB sc3 rfl) (fun _ _ => z6)
  ·exact OpOK.pu (fun g11 => [(.tmp 20, vI p0.R.X0)]) z2 (fun _ => z1) (fun _ => (Pu.conv ul3 ul5)) (fun _ => z1) (fun _ _ => z6)
  ·exact OpOK.pu (fun g11 => [(.tmp 1, BP b1 0)]) z2 (fun _ => z1) (fun _ => (Pu.fieldB fo134_1 rfl)) (fun _ => z1) (fun _ _ => z6)
  ·exact OpOK.pu (fun g11 => [(.tmp 22, BP b1 1)]) z2 (fun _ => z1) (fun _ => (Pu.fieldB fo132_1 rfl)) (fun _ => z1) (fun _ _ => z6)
  ·exact OpOK.of (fun g11 => [(.tmp 23, BP b1 2)]) _ _ (fun g11 _ => g11) rfl rfl (fun _ => z1) (fun g11 => OT.loadB sc3 rfl) (fun _ _ => z6)
  ·exact OpOK.pu (fun g11 => [(.tmp 24, vI p0.R.Y0)]) z2 (fun _ => z1) (fun _ => (Pu.conv ul3 ul5)) (fun _ => z1) (fun _ _ => z6)
  ·exact OpOK.pu (fun g11 => [(.tmp 1, BP b1 0)]) z2 (fun _ => z1) (fun _ => (Pu.fieldB fo134_1 rfl)) (fun _ => z1) (fun _ _ => z6)
  ·exact OpOK.pu (fun g11 => [(.tmp 26, BP b1 1)]) z2 (fun _ => z1) (fun _ => (Pu.fieldB fo132_2 rfl)) (fun _ => z1) (fun _ _ => z6)
  ·exact OpOK.of (fun g11 => [(.tmp 27, BP b1 3)]) _ _ (fun g11 _ => g11) rfl rfl (fun _ => z1) (fun g11 => OT.loadB sc3 rfl) (fun _ _ => z6)
  ·exact OpOK.pu (fun g11 => [(.tmp 28, vI p0.R.X1)]) z2 (fun _ => z1) (fun _ => (Pu.conv ul3 ul5)) (fun _ => z1) (fun _ _ => z6)
  ·exact OpOK.pu (fun g11 => [(.tmp 1, BP b1 0)]) z2 (fun _ => z1) (fun _ => (Pu.fieldB fo134_1 rfl)) (fun _ => z1) (fun _ _ => z6)
  ·exact OpOK.pu (fun g11 => [(.tmp 30, BP b1 1)]) z2 (fun _ => z1) (fun _ => (Pu.fieldB fo132_3 rfl)) (fun _ => z1) (fun _ _ => z6)
  ·exact OpOK.of (fun g11 => [(.tmp 31, BP b1 4)]) _ _ (fun g11 _ => g11) rfl rfl (fun _ => z1) (fun g11 => OT.loadB sc3 rfl) (fun _ _ => z6)
  ·exact OpOK.pu (fun g11 => [(.tmp 32, vI p0.R.Y1)]) z2 (fun _ => z1) (fun _ => (Pu.conv ul3 ul5)) (fun _ => z1) (fun _ _ => z6)
  ·exact OpOK.of (fun g11 => [(.tmp 21, .int .u8 (IntKind.u8.wrap p0.R.X0)), (.tmp 25, .int .u8 (IntKind.u8.wrap p0.R.Y0)), (.tmp 29, .int .u8 (IntKind.u8.wrap p0.R.X1)), (.tmp 33, .int .u8 (IntKind.u8.wrap p0.R.Y1))]) _ _ (fun g11 x => (g11.1, g11.2.1, x)) rfl rfl (fun _ => z4) (fun g11 => OT.buildF (us := [.int .u8 (IntKind.u8.wrap p0.R.X0), .int .u8 (IntKind.u8.wrap p0.R.Y0), .int .u8 (IntKind.u8.wrap p0.R.X1), .int .u8 (IntKind.u8.wrap p0.R.Y1)]) (ys := ([(IntKind.u8.wrap p0.R.X0), (IntKind.u8.wrap p0.R.Y0), (IntKind.u8.wrap p0.R.X1), (IntKind.u8.wrap p0.R.Y1)] : (List Int))) (enc := (encI .u8)) (hl := fun _ => ⟨rfl, rfl⟩) [.tmp 21, .tmp 25, .tmp 29, .tmp 33] sl22.ul sl22.szE sl22.zc rfl rfl rfl rfl rfl) (fun _ _ => z6)
  refine HQ.keep [(2, _), (17, _), (34, _)] z3 ?_
  refine HQ.keepR [(1, _), (3, _), (4, _), (5, _)] z4 rfl ?_
  obtain ⟨h22, H⟩ := asr H
  refine op [4, 5] [4, 5] (OT.appendG (enc := (encI .u8)) (hl := fun _ => ⟨rfl, rfl⟩) sl22 ul22 h22) z2 z2 z4 (fun _ => rfl) fun ⟨a20, c21⟩ => ?_
  refine pu Pu.assign z1 z3 ?_
  refine HQ.done ?_
  refine HQ.keep [(2, _)] z1 ?_
  refine HQ.ret ?_
  obtain rfl := Option.some.inj H
  exact HQ.fin (vs := [_]) Try.results130 (a20, c21) z1 rfl [4] z1 rfl

theorem spec_Pad_c {w : World} {k : Nat} {p0 : (List Int)} {p1 : Int} {a_0 : Option Addr} {c_0 : Nat} (hb_0 : BorS kU8 a_0 c_0 p0 w.heap (Lt w Nil)) {r : (List Int)} (H : spec_Pad k p0 p1 = some r) :
  Calls Try.prog 92 #[vS a_0 p0 c_0, vI p1] w (Rt w Nil (fun g : Option Addr × Nat => vS g.1 r g.2) (fun g => [OwnS kU8 g.1 g.2 r])) := by
 rw [spec_Pad] at H
 refine Calls.enter0 (N := 21) (us := [_, _]) Try.func92 rfl rfl rfl ?_
 refine HQ.rseq ?_
 refine pu Pu.assign z1 z3 ?_
 refine HQ.done ?_
 refine HQ.keep [(0, _), (1, _), (4, _)] z3 ?_
 refine HQ.rseq ?_
 refine op [] [1] (OT.buildF (us := []) (ys := ([] : (List Int))) (enc := (encI .u8)) (hl := fun _ => ⟨rfl, rfl⟩) [] sl22.ul sl22.szE sl22.zc rfl rfl rfl rfl rfl) trivial trivial z4 (fun _ => rfl) fun ⟨a1, c2⟩ => ?_
 refine pu Pu.move z1 z3 ?_
 obtain ⟨h5, H⟩ := asr H
 refine op [1] [1] (OT.appendF (enc := (encI .u8)) (hl := fun _ => ⟨rfl, rfl⟩) sl22 ul22 hb_0 h5) z2 z1 z4 (fun _ => rfl) fun ⟨a3, c4⟩ => ?_
 refine pu Pu.assign z1 z3 ?_
 refine HQ.done ?_
 refine HQ.keep [(1, _), (4, _), (5, _)] z3 ?_
 refine HQ.seq ?_
 refine HQ.block ?_
 obtain ⟨o27, h31, H⟩ := bnd H
 refine HQ.loop h31 0 (fun (s : (List Int)) (g : Option Addr × Nat) => match s, g with | l12, (a13, c14) => [(1, vI p1), (4, .slice none 0 0), (5, vS a13 l12 c14)]) (fun (s : (List Int)) (g : Option Addr × Nat) => match s, g with | l12, (a13, c14) => [(1, OwnS kU8 a13 c14 l12)]) (fun _ _ _ => False) (a3, c4) z3 z1 rfl ?_ ?_ ?_
 ·clear H h31
  rintro l12 ⟨a13, c14⟩ o H
  rw [spec_Pad_b0] at H
  refine HQ.keep [(1, _), (4, _), (5, _)] z3 ?_
  refine HQ.keepR [(1, _)] z1 rfl ?_
  refine HQ.seq ?_
  refine HQ.rseq ?_
  refine pu Pu.move z1 z3 ?_
  refine pu (Pu.len ul22) z1 z3 ?_
  refine pu Pu.move z1 z3 ?_
  refine pu Pu.lss z2 z3 ?_
  refine pu Pu.move z1 z3 ?_
  refine HQ.cutAt 3 [(16, .bool ((decide (((List.length l12 : Nat) : Int) < p1)) && (decide (p1 ≤ 64)))), (1, vI p1), (4, .slice none 0 0), (5, vS a13 l12 c14)] [(1, OwnS kU8 a13 c14 l12)] ?_ ?_
  ·rcases Bool.eq_false_or_eq_true (decide (((List.length l12 : Nat) : Int) < p1)) with hg21 | hg21
   ·refine HQ.on rfl rfl hg21 ?_
    refine pu Pu.move z1 z3 ?_
    refine HQ.on rfl rfl hg21 ?_
    refine pu Pu.leq z2 z3 ?_
    refine pu (Pu.pickAT hg21) z2 z3 ?_
    exact HQ.mid z4 z1 rfl
   ·refine HQ.off rfl rfl hg21 rfl ?_
    refine HQ.off rfl rfl hg21 rfl ?_
    refine pu (Pu.pickAF (u := (decide (p1 ≤ 64))) hg21) z2 z3 ?_
    exact HQ.mid z4 z1 rfl
  refine HQ.done ?_
  refine HQ.keep [(16, _), (1, _), (4, _), (5, _)] z4 ?_
  rcases brk H with ⟨hc, H⟩ | ⟨hc, H⟩
  ·refine HQ.condT rfl hc ?_
   clear hc
   refine HQ.skipThen ?_
   refine HQ.block ?_
   refine HQ.regionQ ?_
   refine pu Pu.move z1 z3 ?_
   refine op [] [4] (OT.buildF (us := [.int .u8 0]) (ys := ([0] : (List Int))) (enc := (encI .u8)) (hl := fun _ => ⟨rfl, rfl⟩) [.const (.int .u8 0)] sl22.ul sl22.szE sl22.zc rfl rfl rfl rfl rfl) z1 trivial z4 (fun _ => rfl) fun ⟨a22, c23⟩ => ?_
   obtain ⟨h26, H⟩ := asr H
   refine op [1, 4] [1, 4] (OT.appendG (enc := (encI .u8)) (hl := fun _ => ⟨rfl, rfl⟩) sl22 ul22 h26) z2 z2 z4 (fun _ => rfl) fun ⟨a24, c25⟩ => ?_
   refine pu Pu.assign z1 z3 ?_
   refine HQ.done ?_
   refine HQ.keep [(1, _), (4, _), (5, _)] z3 ?_
   refine HQ.blkN ?_
   obtain rfl := Option.some.inj H
   exact HQ.next (a24, c25) z3 z1 rfl
  ·refine HQ.condF rfl hc ?_
   clear hc
   refine HQ.exit ?_
   refine HQ.thenE ?_
   obtain rfl := Option.some.inj H
   exact HQ.out (a13, c14) z3 z1 rfl
 ·rintro l28 rfl ⟨a29, c30⟩
  clear h31
  replace H := H
  refine HQ.keep [(1, _), (4, _), (5, _)] z3 ?_
  refine HQ.keepR [(1, _)] z1 rfl ?_
  refine HQ.blkE ?_
  refine HQ.thenN ?_
  refine HQ.rseq ?_
  refine pu Pu.move z1 z3 ?_
  refine pu Pu.assign z1 z3 ?_
  refine HQ.done ?_
  refine HQ.keep [(4, _)] z1 ?_
  refine HQ.ret ?_
  obtain rfl := Option.some.inj H
  exact HQ.fin (vs := [_]) Try.results92 (a29, c30) z1 rfl [1] z1 rfl
 ·exact fun r h a w hf => hf.elim

theorem spec_PutNode_c {w : World} {k : Nat} {p0 : TNode} {a_0 : Option Addr} {c_0 : Nat} (hb_0 : BorS kTEntry a_0 c_0 p0.L w.heap (Lt w Nil)) {r : (List Int)} (H : spec_PutNode k p0 = some r) :
  Calls Try.prog 107 #[.agg #[.bool p0.Leaf, vS a_0 p0.L c_0]] w (Rt w Nil (fun g : Option Addr × Nat => vS g.1 r g.2) (fun g => [OwnS kU8 g.1 g.2 r])) := by
 rw [spec_PutNode] at H
 refine Calls.enter0 (N := 37) (us := [_]) Try.func107 rfl rfl rfl ?_
 refine HQ.rseq ?_
 refine op [] [1] (OT.box (cs := [.bool p0.Leaf, vS a_0 p0.L c_0]) rfl) z1 trivial z4 (fun _ => rfl) fun b1 => ?_
 refine pu Pu.assign z1 z3 ?_
 refine HQ.done ?_
 refine HQ.keep [(1, _), (2, _)] z2 ?_
 refine HQ.seq ?_
 refine HQ.rseq ?_
 refine op [1] [1] (OT.loadBA (vs := [.bool p0.Leaf, vS a_0 p0.L c_0]) ag47 sz47 rfl rfl) z1 z1 z4 (fun _ => rfl) fun _ => ?_
 obtain ⟨t2, h3, H⟩ := bnd H
 refine op [] [] (OT.call (us := [_]) (Pre := []) [.tmp 6] Try.call105 rfl rfl fun w F hs hF hp => spec_NodeOk_c (hb_0.pass hp) h3) z2 trivial z4 (fun _ => rfl) fun _ => ?_
 refine pu Pu.not z1 z3 ?_
 refine HQ.done ?_
 refine HQ.keep [(1, _), (2, _), (8, _)] z3 ?_
 rcases brk H with ⟨hc, H⟩ | ⟨hc, H⟩
 ·refine HQ.condT rfl hc ?_
  clear hc
  refine HQ.rseq ?_
  refine op [] [2] (OT.buildF (us := []) (ys := ([] : (List Int))) (enc := (encI .u8)) (hl := fun _ => ⟨rfl, rfl⟩) [] sl22.ul sl22.szE sl22.zc rfl rfl rfl rfl rfl) trivial trivial z4 (fun _ => rfl) fun ⟨a4, c5⟩ => ?_
  refine pu Pu.assign z1 z3 ?_
  refine HQ.done ?_
  refine HQ.keep [(1, _), (2, _)] z2 ?_
  refine HQ.ret ?_
  refine HQ.thenR ?_
  obtain rfl := Option.some.inj H
  exact HQ.fin (vs := [_]) Try.results107 (a4, c5) z1 rfl [2] z1 rfl
 ·refine HQ.condF rfl hc ?_
  clear hc
  refine HQ.skipThen ?_
  refine HQ.rseq ?_
  refine pu (Pu.fieldB fo47_1 rfl) z1 z3 ?_
  refine op [1] [1] (OT.loadB sc45 rfl) z1 z1 z4 (fun _ => rfl) fun _ => ?_
  refine pu (Pu.len ul45) z1 z3 ?_
  refine pu Pu.assign z1 z3 ?_
  refine HQ.done ?_
  refine HQ.keep [(1, _), (2, _), (3, _)] z3 ?_
  refine HQ.seq ?_
  refine HQ.rseq ?_
  refine pu (Pu.fieldB fo47_0 rfl) z1 z3 ?_
  refine op [1] [1] (OT.loadB sc4 rfl) z1 z1 z4 (fun _ => rfl) fun _ => ?_
  refine HQ.done ?_
  refine HQ.keep [(1, _), (2, _), (3, _), (14, _)] z4 ?_
  rcases brk H with ⟨hc, H⟩ | ⟨hc, H⟩
  ·refine HQ.condT rfl hc ?_
   clear hc
   refine HQ.region ?_
   refine pu Pu.move z1 z3 ?_
   refine pu Pu.add z2 z3 ?_
   refine pu Pu.assign z1 z3 ?_
   refine HQ.done ?_
   refine HQ.keep [(1, _), (2, _), (3, _)] z3 ?_
   refine HQ.rseq ?_
   refine pu Pu.move z1 z3 ?_
   refine pu (Pu.conv ul3 ul5) z1 z3 ?_
   refine op [] [3] (OT.buildF (us := [.int .u8 (IntKind.u8.wrap (wrap64 (((List.length p0.L : Nat) : Int) + 16)))]) (ys := ([(IntKind.u8.wrap (wrap64 (((List.length p0.L : Nat) : Int) + 16)))] : (List Int))) (enc := (encI .u8)) (hl := fun _ => ⟨rfl, rfl⟩) [.tmp 18] sl22.ul sl22.szE sl22.zc rfl rfl rfl rfl rfl) z1 trivial z4 (fun _ => rfl) fun ⟨a6, c7⟩ => ?_
   refine pu Pu.assign z1 z3 ?_
   refine HQ.done ?_
   refine HQ.keep [(1, _), (2, _), (4, _)] z3 ?_
   refine HQ.seq ?_
   refine HQ.rseq ?_
   refine pu Pu.assign z1 z3 ?_
   refine HQ.done ?_
   refine HQ.keep [(1, _), (2, _), (4, _), (5, _)] z4 ?_
   refine HQ.block ?_
   obtain ⟨o36, h45, H⟩ := bnd H
   refine HQ.loop h45 0 (fun (s : (List Int) × Int) (g : Option Addr × Nat) => match s, g with | (l16, i19), (a17, c18) => [(1, BP b1 0), (2, .slice none 0 0), (4, vS a17 l16 c18), (5, vI i19)]) (fun (s : (List Int) × Int) (g : Option Addr × Nat) => match s, g with | (l16, i19), (a17, c18) => [(1, Box b1 [.bool p0.Leaf, vS a_0 p0.L c_0]), (3, OwnS kU8 a17 c18 l16)]) (fun _ _ _ => False) (a6, c7) z4 z2 rfl ?_ ?_ ?_
   ·clear H h45
    rintro ⟨l16, i19⟩ ⟨a17, c18⟩ o H
    rw [spec_PutNode_b0] at H
    refine HQ.keep [(1, _), (2, _), (4, _), (5, _)] z4 ?_
    refine HQ.keepR [(1, _), (3, _)] z2 rfl ?_
    refine HQ.seq ?_
    refine HQ.rseq ?_
    refine pu Pu.move z1 z3 ?_
    refine pu (Pu.fieldB fo47_1 rfl) z1 z3 ?_
    refine op [1] [1] (OT.loadB sc45 rfl) z1 z1 z4 (fun _ => rfl) fun _ => ?_
    refine pu (Pu.len ul45) z1 z3 ?_
    refine pu Pu.lss z2 z3 ?_
    refine HQ.done ?_
    refine HQ.keep [(1, _), (2, _), (4, _), (5, _), (24, _)] z5 ?_
    rcases brk H with ⟨hc, H⟩ | ⟨hc, H⟩
    ·refine HQ.condT rfl hc ?_
     clear hc
     refine HQ.skipThen ?_
     refine HQ.seq ?_
     refine HQ.block ?_
     refine HQ.regionQ ?_
     refine pu Pu.move z1 z3 ?_
     refine pu (Pu.fieldB fo47_1 rfl) z1 z3 ?_
     refine op [1] [1] (OT.loadB sc45 rfl) z1 z1 z4 (fun _ => rfl) fun _ => ?_
     refine pu Pu.move z1 z3 ?_
     obtain ⟨h28, H⟩ := asr H
     refine op [] [] (OT.indexB ul45 sz134 hb_0 h28) z2 trivial z4 (fun _ => rfl) fun _ => ?_
     refine op [] [] (OT.loadFA (vs := [vI ((gt p0.L i19).N), vI ((gt p0.L i19).R.X0), vI ((gt p0.L i19).R.Y0), vI ((gt p0.L i19).R.X1), vI ((gt p0.L i19).R.Y1)]) ag134 sz134 hb_0 h28 rfl rfl) z1 trivial z4 (fun _ => rfl) fun _ => ?_
     obtain ⟨t29, h30, H⟩ := bnd H
     refine op [] [6] (OT.call (us := [_]) (Pre := []) [.tmp 32] Try.call130 rfl rfl fun w F hs hF hp => spec_PutEntry_c h30) z2 trivial z4 (fun _ => rfl) fun ⟨a31, c32⟩ => ?_
     obtain ⟨h35, H⟩ := asr H
     refine op [3, 6] [3, 6] (OT.appendG (enc := (encI .u8)) (hl := fun _ => ⟨rfl, rfl⟩) sl22 ul22 h35) z2 z2 z4 (fun _ => rfl) fun ⟨a33, c34⟩ => ?_
     refine pu Pu.assign z1 z3 ?_
     refine HQ.done ?_
     refine HQ.keep [(1, _), (2, _), (4, _), (5, _)] z4 ?_
     refine HQ.blkN ?_
     refine HQ.thenN ?_
     refine HQ.regionQ ?_
     refine pu Pu.move z1 z3 ?_
     refine pu Pu.add z2 z3 ?_
     refine pu Pu.assign z1 z3 ?_
     refine HQ.done ?_
     refine HQ.keep [(1, _), (2, _), (4, _), (5, _)] z4 ?_
     obtain rfl := Option.some.inj H
     exact HQ.next (a33, c34) z4 z2 rfl
    ·refine HQ.condF rfl hc ?_
     clear hc
     refine HQ.exit ?_
     refine HQ.thenE ?_
     obtain rfl := Option.some.inj H
     exact HQ.out (a17, c18) z4 z2 rfl
   ·rintro ⟨l37, i40⟩ rfl ⟨a38, c39⟩
    clear h45
    replace H := H
    refine HQ.keep [(1, _), (2, _), (4, _), (5, _)] z4 ?_
    refine HQ.keepR [(1, _), (3, _)] z2 rfl ?_
    refine HQ.blkE ?_
    refine HQ.thenN ?_
    refine HQ.rseq ?_
    refine pu Pu.move z1 z3 ?_
    obtain ⟨t41, h42, H⟩ := bnd H
    refine op [3] [7, 3] (OT.call (us := [_, _]) (Pre := [OwnS kU8 a38 c39 l37]) [.tmp 35, .const (vI 25)] Try.call92 rfl rfl fun w F hs hF hp => spec_Pad_c (hs.lend hF 0 rfl) h42) z3 z1 z4 (fun _ => rfl) fun ⟨a43, c44⟩ => ?_
    refine pu Pu.assign z1 z3 ?_
    refine HQ.done ?_
    refine HQ.keep [(2, _)] z1 ?_
    refine HQ.ret ?_
    obtain rfl := Option.some.inj H
    exact HQ.fin (vs := [_]) Try.results107 (a43, c44) z1 rfl [7] z1 rfl
   ·exact fun r h a w hf => hf.elim
  ·refine HQ.condF rfl hc ?_
   clear hc
   refine HQ.skipThen ?_
   refine HQ.rseq ?_
   refine pu Pu.move z1 z3 ?_
   refine pu (Pu.conv ul3 ul5) z1 z3 ?_
   refine op [] [8] (OT.buildF (us := [.int .u8 (IntKind.u8.wrap ((List.length p0.L : Nat) : Int))]) (ys := ([(IntKind.u8.wrap ((List.length p0.L : Nat) : Int))] : (List Int))) (enc := (encI .u8)) (hl := fun _ => ⟨rfl, rfl⟩) [.tmp 18] sl22.ul sl22.szE sl22.zc rfl rfl rfl rfl rfl) z1 trivial z4 (fun _ => rfl) fun ⟨a46, c47⟩ => ?_
   refine pu Pu.assign z1 z3 ?_
   refine HQ.done ?_
   refine HQ.keep [(1, _), (2, _), (4, _)] z3 ?_
   refine HQ.seq ?_
   refine HQ.rseq ?_
   refine pu Pu.assign z1 z3 ?_
   refine HQ.done ?_
   refine HQ.keep [(1, _), (2, _), (4, _), (5, _)] z4 ?_
   refine HQ.block ?_
   obtain ⟨o76, h85, H⟩ := bnd H
   refine HQ.loop h85 0 (fun (s : (List Int) × Int) (g : Option Addr × Nat) => match s, g with | (l56, i59), (a57, c58) => [(1, BP b1 0), (2, .slice none 0 0), (4, vS a57 l56 c58), (5, vI i59)]) (fun (s : (List Int) × Int) (g : Option Addr × Nat) => match s, g with | (l56, i59), (a57, c58) => [(1, Box b1 [.bool p0.Leaf, vS a_0 p0.L c_0]), (8, OwnS kU8 a57 c58 l56)]) (fun _ _ _ => False) (a46, c47) z4 z2 rfl ?_ ?_ ?_
   ·clear H h85
    rintro ⟨l56, i59⟩ ⟨a57, c58⟩ o H
    rw [spec_PutNode_b1] at H
    refine HQ.keep [(1, _), (2, _), (4, _), (5, _)] z4 ?_
    refine HQ.keepR [(1, _), (8, _)] z2 rfl ?_
    refine HQ.seq ?_
    refine HQ.rseq ?_
    refine pu Pu.move z1 z3 ?_
    refine pu (Pu.fieldB fo47_1 rfl) z1 z3 ?_
    refine op [1] [1] (OT.loadB sc45 rfl) z1 z1 z4 (fun _ => rfl) fun _ => ?_
    refine pu (Pu.len ul45) z1 z3 ?_
    refine pu Pu.lss z2 z3 ?_
    refine HQ.done ?_
    refine HQ.keep [(1, _), (2, _), (4, _), (5, _), (24, _)] z5 ?_
    rcases brk H with ⟨hc, H⟩ | ⟨hc, H⟩
    ·refine HQ.condT rfl hc ?_
     clear hc
     refine HQ.skipThen ?_
     refine HQ.seq ?_
     refine HQ.block ?_
     refine HQ.regionQ ?_
     refine pu Pu.move z1 z3 ?_
     refine pu (Pu.fieldB fo47_1 rfl) z1 z3 ?_
     refine op [1] [1] (OT.loadB sc45 rfl) z1 z1 z4 (fun _ => rfl) fun _ => ?_
     refine pu Pu.move z1 z3 ?_
     obtain ⟨h68, H⟩ := asr H
     refine op [] [] (OT.indexB ul45 sz134 hb_0 h68) z2 trivial z4 (fun _ => rfl) fun _ => ?_
     refine op [] [] (OT.loadFA (vs := [vI ((gt p0.L i59).N), vI ((gt p0.L i59).R.X0), vI ((gt p0.L i59).R.Y0), vI ((gt p0.L i59).R.X1), vI ((gt p0.L i59).R.Y1)]) ag134 sz134 hb_0 h68 rfl rfl) z1 trivial z4 (fun _ => rfl) fun _ => ?_
     obtain ⟨t69, h70, H⟩ := bnd H
     refine op [] [11] (OT.call (us := [_]) (Pre := []) [.tmp 32] Try.call130 rfl rfl fun w F hs hF hp => spec_PutEntry_c h70) z2 trivial z4 (fun _ => rfl) fun ⟨a71, c72⟩ => ?_
     obtain ⟨h75, H⟩ := asr H
     refine op [8, 11] [8, 11] (OT.appendG (enc := (encI .u8)) (hl := fun _ => ⟨rfl, rfl⟩) sl22 ul22 h75) z2 z2 z4 (fun _ => rfl) fun ⟨a73, c74⟩ => ?_
     refine pu Pu.assign z1 z3 ?_
     refine HQ.done ?_
     refine HQ.keep [(1, _), (2, _), (4, _), (5, _)] z4 ?_
     refine HQ.blkN ?_
     refine HQ.thenN ?_
     refine HQ.regionQ ?_
     refine pu Pu.move z1 z3 ?_
     refine pu Pu.add z2 z3 ?_
     refine pu Pu.assign z1 z3 ?_
     refine HQ.done ?_
     refine HQ.keep [(1, _), (2, _), (4, _), (5, _)] z4 ?_
     obtain rfl := Option.some.inj H
     exact HQ.next (a73, c74) z4 z2 rfl
    ·refine HQ.condF rfl hc ?_
     clear hc
     refine HQ.exit ?_
     refine HQ.thenE ?_
     obtain rfl := Option.some.inj H
     exact HQ.out (a57, c58) z4 z2 rfl
   ·rintro ⟨l77, i80⟩ rfl ⟨a78, c79⟩
    clear h85
    replace H := H
    refine HQ.keep [(1, _), (2, _), (4, _), (5, _)] z4 ?_
    refine HQ.keepR [(1, _), (8, _)] z2 rfl ?_
    refine HQ.blkE ?_
    refine HQ.thenN ?_
    refine HQ.rseq ?_
    refine pu Pu.move z1 z3 ?_
    obtain ⟨t81, h82, H⟩ := bnd H
    refine op [8] [12, 8] (OT.call (us := [_, _]) (Pre := [OwnS kU8 a78 c79 l77]) [.tmp 35, .const (vI 25)] Try.call92 rfl rfl fun w F hs hF hp => spec_Pad_c (hs.lend hF 0 rfl) h82) z3 z1 z4 (fun _ => rfl) fun ⟨a83, c84⟩ => ?_
    refine pu Pu.assign z1 z3 ?_
    refine HQ.done ?_
    refine HQ.keep [(2, _)] z1 ?_
    refine HQ.ret ?_
    obtain rfl := Option.some.inj H
    exact HQ.fin (vs := [_]) Try.results107 (a83, c84) z1 rfl [12] z1 rfl
   ·exact fun r h a w hf => hf.elim

theorem spec_PutCell_c {w : World} {k : Nat} {p0 : Int} {p1 : TChange} {a_0 : Option Addr} {c_0 : Nat} (hb_0 : BorS kTEntry a_0 c_0 p1.N.L w.heap (Lt w Nil)) {r : (List Int)} (H : spec_PutCell k p0 p1 = some r) :
  Calls Try.prog 33 #[vI p0, .agg #[vI p1.Page, .bool p1.N.Leaf, vS a_0 p1.N.L c_0]] w (Rt w Nil (fun g : Option Addr × Nat => vS g.1 r g.2) (fun g => [OwnS kU8 g.1 g.2 r])) := by
 rw [spec_PutCell] at H
 refine Calls.enter0 (N := 33) (us := [_, _]) Try.func33 rfl rfl rfl ?_
 refine HQ.rseq ?_
 refine op [] [1] (OT.box (cs := [vI p1.Page, .bool p1.N.Leaf, vS a_0 p1.N.L c_0]) rfl) z1 trivial z4 (fun _ => rfl) fun b1 => ?_
 refine pu Pu.assign z1 z3 ?_
 refine HQ.done ?_
 refine HQ.keep [(0, _), (3, _), (4, _)] z3 ?_
 refine HQ.seq ?_
 refine HQ.rseq ?_
 refine pu Pu.move z1 z3 ?_
 obtain ⟨t2, h3, H⟩ := bnd H
 refine op [] [] (OT.call (us := [_, _, _]) (Pre := []) [.tmp 5, .const (vI 0), .const (vI 65535)] Try.call89 rfl rfl fun w F hs hF hp => spec_l1In_c h3) z4 trivial z4 (fun _ => rfl) fun _ => ?_
 refine pu Pu.not z1 z3 ?_
 refine pu Pu.move z1 z3 ?_
 obtain ⟨c7, h8, H⟩ := bnd H
 refine HQ.cutAt 5 [(13, .bool c7), (0, vI p0), (3, BP b1 0), (4, .slice none 0 0)] [(1, Box b1 [vI p1.Page, .bool p1.N.Leaf, vS a_0 p1.N.L c_0])] ?_ ?_
 ·clear H
  have H := h8
  rcases brk H with ⟨hg4, H⟩ | ⟨hg4, H⟩
  ·obtain rfl := Option.some.inj H
   refine HQ.off rfl rfl hg4 rfl ?_
   refine HQ.off rfl rfl hg4 rfl ?_
   refine HQ.off rfl rfl hg4 rfl ?_
   refine HQ.off rfl rfl hg4 rfl ?_
   refine pu (Pu.pickC1 hg4) z2 z3 ?_
   exact HQ.mid z4 z1 rfl
  ·refine HQ.on rfl rfl hg4 ?_
   refine pu (Pu.fieldB fo49_0 rfl) z1 z3 ?_
   refine HQ.on rfl rfl hg4 ?_
   refine op [1] [1] (OT.loadB sc3 rfl) z1 z1 z4 (fun _ => rfl) fun _ => ?_
   refine HQ.on rfl rfl hg4 ?_
   obtain ⟨t5, h6, H⟩ := bnd H
   refine op [] [] (OT.call (us := [_, _, _]) (Pre := []) [.tmp 10, .const (vI 0), .const (vI 47)] Try.call89 rfl rfl fun w F hs hF hp => spec_l1In_c h6) z4 trivial z4 (fun _ => rfl) fun _ => ?_
   refine HQ.on rfl rfl hg4 ?_
   refine pu Pu.not z1 z3 ?_
   obtain rfl := Option.some.inj H
   refine pu (Pu.pickC0 hg4) z2 z3 ?_
   exact HQ.mid z4 z1 rfl
 refine pu Pu.move z1 z3 ?_
 obtain ⟨c12, h13, H⟩ := bnd H
 refine HQ.cutAt 5 [(19, .bool c12), (0, vI p0), (3, BP b1 0), (4, .slice none 0 0)] [(1, Box b1 [vI p1.Page, .bool p1.N.Leaf, vS a_0 p1.N.L c_0])] ?_ ?_
 ·clear H
  have H := h13
  rcases brk H with ⟨hg9, H⟩ | ⟨hg9, H⟩
  ·obtain rfl := Option.some.inj H
   refine HQ.off rfl rfl hg9 rfl ?_
   refine HQ.off rfl rfl hg9 rfl ?_
   refine HQ.off rfl rfl hg9 rfl ?_
   refine HQ.off rfl rfl hg9 rfl ?_
   refine pu (Pu.pickC1 hg9) z2 z3 ?_
   exact HQ.mid z4 z1 rfl
  ·refine HQ.on rfl rfl hg9 ?_
   refine pu (Pu.fieldB fo49_1 rfl) z1 z3 ?_
   refine HQ.on rfl rfl hg9 ?_
   refine op [1] [1] (OT.loadBA (vs := [.bool p1.N.Leaf, vS a_0 p1.N.L c_0]) ag47 sz47 rfl rfl) z1 z1 z4 (fun _ => rfl) fun _ => ?_
   refine HQ.on rfl rfl hg9 ?_
   obtain ⟨t10, h11, H⟩ := bnd H
   refine op [] [] (OT.call (us := [_]) (Pre := []) [.tmp 16] Try.call105 rfl rfl fun w F hs hF hp => spec_NodeOk_c (hb_0.pass hp) h11) z2 trivial z4 (fun _ => rfl) fun _ => ?_
   refine HQ.on rfl rfl hg9 ?_
   refine pu Pu.not z1 z3 ?_
   obtain rfl := Option.some.inj H
   refine pu (Pu.pickC0 hg9) z2 z3 ?_
   exact HQ.mid z4 z1 rfl
 refine HQ.done ?_
 refine HQ.keep [(19, _), (0, _), (3, _), (4, _)] z4 ?_
 rcases brk H with ⟨hc, H⟩ | ⟨hc, H⟩
 ·refine HQ.condT rfl hc ?_
  clear hc
  refine HQ.rseq ?_
  refine op [] [2] (OT.buildF (us := []) (ys := ([] : (List Int))) (enc := (encI .u8)) (hl := fun _ => ⟨rfl, rfl⟩) [] sl22.ul sl22.szE sl22.zc rfl rfl rfl rfl rfl) trivial trivial z4 (fun _ => rfl) fun ⟨a14, c15⟩ => ?_
  refine pu Pu.assign z1 z3 ?_
  refine HQ.done ?_
  refine HQ.keep [(0, _), (3, _), (4, _)] z3 ?_
  refine HQ.ret ?_
  refine HQ.thenR ?_
  obtain rfl := Option.some.inj H
  exact HQ.fin (vs := [_]) Try.results33 (a14, c15) z1 rfl [2] z1 rfl
 ·refine HQ.condF rfl hc ?_
  clear hc
  refine HQ.skipThen ?_
  obtain ⟨t19, h20, H⟩ := bnd H
  obtain ⟨h27, H⟩ := asr H
  refine HQ.drawS mixd [(0, vI p0), (3, BP b1 0), (4, .slice none 0 0)] 10 [⟨[], [0], []⟩, ⟨[], [], []⟩, ⟨[0], [1, 0], [0, 1]⟩, ⟨[], [], []⟩, ⟨[2], [2], [3]⟩, ⟨[], [], [4]⟩, ⟨[], [3], [5]⟩, ⟨[1, 3], [4, 3], [2, 6]⟩, ⟨[], [], []⟩, ⟨[2], [2], [8]⟩] [⟨some 0, none⟩, ⟨some 2, some 7⟩, ⟨none, none⟩, ⟨some 6, none⟩, ⟨some 7, none⟩] (fun (g16 : (Option Addr × Nat) × (Option Addr × Nat) × (Option Addr × Nat) × (Option Addr × Nat)) => [vS g16.1.1 ([1] : (List Int)) g16.1.2, vI p0, vS g16.2.1.1 t19 g16.2.1.2, BP b1 0, vI p1.Page, .int .u8 (IntKind.u8.wrap p1.Page), vS g16.2.2.1.1 ([(IntKind.u8.wrap p1.Page)] : (List Int)) g16.2.2.1.2, vS g16.2.2.2.1 (t19 ++ ([(IntKind.u8.wrap p1.Page)] : (List Int))) g16.2.2.2.2, BP b1 1, .agg #[.bool p1.N.Leaf, vS a_0 p1.N.L c_0]]) (fun (g16 : (Option Addr × Nat) × (Option Addr × Nat) × (Option Addr × Nat) × (Option Addr × Nat)) => [OwnS kU8 g16.1.1 g16.1.2 ([1] : (List Int)), OwnS kU8 g16.2.1.1 g16.2.1.2 t19, Box b1 [vI p1.Page, .bool p1.N.Leaf, vS a_0 p1.N.L c_0], OwnS kU8 g16.2.2.1.1 g16.2.2.1.2 ([(IntKind.u8.wrap p1.Page)] : (List Int)), OwnS kU8 g16.2.2.2.1 g16.2.2.2.2 (t19 ++ ([(IntKind.u8.wrap p1.Page)] : (List Int)))]) ((none, 0), (none, 0), (none, 0), (none, 0)) [1] [3, 1, 5, 4] [] z3 z1 rfl (by kernel_rfl) (fun _ => rfl) (by kernel_rfl) (fun _ => rfl) ⟨?_, ?_, ?_, ?_, ?_, ?_, ?_, ?_, ?_, ?_, trivial⟩ fun g16 => ?_
  ·exact OpOK.of (fun g16 => [(.const (.int .u8 1), .int .u8 1)]) _ _ (fun g16 x => (x, g16.2.1, g16.2.2.1, g16.2.2.2)) rfl rfl (fun _ => z1) (fun g16 => OT.buildF (us := [.int .u8 1]) (ys := ([1] : (List Int))) (enc := (encI .u8)) (hl := fun _ => ⟨rfl, rfl⟩) [.const (.int .u8 1)] sl22.ul sl22.szE sl22.zc rfl rfl rfl rfl rfl) (fun _ _ => z7)
  ·exact OpOK.pu (fun g16 => [(.tmp 0, vI p0)]) z2 (fun _ => z1) (fun _ => Pu.move) (fun _ => z1) (fun _ _ => z7)
  ·exact OpOK.of (fun g16 => [(.func 106, .func (.func 106) #[] #[]), (.tmp 21, vS g16.1.1 ([1] : (List Int)) g16.1.2), (.tmp 22, vI p0)]) _ _ (fun g16 x => (g16.1, x, g16.2.2.1, g16.2.2.2)) rfl rfl (fun _ => z3) (fun g16 => OT.call (us := [_, _]) (Pre := [OwnS kU8 g16.1.1 g16.1.2 ([1] : (List Int))]) [.tmp 21, .tmp 22] Try.call106 rfl rfl fun w F hs hF hp => spec_Put2_c (hs.lend hF 0 rfl) h20) (fun _ _ => z7)
  ·exact OpOK.pu (fun g16 => [(.tmp 3, BP b1 0)]) z2 (fun _ => z1) (fun _ => (Pu.fieldB fo49_0 rfl)) (fun _ => z1) (fun _ _ => z7)
  ·exact OpOK.of (fun g16 => [(.tmp 24, BP b1 0)]) _ _ (fun g16 _ => g16) rfl rfl (fun _ => z1) (fun g16 => OT.loadB sc3 rfl) (fun _ _ => z7)
  ·exact OpOK.pu (fun g16 => [(.tmp 25, vI p1.Page)]) z2 (fun _ => z1) (fun _ => (Pu.conv ul3 ul5)) (fun _ => z1) (fun _ _ => z7)
  ·exact OpOK.of (fun g16 => [(.tmp 26, .int .u8 (IntKind.u8.wrap p1.Page))]) _ _ (fun g16 x => (g16.1, g16.2.1, x, g16.2.2.2)) rfl rfl (fun _ => z1) (fun g16 => OT.buildF (us := [.int .u8 (IntKind.u8.wrap p1.Page)]) (ys := ([(IntKind.u8.wrap p1.Page)] : (List Int))) (enc := (encI .u8)) (hl := fun _ => ⟨rfl, rfl⟩) [.tmp 26] sl22.ul sl22.szE sl22.zc rfl rfl rfl rfl rfl) (fun _ _ => z7)
  ·exact OpOK.of (fun g16 => [(.tmp 23, vS g16.2.1.1 t19 g16.2.1.2), (.tmp 27, vS g16.2.2.1.1 ([(IntKind.u8.wrap p1.Page)] : (List Int)) g16.2.2.1.2)]) _ _ (fun g16 x => (g16.1, g16.2.1, g16.2.2.1, x)) rfl rfl (fun _ => z2) (fun g16 => OT.appendG (enc := (encI .u8)) (hl := fun _ => ⟨rfl, rfl⟩) sl22 ul22 h27) (fun _ _ => z7)
  ·exact OpOK.pu (fun g16 => [(.tmp 3, BP b1 0)]) z2 (fun _ => z1) (fun _ => (Pu.fieldB fo49_1 rfl)) (fun _ => z1) (fun _ _ => z7)
  ·exact OpOK.of (fun g16 => [(.tmp 29, BP b1 1)]) _ _ (fun g16 _ => g16) rfl rfl (fun _ => z1) (fun g16 => OT.loadBA (vs := [.bool p1.N.Leaf, vS a_0 p1.N.L c_0]) ag47 sz47 rfl rfl) (fun _ _ => z7)
  refine HQ.keep [(4, _), (28, _), (30, _)] z3 ?_
  refine HQ.keepR [(1, _), (3, _), (5, _), (4, _)] z4 rfl ?_
  obtain ⟨t28, h29, H⟩ := bnd H
  refine op [] [6] (OT.call (us := [_]) (Pre := []) [.tmp 30] Try.call107 rfl rfl fun w F hs hF hp => spec_PutNode_c (hb_0.pass hp) h29) z2 trivial z4 (fun _ => rfl) fun ⟨a30, c31⟩ => ?_
  obtain ⟨h34, H⟩ := asr H
  refine op [4, 6] [4, 6] (OT.appendG (enc := (encI .u8)) (hl := fun _ => ⟨rfl, rfl⟩) sl22 ul22 h34) z2 z2 z4 (fun _ => rfl) fun ⟨a32, c33⟩ => ?_
  refine pu Pu.assign z1 z3 ?_
  refine HQ.done ?_
  refine HQ.keep [(4, _)] z1 ?_
  refine HQ.ret ?_
  obtain rfl := Option.some.inj H
  exact HQ.fin (vs := [_]) Try.results33 (a32, c33) z1 rfl [4] z1 rfl

end Go.Proofs.Sx
