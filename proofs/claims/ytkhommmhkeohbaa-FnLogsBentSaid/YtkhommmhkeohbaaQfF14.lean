import Derived.Test.YtkhommmhkeohbaaQfF13
import Derived.KernelRfl
namespace Go.Proofs.Sx
open Go.RowKit
set_option linter.unusedVariables false
set_option linter.unusedSimpArgs false
set_option maxRecDepth 20000
set_option maxHeartbeats 1000000
theorem laws_sameDisk_c {w : World} {k : Nat} {p0 : TDisk} {p1 : TDisk} {a_0 : Option Addr} {c_0 : Nat} {a_1 : Option Addr} {c_1 : Nat} {a_2 : Option Addr} {c_2 : Nat} {a_3 : Option Addr} {c_3 : Nat} (hb_0 : BorS kTCell a_0 c_0 p0.Cells w.heap (Lt w Nil)) (hb_1 : BorS kTWet a_1 c_1 p0.Wet w.heap (Lt w Nil)) (hb_2 : BorS kTCell a_2 c_2 p1.Cells w.heap (Lt w Nil)) (hb_3 : BorS kTWet a_3 c_3 p1.Wet w.heap (Lt w Nil)) {r : Bool} (H : laws_sameDisk k p0 p1 = some r) :
  Calls Try.prog 19 #[.agg #[vS a_0 p0.Cells c_0, vS a_1 p0.Wet c_1, vI p0.Fuse, .bool p0.Dead], .agg #[vS a_2 p1.Cells c_2, vS a_3 p1.Wet c_3, vI p1.Fuse, .bool p1.Dead]] w (Rt w Nil (fun _ : Unit => .bool r) (fun _ => [])) := by
 rw [laws_sameDisk] at H
 refine Calls.enter0 (N := 109) (us := [_, _]) Try.func19 rfl rfl rfl ?_
 refine HQ.rseq ?_
 refine op [] [1] (OT.box (cs := [vS a_0 p0.Cells c_0, vS a_1 p0.Wet c_1, vI p0.Fuse, .bool p0.Dead]) rfl) z1 trivial z4 (fun _ => rfl) fun b1 => ?_
 refine op [] [2] (OT.box (cs := [vS a_2 p1.Cells c_2, vS a_3 p1.Wet c_3, vI p1.Fuse, .bool p1.Dead]) rfl) z1 trivial z4 (fun _ => rfl) fun b2 => ?_
 refine pu Pu.assign z1 z3 ?_
 refine HQ.done ?_
 refine HQ.keep [(2, _), (3, _), (4, _)] z3 ?_
 refine HQ.seq ?_
 refine HQ.rseq ?_
 refine pu (Pu.fieldB fo27_0 rfl) z1 z3 ?_
 refine op [1] [1] (OT.loadB sc24 rfl) z1 z1 z4 (fun _ => rfl) fun _ => ?_
 refine pu (Pu.len ul24) z1 z3 ?_
 refine pu (Pu.fieldB fo27_0 rfl) z1 z3 ?_
 refine op [2] [2] (OT.loadB sc24 rfl) z1 z1 z4 (fun _ => rfl) fun _ => ?_
 refine pu (Pu.len ul24) z1 z3 ?_
 refine pu Pu.neq z2 z3 ?_
 refine pu Pu.move z1 z3 ?_
 refine HQ.cutAt 8 [(22, .bool ((!decide (((List.length p0.Cells : Nat) : Int) = ((List.length p1.Cells : Nat) : Int))) || (!decide (((List.length p0.Wet : Nat) : Int) = ((List.length p1.Wet : Nat) : Int))))), (2, BP b1 0), (3, BP b2 0), (4, .bool false)] [(1, Box b1 [vS a_0 p0.Cells c_0, vS a_1 p0.Wet c_1, vI p0.Fuse, .bool p0.Dead]), (2, Box b2 [vS a_2 p1.Cells c_2, vS a_3 p1.Wet c_3, vI p1.Fuse, .bool p1.Dead])] ?_ ?_
 ·rcases Bool.eq_false_or_eq_true (!decide (((List.length p0.Cells : Nat) : Int) = ((List.length p1.Cells : Nat) : Int))) with hg3 | hg3
  ·refine HQ.off rfl rfl hg3 rfl ?_
   refine HQ.off rfl rfl hg3 rfl ?_
   refine HQ.off rfl rfl hg3 rfl ?_
   refine HQ.off rfl rfl hg3 rfl ?_
   refine HQ.off rfl rfl hg3 rfl ?_
   refine HQ.off rfl rfl hg3 rfl ?_
   refine HQ.off rfl rfl hg3 rfl ?_
   refine pu (Pu.pickOT (u := (!decide (((List.length p0.Wet : Nat) : Int) = ((List.length p1.Wet : Nat) : Int)))) hg3) z2 z3 ?_
   exact HQ.mid z4 z2 rfl
  ·refine HQ.on rfl rfl hg3 ?_
   refine pu (Pu.fieldB fo27_1 rfl) z1 z3 ?_
   refine HQ.on rfl rfl hg3 ?_
   refine op [1] [1] (OT.loadB sc25 rfl) z1 z1 z4 (fun _ => rfl) fun _ => ?_
   refine HQ.on rfl rfl hg3 ?_
   refine pu (Pu.len ul25) z1 z3 ?_
   refine HQ.on rfl rfl hg3 ?_
   refine pu (Pu.fieldB fo27_1 rfl) z1 z3 ?_
   refine HQ.on rfl rfl hg3 ?_
   refine op [2] [2] (OT.loadB sc25 rfl) z1 z1 z4 (fun _ => rfl) fun _ => ?_
   refine HQ.on rfl rfl hg3 ?_
   refine pu (Pu.len ul25) z1 z3 ?_
   refine HQ.on rfl rfl hg3 ?_
   refine pu Pu.neq z2 z3 ?_
   refine pu (Pu.pickOF hg3) z2 z3 ?_
   exact HQ.mid z4 z2 rfl
 refine pu Pu.move z1 z3 ?_
 refine HQ.cutAt 6 [(29, .bool (((!decide (((List.length p0.Cells : Nat) : Int) = ((List.length p1.Cells : Nat) : Int))) || (!decide (((List.length p0.Wet : Nat) : Int) = ((List.length p1.Wet : Nat) : Int)))) || (!decide (p0.Fuse = p1.Fuse)))), (2, BP b1 0), (3, BP b2 0), (4, .bool false)] [(1, Box b1 [vS a_0 p0.Cells c_0, vS a_1 p0.Wet c_1, vI p0.Fuse, .bool p0.Dead]), (2, Box b2 [vS a_2 p1.Cells c_2, vS a_3 p1.Wet c_3, vI p1.Fuse, .bool p1.Dead])] ?_ ?_
 ·rcases Bool.eq_false_or_eq_true ((!decide (((List.length p0.Cells : Nat) : Int) = ((List.length p1.Cells : Nat) : Int))) || (!decide (((List.length p0.Wet : Nat) : Int) = ((List.length p1.Wet : Nat) : Int)))) with hg4 | hg4
  ·refine HQ.off rfl rfl hg4 rfl ?_
   refine HQ.off rfl rfl hg4 rfl ?_
   refine HQ.off rfl rfl hg4 rfl ?_
   refine HQ.off rfl rfl hg4 rfl ?_
   refine HQ.off rfl rfl hg4 rfl ?_
   refine pu (Pu.pickOT (u := (!decide (p0.Fuse = p1.Fuse))) hg4) z2 z3 ?_
   exact HQ.mid z4 z2 rfl
  ·refine HQ.on rfl rfl hg4 ?_
   refine pu (Pu.fieldB fo27_2 rfl) z1 z3 ?_
   refine HQ.on rfl rfl hg4 ?_
   refine op [1] [1] (OT.loadB sc3 rfl) z1 z1 z4 (fun _ => rfl) fun _ => ?_
   refine HQ.on rfl rfl hg4 ?_
   refine pu (Pu.fieldB fo27_2 rfl) z1 z3 ?_
   refine HQ.on rfl rfl hg4 ?_
   refine op [2] [2] (OT.loadB sc3 rfl) z1 z1 z4 (fun _ => rfl) fun _ => ?_
   refine HQ.on rfl rfl hg4 ?_
   refine pu Pu.neq z2 z3 ?_
   refine pu (Pu.pickOF hg4) z2 z3 ?_
   exact HQ.mid z4 z2 rfl
 refine pu Pu.move z1 z3 ?_
 refine HQ.cutAt 6 [(36, .bool ((((!decide (((List.length p0.Cells : Nat) : Int) = ((List.length p1.Cells : Nat) : Int))) || (!decide (((List.length p0.Wet : Nat) : Int) = ((List.length p1.Wet : Nat) : Int)))) || (!decide (p0.Fuse = p1.Fuse))) || (!(p0.Dead == p1.Dead)))), (2, BP b1 0), (3, BP b2 0), (4, .bool false)] [(1, Box b1 [vS a_0 p0.Cells c_0, vS a_1 p0.Wet c_1, vI p0.Fuse, .bool p0.Dead]), (2, Box b2 [vS a_2 p1.Cells c_2, vS a_3 p1.Wet c_3, vI p1.Fuse, .bool p1.Dead])] ?_ ?_
 ·rcases Bool.eq_false_or_eq_true (((!decide (((List.length p0.Cells : Nat) : Int) = ((List.length p1.Cells : Nat) : Int))) || (!decide (((List.length p0.Wet : Nat) : Int) = ((List.length p1.Wet : Nat) : Int)))) || (!decide (p0.Fuse = p1.Fuse))) with hg5 | hg5
  ·refine HQ.off rfl rfl hg5 rfl ?_
   refine HQ.off rfl rfl hg5 rfl ?_
   refine HQ.off rfl rfl hg5 rfl ?_
   refine HQ.off rfl rfl hg5 rfl ?_
   refine HQ.off rfl rfl hg5 rfl ?_
   refine pu (Pu.pickOT (u := (!(p0.Dead == p1.Dead))) hg5) z2 z3 ?_
   exact HQ.mid z4 z2 rfl
  ·refine HQ.on rfl rfl hg5 ?_
   refine pu (Pu.fieldB fo27_3 rfl) z1 z3 ?_
   refine HQ.on rfl rfl hg5 ?_
   refine op [1] [1] (OT.loadB sc4 rfl) z1 z1 z4 (fun _ => rfl) fun _ => ?_
   refine HQ.on rfl rfl hg5 ?_
   refine pu (Pu.fieldB fo27_3 rfl) z1 z3 ?_
   refine HQ.on rfl rfl hg5 ?_
   refine op [2] [2] (OT.loadB sc4 rfl) z1 z1 z4 (fun _ => rfl) fun _ => ?_
   refine HQ.on rfl rfl hg5 ?_
   refine pu (Pu.neqB ul4) z2 z3 ?_
   refine pu (Pu.pickOF hg5) z2 z3 ?_
   exact HQ.mid z4 z2 rfl
 refine HQ.done ?_
 refine HQ.keep [(36, _), (2, _), (3, _), (4, _)] z4 ?_
 rcases brk H with ⟨hc, H⟩ | ⟨hc, H⟩
 ·refine HQ.condT rfl hc ?_
  clear hc
  refine HQ.rseq ?_
  refine pu Pu.assign z1 z3 ?_
  refine HQ.done ?_
  refine HQ.keep [(2, _), (3, _), (4, _)] z3 ?_
  refine HQ.ret ?_
  refine HQ.thenR ?_
  obtain rfl := Option.some.inj H
  exact HQ.fin (vs := [_]) Try.results19 () z1 rfl [] trivial rfl
 ·refine HQ.condF rfl hc ?_
  clear hc
  refine HQ.skipThen ?_
  refine HQ.seq ?_
  refine HQ.rseq ?_
  refine pu Pu.assign z1 z3 ?_
  refine HQ.done ?_
  refine HQ.keep [(2, _), (3, _), (4, _), (5, _)] z4 ?_
  refine HQ.block ?_
  obtain ⟨o91, h181, H⟩ := bnd H
  refine HQ.loop h181 0 (fun (s : Int) (g : Unit) => match s, g with | i34, () => [(2, BP b1 0), (3, BP b2 0), (4, .bool false), (5, vI i34)]) (fun (s : Int) (g : Unit) => match s, g with | i34, () => [(1, Box b1 [vS a_0 p0.Cells c_0, vS a_1 p0.Wet c_1, vI p0.Fuse, .bool p0.Dead]), (2, Box b2 [vS a_2 p1.Cells c_2, vS a_3 p1.Wet c_3, vI p1.Fuse, .bool p1.Dead])]) (fun r => bodyPost Try.prog Try.f19 (Rt w Nil (fun _ : Unit => .bool r) (fun _ => [])) .ret) () z4 z2 rfl ?_ ?_ ?_
  ·clear H h181
   rintro i34 _ o H
   rw [laws_sameDisk_b0] at H
   refine HQ.keep [(2, _), (3, _), (4, _), (5, _)] z4 ?_
   refine HQ.keepR [(1, _), (2, _)] z2 rfl ?_
   refine HQ.seq ?_
   refine HQ.rseq ?_
   refine pu Pu.move z1 z3 ?_
   refine pu (Pu.fieldB fo27_0 rfl) z1 z3 ?_
   refine op [1] [1] (OT.loadB sc24 rfl) z1 z1 z4 (fun _ => rfl) fun _ => ?_
   refine pu (Pu.len ul24) z1 z3 ?_
   refine pu Pu.lss z2 z3 ?_
   refine HQ.done ?_
   refine HQ.keep [(2, _), (3, _), (4, _), (5, _), (41, _)] z5 ?_
   rcases brk H with ⟨hc, H⟩ | ⟨hc, H⟩
   ·refine HQ.condT rfl hc ?_
    clear hc
    refine HQ.skipThen ?_
    refine HQ.seq ?_
    refine HQ.block ?_
    refine HQ.seq ?_
    refine HQ.dStart mixd ?_
    obtain ⟨h64, H⟩ := asr H
    obtain ⟨h69, H⟩ := asr H
    obtain ⟨⟨a65, c66⟩, hb67, hn68⟩ := BorS.nest hb_0 h64
    obtain ⟨⟨a70, c71⟩, hb72, hn73⟩ := BorS.nest hb_2 h69
    refine HQ.dPart [(2, BP b1 0), (3, BP b2 0), (4, .bool false), (5, vI i34)] 12 [⟨[], [], []⟩, ⟨[0], [0], [0]⟩, ⟨[], [], []⟩, ⟨[], [], [1, 2]⟩, ⟨[], [], [3]⟩, ⟨[], [], [4]⟩, ⟨[], [], []⟩, ⟨[1], [1], [6]⟩, ⟨[], [], []⟩, ⟨[], [], [7, 8]⟩, ⟨[], [], [9]⟩, ⟨[], [], [10]⟩] [⟨none, none⟩, ⟨none, none⟩] (fun (g63 : Unit) => [BP b1 0, vS a_0 p0.Cells c_0, vI i34, EP a_0 i34 2 0, EP a_0 i34 2 0, .bool ((gt p0.Cells i34).Bad), BP b2 0, vS a_2 p1.Cells c_2, vI i34, EP a_2 i34 2 0, EP a_2 i34 2 0, .bool ((gt p1.Cells i34).Bad)]) (fun (g63 : Unit) => [Box b1 [vS a_0 p0.Cells c_0, vS a_1 p0.Wet c_1, vI p0.Fuse, .bool p0.Dead], Box b2 [vS a_2 p1.Cells c_2, vS a_3 p1.Wet c_3, vI p1.Fuse, .bool p1.Dead]]) () [1, 2] [1, 2] [] z4 z2 rfl (by kernel_rfl) (by kernel_rfl) (fun _ => rfl) (by kernel_rfl) (fun _ => rfl) rfl ⟨?_, ?_, ?_, ?_, ?_, ?_, ?_, ?_, ?_, ?_, ?_, ?_, trivial⟩ fun g63 => ?_
    ·exact OpOK2.pu (fun g63 => [(.tmp 2, BP b1 0)]) z2 (fun _ => z1) (fun _ => (Pu.fieldB fo27_0 rfl)) (fun _ => z1) (fun _ _ => z4)
    ·exact OpOK2.of (fun g63 => [(.tmp 44, BP b1 0)]) _ _ (fun g63 _ => g63) rfl rfl (fun _ => z1) (fun g63 => OT.loadB sc24 rfl) (fun _ _ => z4)
    ·exact OpOK2.pu (fun g63 => [(.tmp 5, vI i34)]) z2 (fun _ => z1) (fun _ => Pu.move) (fun _ => z1) (fun _ _ => z4)
    ·exact OpOK2.of (fun g63 => [(.tmp 45, vS a_0 p0.Cells c_0), (.tmp 46, vI i34)]) _ _ (fun g63 _ => g63) rfl rfl (fun _ => z2) (fun g63 => OT.indexB ul24 sz113 hb_0 h64) (fun _ _ => z4)
    ·exact OpOK2.pu (fun g63 => [(.tmp 47, EP a_0 i34 2 0)]) z2 (fun _ => z1) (fun _ => (Pu.fieldE fo113_0 rfl)) (fun _ => z1) (fun _ _ => z4)
    ·exact OpOK2.of (fun g63 => [(.tmp 48, EP a_0 i34 2 0)]) _ _ (fun g63 _ => g63) rfl rfl (fun _ => z1) (fun g63 => OT.loadN (v := .bool ((gt p0.Cells i34).Bad)) sc4 hn68 hlTCell rfl) (fun _ _ => z4)
    ·exact OpOK2.pu (fun g63 => [(.tmp 3, BP b2 0)]) z2 (fun _ => z1) (fun _ => (Pu.fieldB fo27_0 rfl)) (fun _ => z1) (fun _ _ => z4)
    ·exact OpOK2.of (fun g63 => [(.tmp 50, BP b2 0)]) _ _ (fun g63 _ => g63) rfl rfl (fun _ => z1) (fun g63 => OT.loadB sc24 rfl) (fun _ _ => z4)
    ·exact OpOK2.pu (fun g63 => [(.tmp 5, vI i34)]) z2 (fun _ => z1) (fun _ => Pu.move) (fun _ => z1) (fun _ _ => z4)
    ·exact OpOK2.of (fun g63 => [(.tmp 51, vS a_2 p1.Cells c_2), (.tmp 52, vI i34)]) _ _ (fun g63 _ => g63) rfl rfl (fun _ => z2) (fun g63 => OT.indexB ul24 sz113 hb_2 h69) (fun _ _ => z4)
    ·exact OpOK2.pu (fun g63 => [(.tmp 53, EP a_2 i34 2 0)]) z2 (fun _ => z1) (fun _ => (Pu.fieldE fo113_0 rfl)) (fun _ => z1) (fun _ _ => z4)
    ·exact OpOK2.of (fun g63 => [(.tmp 54, EP a_2 i34 2 0)]) _ _ (fun g63 _ => g63) rfl rfl (fun _ => z1) (fun g63 => OT.loadN (v := .bool ((gt p1.Cells i34).Bad)) sc4 hn73 hlTCell rfl) (fun _ _ => z4)
    refine HQ.keep [(2, _), (3, _), (4, _), (5, _), (49, _), (55, _)] z6 ?_
    refine HQ.keepR [(1, _), (2, _)] z2 rfl ?_
    refine HQ.dRun 2 rfl rfl (by kernel_rfl) (by kernel_rfl) ?_
    refine pu (Pu.neqB ul4) z2 z3 ?_
    refine pu Pu.move z1 z3 ?_
    refine HQ.done ?_
    obtain ⟨c89, h90, H⟩ := bnd H
    refine HQ.dMid (m' := 29) [(72, .bool c89), (2, BP b1 0), (3, BP b2 0), (4, .bool false), (5, vI i34)] [(1, Box b1 [vS a_0 p0.Cells c_0, vS a_1 p0.Wet c_1, vI p0.Fuse, .bool p0.Dead]), (2, Box b2 [vS a_2 p1.Cells c_2, vS a_3 p1.Wet c_3, vI p1.Fuse, .bool p1.Dead])] (fun hmid => ?_) ?_
    ·clear H
     have H := h90
     rcases brk H with ⟨hg74, H⟩ | ⟨hg74, H⟩
     ·obtain rfl := Option.some.inj H
      refine HQ.dPart [(2, BP b1 0), (3, BP b2 0), (4, .bool false), (5, vI i34), (57, .bool (!(((gt p0.Cells i34).Bad) == ((gt p1.Cells i34).Bad))))] 26 [⟨[], [], []⟩, ⟨[], [], []⟩, ⟨[], [], []⟩, ⟨[], [], []⟩, ⟨[], [], []⟩, ⟨[], [], []⟩, ⟨[], [], []⟩, ⟨[], [], []⟩, ⟨[], [], []⟩, ⟨[], [], []⟩, ⟨[], [], []⟩, ⟨[], [], []⟩, ⟨[], [], []⟩, ⟨[], [], []⟩, ⟨[], [], []⟩, ⟨[], [], []⟩, ⟨[], [], []⟩, ⟨[], [], []⟩, ⟨[], [], []⟩, ⟨[], [], []⟩, ⟨[], [], []⟩, ⟨[], [], []⟩, ⟨[], [], []⟩, ⟨[], [], []⟩, ⟨[], [], []⟩, ⟨[], [], []⟩] [] (fun (g88 : Unit) => [undef, undef, undef, undef, undef, undef, undef, undef, undef, undef, undef, undef, undef, undef, undef, undef, undef, undef, undef, undef, undef, undef, undef, undef, undef, undef]) (fun (g88 : Unit) => []) () [] [] [] z5 trivial rfl (by kernel_rfl) (by kernel_rfl) (fun _ => rfl) (by kernel_rfl) (fun _ => rfl) rfl ⟨?_, ?_, ?_, ?_, ?_, ?_, ?_, ?_, ?_, ?_, ?_, ?_, trivial⟩ fun g88 => ?_
      ·exact OpOK2.off rfl rfl rfl hg74 rfl rfl (fun _ => z1)
      ·exact OpOK2.off rfl rfl rfl hg74 rfl rfl (fun _ => z1)
      ·exact OpOK2.off rfl rfl rfl hg74 rfl rfl (fun _ => z1)
      ·exact OpOK2.off rfl rfl rfl hg74 rfl rfl (fun _ => z1)
      ·exact OpOK2.off rfl rfl rfl hg74 rfl rfl (fun _ => z1)
      ·exact OpOK2.off rfl rfl rfl hg74 rfl rfl (fun _ => z1)
      ·exact OpOK2.off rfl rfl rfl hg74 rfl rfl (fun _ => z1)
      ·exact OpOK2.off rfl rfl rfl hg74 rfl rfl (fun _ => z1)
      ·exact OpOK2.off rfl rfl rfl hg74 rfl rfl (fun _ => z1)
      ·exact OpOK2.off rfl rfl rfl hg74 rfl rfl (fun _ => z1)
      ·exact OpOK2.off rfl rfl rfl hg74 rfl rfl (fun _ => z1)
      ·exact OpOK2.off rfl rfl rfl hg74 rfl rfl (fun _ => z1)
      refine HQ.keep [(2, _), (3, _), (4, _), (5, _), (57, _), (58, _), (59, _), (60, _), (61, _), (62, _), (63, _), (64, _), (65, _), (66, _), (67, _), (68, _), (69, _)] z17 ?_
      refine HQ.keepR [(1, _), (2, _)] z2 rfl ?_
      refine HQ.dRun 2 rfl rfl (by kernel_rfl) (by kernel_rfl) ?_
      refine HQ.off rfl rfl hg74 rfl ?_
      refine HQ.off rfl rfl hg74 rfl ?_
      refine HQ.done ?_
      refine HQ.dRun 1 rfl rfl (by kernel_rfl) (by kernel_rfl) ?_
      refine pu (Pu.pickC1 hg74) z2 z3 ?_
      refine HQ.done ?_
      exact HQ.dUse hmid z5 z2 rfl
     ·obtain ⟨h76, H⟩ := asr H
      obtain ⟨h81, H⟩ := asr H
      obtain ⟨⟨a77, c78⟩, hb79, hn80⟩ := BorS.nest hb_0 h76
      obtain ⟨⟨a82, c83⟩, hb84, hn85⟩ := BorS.nest hb_2 h81
      refine HQ.dPart [(2, BP b1 0), (3, BP b2 0), (4, .bool false), (5, vI i34), (57, .bool (!(((gt p0.Cells i34).Bad) == ((gt p1.Cells i34).Bad))))] 26 [⟨[], [], []⟩, ⟨[], [], []⟩, ⟨[], [], []⟩, ⟨[], [], []⟩, ⟨[], [], []⟩, ⟨[], [], []⟩, ⟨[], [], []⟩, ⟨[], [], []⟩, ⟨[], [], []⟩, ⟨[], [], []⟩, ⟨[], [], []⟩, ⟨[], [], []⟩, ⟨[], [], []⟩, ⟨[], [], []⟩, ⟨[], [], []⟩, ⟨[0], [0], [14]⟩, ⟨[], [], []⟩, ⟨[], [], [15, 16]⟩, ⟨[], [], [17]⟩, ⟨[], [], [18]⟩, ⟨[], [], []⟩, ⟨[1], [1], [20]⟩, ⟨[], [], []⟩, ⟨[], [], [21, 22]⟩, ⟨[], [], [23]⟩, ⟨[], [], [24]⟩] [⟨none, none⟩, ⟨none, none⟩] (fun (g75 : Unit) => [undef, undef, undef, undef, undef, undef, undef, undef, undef, undef, undef, undef, undef, undef, BP b1 0, vS a_0 p0.Cells c_0, vI i34, EP a_0 i34 2 0, EP a_0 i34 2 1, vS a77 ((gt p0.Cells i34).B) c78, BP b2 0, vS a_2 p1.Cells c_2, vI i34, EP a_2 i34 2 0, EP a_2 i34 2 1, vS a82 ((gt p1.Cells i34).B) c83]) (fun (g75 : Unit) => [Box b1 [vS a_0 p0.Cells c_0, vS a_1 p0.Wet c_1, vI p0.Fuse, .bool p0.Dead], Box b2 [vS a_2 p1.Cells c_2, vS a_3 p1.Wet c_3, vI p1.Fuse, .bool p1.Dead]]) () [1, 2] [1, 2] [] z5 z2 rfl (by kernel_rfl) (by kernel_rfl) (fun _ => rfl) (by kernel_rfl) (fun _ => rfl) rfl ⟨?_, ?_, ?_, ?_, ?_, ?_, ?_, ?_, ?_, ?_, ?_, ?_, trivial⟩ fun g75 => ?_
      ·exact OpOK2.on (fun g75 => [(.tmp 2, BP b1 0)]) _ _ (fun g75 _ => g75) rfl rfl rfl hg74 (fun _ => z1) (fun g75 => Pu.toOT (Pu.fieldB fo27_0 rfl)) (fun _ _ => z4)
      ·exact OpOK2.on (fun g75 => [(.tmp 58, BP b1 0)]) _ _ (fun g75 _ => g75) rfl rfl rfl hg74 (fun _ => z1) (fun g75 => OT.loadB sc24 rfl) (fun _ _ => z4)
      ·exact OpOK2.on (fun g75 => [(.tmp 5, vI i34)]) _ _ (fun g75 _ => g75) rfl rfl rfl hg74 (fun _ => z1) (fun g75 => Pu.toOT Pu.move) (fun _ _ => z4)
      ·exact OpOK2.on (fun g75 => [(.tmp 59, vS a_0 p0.Cells c_0), (.tmp 60, vI i34)]) _ _ (fun g75 _ => g75) rfl rfl rfl hg74 (fun _ => z2) (fun g75 => OT.indexB ul24 sz113 hb_0 h76) (fun _ _ => z4)
      ·exact OpOK2.on (fun g75 => [(.tmp 61, EP a_0 i34 2 0)]) _ _ (fun g75 _ => g75) rfl rfl rfl hg74 (fun _ => z1) (fun g75 => Pu.toOT (Pu.fieldE fo113_1 rfl)) (fun _ _ => z4)
      ·exact OpOK2.on (fun g75 => [(.tmp 62, EP a_0 i34 2 1)]) _ _ (fun g75 _ => g75) rfl rfl rfl hg74 (fun _ => z1) (fun g75 => OT.loadN (v := vS a77 ((gt p0.Cells i34).B) c78) sc22 hn80 hlTCell rfl) (fun _ _ => z4)
      ·exact OpOK2.on (fun g75 => [(.tmp 3, BP b2 0)]) _ _ (fun g75 _ => g75) rfl rfl rfl hg74 (fun _ => z1) (fun g75 => Pu.toOT (Pu.fieldB fo27_0 rfl)) (fun _ _ => z4)
      ·exact OpOK2.on (fun g75 => [(.tmp 64, BP b2 0)]) _ _ (fun g75 _ => g75) rfl rfl rfl hg74 (fun _ => z1) (fun g75 => OT.loadB sc24 rfl) (fun _ _ => z4)
      ·exact OpOK2.on (fun g75 => [(.tmp 5, vI i34)]) _ _ (fun g75 _ => g75) rfl rfl rfl hg74 (fun _ => z1) (fun g75 => Pu.toOT Pu.move) (fun _ _ => z4)
      ·exact OpOK2.on (fun g75 => [(.tmp 65, vS a_2 p1.Cells c_2), (.tmp 66, vI i34)]) _ _ (fun g75 _ => g75) rfl rfl rfl hg74 (fun _ => z2) (fun g75 => OT.indexB ul24 sz113 hb_2 h81) (fun _ _ => z4)
      ·exact OpOK2.on (fun g75 => [(.tmp 67, EP a_2 i34 2 0)]) _ _ (fun g75 _ => g75) rfl rfl rfl hg74 (fun _ => z1) (fun g75 => Pu.toOT (Pu.fieldE fo113_1 rfl)) (fun _ _ => z4)
      ·exact OpOK2.on (fun g75 => [(.tmp 68, EP a_2 i34 2 1)]) _ _ (fun g75 _ => g75) rfl rfl rfl hg74 (fun _ => z1) (fun g75 => OT.loadN (v := vS a82 ((gt p1.Cells i34).B) c83) sc22 hn85 hlTCell rfl) (fun _ _ => z4)
      refine HQ.keep [(2, _), (3, _), (4, _), (5, _), (57, _), (58, _), (59, _), (60, _), (61, _), (62, _), (63, _), (64, _), (65, _), (66, _), (67, _), (68, _), (69, _)] z17 ?_
      refine HQ.keepR [(1, _), (2, _)] z2 rfl ?_
      refine HQ.dRun 2 rfl rfl (by kernel_rfl) (by kernel_rfl) ?_
      refine HQ.on rfl rfl hg74 ?_
      obtain ⟨t86, h87, H⟩ := bnd H
      refine op [] [] (OT.call (us := [_, _]) (Pre := []) [.tmp 63, .tmp 69] Try.call23 rfl rfl fun w F hs hF hp => laws_same_c (hb79.pass hp) (hb84.pass hp) h87) z3 trivial z4 (fun _ => rfl) fun _ => ?_
      refine HQ.on rfl rfl hg74 ?_
      refine pu Pu.not z1 z3 ?_
      refine HQ.done ?_
      obtain rfl := Option.some.inj H
      refine HQ.dRun 1 rfl rfl (by kernel_rfl) (by kernel_rfl) ?_
      refine pu (Pu.pickC0 hg74) z2 z3 ?_
      refine HQ.done ?_
      exact HQ.dUse hmid z5 z2 rfl
    refine HQ.dEnd rfl ?_
    refine HQ.thenN ?_
    refine HQ.keep [(72, _), (2, _), (3, _), (4, _), (5, _)] z5 ?_
    rcases brk H with ⟨hc, H⟩ | ⟨hc, H⟩
    ·refine HQ.condT rfl hc ?_
     clear hc
     refine HQ.rseq ?_
     refine pu Pu.assign z1 z3 ?_
     refine HQ.done ?_
     refine HQ.keep [(2, _), (3, _), (4, _), (5, _)] z4 ?_
     refine HQ.ret ?_
     refine HQ.blkR ?_
     refine HQ.thenR ?_
     obtain rfl := Option.some.inj H
     refine HQ.retL ?_
     exact HQ.fin (vs := [_]) Try.results19 () z1 rfl [] trivial rfl
    ·refine HQ.condF rfl hc ?_
     clear hc
     refine HQ.skip ?_
     refine HQ.blkN ?_
     refine HQ.thenN ?_
     refine HQ.regionQ ?_
     refine pu Pu.move z1 z3 ?_
     refine pu Pu.add z2 z3 ?_
     refine pu Pu.assign z1 z3 ?_
     refine HQ.done ?_
     refine HQ.keep [(2, _), (3, _), (4, _), (5, _)] z4 ?_
     obtain rfl := Option.some.inj H
     exact HQ.next () z4 z2 rfl
   ·refine HQ.condF rfl hc ?_
    clear hc
    refine HQ.exit ?_
    refine HQ.thenE ?_
    obtain rfl := Option.some.inj H
    exact HQ.out () z4 z2 rfl
  ·rintro i92 rfl _
   clear h181
   replace H := H
   refine HQ.keep [(2, _), (3, _), (4, _), (5, _)] z4 ?_
   refine HQ.keepR [(1, _), (2, _)] z2 rfl ?_
   refine HQ.blkE ?_
   refine HQ.thenN ?_
   refine HQ.seq ?_
   refine HQ.rseq ?_
   refine pu Pu.assign z1 z3 ?_
   refine HQ.done ?_
   refine HQ.keep [(2, _), (3, _), (4, _), (6, _)] z4 ?_
   refine HQ.block ?_
   obtain ⟨o178, h180, H⟩ := bnd H
   refine HQ.loop h180 2 (fun (s : Int) (g : Unit) => match s, g with | i121, () => [(2, BP b1 0), (3, BP b2 0), (4, .bool false), (6, vI i121)]) (fun (s : Int) (g : Unit) => match s, g with | i121, () => [(1, Box b1 [vS a_0 p0.Cells c_0, vS a_1 p0.Wet c_1, vI p0.Fuse, .bool p0.Dead]), (2, Box b2 [vS a_2 p1.Cells c_2, vS a_3 p1.Wet c_3, vI p1.Fuse, .bool p1.Dead])]) (fun r => bodyPost Try.prog Try.f19 (Rt w Nil (fun _ : Unit => .bool r) (fun _ => [])) .ret) () z4 z2 rfl ?_ ?_ ?_
   ·clear H h180
    rintro i121 _ o H
    rw [laws_sameDisk_b1] at H
    refine HQ.keep [(2, _), (3, _), (4, _), (6, _)] z4 ?_
    refine HQ.keepR [(1, _), (2, _)] z2 rfl ?_
    refine HQ.seq ?_
    refine HQ.rseq ?_
    refine pu Pu.move z1 z3 ?_
    refine pu (Pu.fieldB fo27_1 rfl) z1 z3 ?_
    refine op [1] [1] (OT.loadB sc25 rfl) z1 z1 z4 (fun _ => rfl) fun _ => ?_
    refine pu (Pu.len ul25) z1 z3 ?_
    refine pu Pu.lss z2 z3 ?_
    refine HQ.done ?_
    refine HQ.keep [(2, _), (3, _), (4, _), (6, _), (77, _)] z5 ?_
    rcases brk H with ⟨hc, H⟩ | ⟨hc, H⟩
    ·refine HQ.condT rfl hc ?_
     clear hc
     refine HQ.skipThen ?_
     refine HQ.seq ?_
     refine HQ.block ?_
     refine HQ.seq ?_
     refine HQ.dStart mixd ?_
     obtain ⟨h151, H⟩ := asr H
     obtain ⟨h156, H⟩ := asr H
     obtain ⟨⟨a152, c153⟩, hb154, hn155⟩ := BorS.nest hb_1 h151
     obtain ⟨⟨a157, c158⟩, hb159, hn160⟩ := BorS.nest hb_3 h156
     refine HQ.dPart [(2, BP b1 0), (3, BP b2 0), (4, .bool false), (6, vI i121)] 12 [⟨[], [], []⟩, ⟨[0], [0], [0]⟩, ⟨[], [], []⟩, ⟨[], [], [1, 2]⟩, ⟨[], [], [3]⟩, ⟨[], [], [4]⟩, ⟨[], [], []⟩, ⟨[1], [1], [6]⟩, ⟨[], [], []⟩, ⟨[], [], [7, 8]⟩, ⟨[], [], [9]⟩, ⟨[], [], [10]⟩] [⟨none, none⟩, ⟨none, none⟩] (fun (g150 : Unit) => [BP b1 1, vS a_1 p0.Wet c_1, vI i121, EP a_1 i121 2 0, EP a_1 i121 2 0, vI ((gt p0.Wet i121).At), BP b2 1, vS a_3 p1.Wet c_3, vI i121, EP a_3 i121 2 0, EP a_3 i121 2 0, vI ((gt p1.Wet i121).At)]) (fun (g150 : Unit) => [Box b1 [vS a_0 p0.Cells c_0, vS a_1 p0.Wet c_1, vI p0.Fuse, .bool p0.Dead], Box b2 [vS a_2 p1.Cells c_2, vS a_3 p1.Wet c_3, vI p1.Fuse, .bool p1.Dead]]) () [1, 2] [1, 2] [] z4 z2 rfl (by kernel_rfl) (by kernel_rfl) (fun _ => rfl) (by kernel_rfl) (fun _ => rfl) rfl ⟨?_, ?_, ?_, ?_, ?_, ?_, ?_, ?_, ?_, ?_, ?_, ?_, trivial⟩ fun g150 => ?_
     ·exact OpOK2.pu (fun g150 => [(.tmp 2, BP b1 0)]) z2 (fun _ => z1) (fun _ => (Pu.fieldB fo27_1 rfl)) (fun _ => z1) (fun _ _ => z4)
     ·exact OpOK2.of (fun g150 => [(.tmp 80, BP b1 1)]) _ _ (fun g150 _ => g150) rfl rfl (fun _ => z1) (fun g150 => OT.loadB sc25 rfl) (fun _ _ => z4)
     ·exact OpOK2.pu (fun g150 => [(.tmp 6, vI i121)]) z2 (fun _ => z1) (fun _ => Pu.move) (fun _ => z1) (fun _ _ => z4)
     ·exact OpOK2.of (fun g150 => [(.tmp 81, vS a_1 p0.Wet c_1), (.tmp 82, vI i121)]) _ _ (fun g150 _ => g150) rfl rfl (fun _ => z2) (fun g150 => OT.indexB ul25 sz110 hb_1 h151) (fun _ _ => z4)
     ·exact OpOK2.pu (fun g150 => [(.tmp 83, EP a_1 i121 2 0)]) z2 (fun _ => z1) (fun _ => (Pu.fieldE fo110_0 rfl)) (fun _ => z1) (fun _ _ => z4)
     ·exact OpOK2.of (fun g150 => [(.tmp 84, EP a_1 i121 2 0)]) _ _ (fun g150 _ => g150) rfl rfl (fun _ => z1) (fun g150 => OT.loadN (v := vI ((gt p0.Wet i121).At)) sc3 hn155 hlTWet rfl) (fun _ _ => z4)
     ·exact OpOK2.pu (fun g150 => [(.tmp 3, BP b2 0)]) z2 (fun _ => z1) (fun _ => (Pu.fieldB fo27_1 rfl)) (fun _ => z1) (fun _ _ => z4)
     ·exact OpOK2.of (fun g150 => [(.tmp 86, BP b2 1)]) _ _ (fun g150 _ => g150) rfl rfl (fun _ => z1) (fun g150 => OT.loadB sc25 rfl) (fun _ _ => z4)
     ·exact OpOK2.pu (fun g150 => [(.tmp 6, vI i121)]) z2 (fun _ => z1) (fun _ => Pu.move) (fun _ => z1) (fun _ _ => z4)
     ·exact OpOK2.of (fun g150 => [(.tmp 87, vS a_3 p1.Wet c_3), (.tmp 88, vI i121)]) _ _ (fun g150 _ => g150) rfl rfl (fun _ => z2) (fun g150 => OT.indexB ul25 sz110 hb_3 h156) (fun _ _ => z4)
     ·exact OpOK2.pu (fun g150 => [(.tmp 89, EP a_3 i121 2 0)]) z2 (fun _ => z1) (fun _ => (Pu.fieldE fo110_0 rfl)) (fun _ => z1) (fun _ _ => z4)
     ·exact OpOK2.of (fun g150 => [(.tmp 90, EP a_3 i121 2 0)]) _ _ (fun g150 _ => g150) rfl rfl (fun _ => z1) (fun g150 => OT.loadN (v := vI ((gt p1.Wet i121).At)) sc3 hn160 hlTWet rfl) (fun _ _ => z4)
     refine HQ.keep [(2, _), (3, _), (4, _), (6, _), (85, _), (91, _)] z6 ?_
     refine HQ.keepR [(1, _), (2, _)] z2 rfl ?_
     refine HQ.dRun 2 rfl rfl (by kernel_rfl) (by kernel_rfl) ?_
     refine pu Pu.neq z2 z3 ?_
     refine pu Pu.move z1 z3 ?_
     refine HQ.done ?_
     obtain ⟨c176, h177, H⟩ := bnd H
     refine HQ.dMid (m' := 29) [(108, .bool c176), (2, BP b1 0), (3, BP b2 0), (4, .bool false), (6, vI i121)] [(1, Box b1 [vS a_0 p0.Cells c_0, vS a_1 p0.Wet c_1, vI p0.Fuse, .bool p0.Dead]), (2, Box b2 [vS a_2 p1.Cells c_2, vS a_3 p1.Wet c_3, vI p1.Fuse, .bool p1.Dead])] (fun hmid => ?_) ?_
     ·clear H
      have H := h177
      rcases brk H with ⟨hg161, H⟩ | ⟨hg161, H⟩
      ·obtain rfl := Option.some.inj H
       refine HQ.dPart [(2, BP b1 0), (3, BP b2 0), (4, .bool false), (6, vI i121), (93, .bool (!decide (((gt p0.Wet i121).At) = ((gt p1.Wet i121).At))))] 26 [⟨[], [], []⟩, ⟨[], [], []⟩, ⟨[], [], []⟩, ⟨[], [], []⟩, ⟨[], [], []⟩, ⟨[], [], []⟩, ⟨[], [], []⟩, ⟨[], [], []⟩, ⟨[], [], []⟩, ⟨[], [], []⟩, ⟨[], [], []⟩, ⟨[], [], []⟩, ⟨[], [], []⟩, ⟨[], [], []⟩, ⟨[], [], []⟩, ⟨[], [], []⟩, ⟨[], [], []⟩, ⟨[], [], []⟩, ⟨[], [], []⟩, ⟨[], [], []⟩, ⟨[], [], []⟩, ⟨[], [], []⟩, ⟨[], [], []⟩, ⟨[], [], []⟩, ⟨[], [], []⟩, ⟨[], [], []⟩] [] (fun (g175 : Unit) => [undef, undef, undef, undef, undef, undef, undef, undef, undef, undef, undef, undef, undef, undef, undef, undef, undef, undef, undef, undef, undef, undef, undef, undef, undef, undef]) (fun (g175 : Unit) => []) () [] [] [] z5 trivial rfl (by kernel_rfl) (by kernel_rfl) (fun _ => rfl) (by kernel_rfl) (fun _ => rfl) rfl ⟨?_, ?_, ?_, ?_, ?_, ?_, ?_, ?_, ?_, ?_, ?_, ?_, trivial⟩ fun g175 => ?_
       ·exact OpOK2.off rfl rfl rfl hg161 rfl rfl (fun _ => z1)
       ·exact OpOK2.off rfl rfl rfl hg161 rfl rfl (fun _ => z1)
       ·exact OpOK2.off rfl rfl rfl hg161 rfl rfl (fun _ => z1)
       ·exact OpOK2.off rfl rfl rfl hg161 rfl rfl (fun _ => z1)
       ·exact OpOK2.off rfl rfl rfl hg161 rfl rfl (fun _ => z1)
       ·exact OpOK2.off rfl rfl rfl hg161 rfl rfl (fun _ => z1)
       ·exact OpOK2.off rfl rfl rfl hg161 rfl rfl (fun _ => z1)
       ·exact OpOK2.off rfl rfl rfl hg161 rfl rfl (fun _ => z1)
       ·exact OpOK2.off rfl rfl rfl hg161 rfl rfl (fun _ => z1)
       ·exact OpOK2.off rfl rfl rfl hg161 rfl rfl (fun _ => z1)
       ·exact OpOK2.off rfl rfl rfl hg161 rfl rfl (fun _ => z1)
       ·exact OpOK2.off rfl rfl rfl hg161 rfl rfl (fun _ => z1)
       refine HQ.keep [(2, _), (3, _), (4, _), (6, _), (93, _), (94, _), (95, _), (96, _), (97, _), (98, _), (99, _), (100, _), (101, _), (102, _), (103, _), (104, _), (105, _)] z17 ?_
       refine HQ.keepR [(1, _), (2, _)] z2 rfl ?_
       refine HQ.dRun 2 rfl rfl (by kernel_rfl) (by kernel_rfl) ?_
       refine HQ.off rfl rfl hg161 rfl ?_
       refine HQ.off rfl rfl hg161 rfl ?_
       refine HQ.done ?_
       refine HQ.dRun 1 rfl rfl (by kernel_rfl) (by kernel_rfl) ?_
       refine pu (Pu.pickC1 hg161) z2 z3 ?_
       refine HQ.done ?_
       exact HQ.dUse hmid z5 z2 rfl
      ·obtain ⟨h163, H⟩ := asr H
       obtain ⟨h168, H⟩ := asr H
       obtain ⟨⟨a164, c165⟩, hb166, hn167⟩ := BorS.nest hb_1 h163
       obtain ⟨⟨a169, c170⟩, hb171, hn172⟩ := BorS.nest hb_3 h168
       refine HQ.dPart [(2, BP b1 0), (3, BP b2 0), (4, .bool false), (6, vI i121), (93, .bool (!decide (((gt p0.Wet i121).At) = ((gt p1.Wet i121).At))))] 26 [⟨[], [], []⟩, ⟨[], [], []⟩, ⟨[], [], []⟩, ⟨[], [], []⟩, ⟨[], [], []⟩, ⟨[], [], []⟩, ⟨[], [], []⟩, ⟨[], [], []⟩, ⟨[], [], []⟩, ⟨[], [], []⟩, ⟨[], [], []⟩, ⟨[], [], []⟩, ⟨[], [], []⟩, ⟨[], [], []⟩, ⟨[], [], []⟩, ⟨[0], [0], [14]⟩, ⟨[], [], []⟩, ⟨[], [], [15, 16]⟩, ⟨[], [], [17]⟩, ⟨[], [], [18]⟩, ⟨[], [], []⟩, ⟨[1], [1], [20]⟩, ⟨[], [], []⟩, ⟨[], [], [21, 22]⟩, ⟨[], [], [23]⟩, ⟨[], [], [24]⟩] [⟨none, none⟩, ⟨none, none⟩] (fun (g162 : Unit) => [undef, undef, undef, undef, undef, undef, undef, undef, undef, undef, undef, undef, undef, undef, BP b1 1, vS a_1 p0.Wet c_1, vI i121, EP a_1 i121 2 0, EP a_1 i121 2 1, vS a164 ((gt p0.Wet i121).B) c165, BP b2 1, vS a_3 p1.Wet c_3, vI i121, EP a_3 i121 2 0, EP a_3 i121 2 1, vS a169 ((gt p1.Wet i121).B) c170]) (fun (g162 : Unit) => [Box b1 [vS a_0 p0.Cells c_0, vS a_1 p0.Wet c_1, vI p0.Fuse, .bool p0.Dead], Box b2 [vS a_2 p1.Cells c_2, vS a_3 p1.Wet c_3, vI p1.Fuse, .bool p1.Dead]]) () [1, 2] [1, 2] [] z5 z2 rfl (by kernel_rfl) (by kernel_rfl) (fun _ => rfl) (by kernel_rfl) (fun _ => rfl) rfl ⟨?_, ?_, ?_, ?_, ?_, ?_, ?_, ?_, ?_, ?_, ?_, ?_, trivial⟩ fun g162 => ?_
       ·exact OpOK2.on (fun g162 => [(.tmp 2, BP b1 0)]) _ _ (fun g162 _ => g162) rfl rfl rfl hg161 (fun _ => z1) (fun g162 => Pu.toOT (Pu.fieldB fo27_1 rfl)) (fun _ _ => z4)
       ·exact OpOK2.on (fun g162 => [(.tmp 94, BP b1 1)]) _ _ (fun g162 _ => g162) rfl rfl rfl hg161 (fun _ => z1) (fun g162 => OT.loadB sc25 rfl) (fun _ _ => z4)
       ·exact OpOK2.on (fun g162 => [(.tmp 6, vI i121)]) _ _ (fun g162 _ => g162) rfl rfl rfl hg161 (fun _ => z1) (fun g162 => Pu.toOT Pu.move) (fun _ _ => z4)
       ·exact OpOK2.on (fun g162 => [(.tmp 95, vS a_1 p0.Wet c_1), (.tmp 96, vI i121)]) _ _ (fun g162 _ => g162) rfl rfl rfl hg161 (fun _ => z2) (fun g162 => OT.indexB ul25 sz110 hb_1 h163) (fun _ _ => z4)
       ·exact OpOK2.on (fun g162 => [(.tmp 97, EP a_1 i121 2 0)]) _ _ (fun g162 _ => g162) rfl rfl rfl hg161 (fun _ => z1) (fun g162 => Pu.toOT (Pu.fieldE fo110_1 rfl)) (fun _ _ => z4)
       ·exact OpOK2.on (fun g162 => [(.tmp 98, EP a_1 i121 2 1)]) _ _ (fun g162 _ => g162) rfl rfl rfl hg161 (fun _ => z1) (fun g162 => OT.loadN (v := vS a164 ((gt p0.Wet i121).B) c165) sc22 hn167 hlTWet rfl) (fun _ _ => z4)
       ·exact OpOK2.on (fun g162 => [(.tmp 3, BP b2 0)]) _ _ (fun g162 _ => g162) rfl rfl rfl hg161 (fun _ => z1) (fun g162 => Pu.toOT (Pu.fieldB fo27_1 rfl)) (fun _ _ => z4)
       ·exact OpOK2.on (fun g162 => [(.tmp 100, BP b2 1)]) _ _ (fun g162 _ => g162) rfl rfl rfl hg161 (fun _ => z1) (fun g162 => OT.loadB sc25 rfl) (fun _ _ => z4)
       ·exact OpOK2.on (fun g162 => [(.tmp 6, vI i121)]) _ _ (fun g162 _ => g162) rfl rfl rfl hg161 (fun _ => z1) (fun g162 => Pu.toOT Pu.move) (fun _ _ => z4)
       ·exact OpOK2.on (fun g162 => [(.tmp 101, vS a_3 p1.Wet c_3), (.tmp 102, vI i121)]) _ _ (fun g162 _ => g162) rfl rfl rfl hg161 (fun _ => z2) (fun g162 => OT.indexB ul25 sz110 hb_3 h168) (fun _ _ => z4)
       ·exact OpOK2.on (fun g162 => [(.tmp 103, EP a_3 i121 2 0)]) _ _ (fun g162 _ => g162) rfl rfl rfl hg161 (fun _ => z1) (fun g162 => Pu.toOT (Pu.fieldE fo110_1 rfl)) (fun _ _ => z4)
       ·exact OpOK2.on (fun g162 => [(.tmp 104, EP a_3 i121 2 1)]) _ _ (fun g162 _ => g162) rfl rfl rfl hg161 (fun _ => z1) (fun g162 => OT.loadN (v := vS a169 ((gt p1.Wet i121).B) c170) sc22 hn172 hlTWet rfl) (fun _ _ => z4)
       refine HQ.keep [(2, _), (3, _), (4, _), (6, _), (93, _), (94, _), (95, _), (96, _), (97, _), (98, _), (99, _), (100, _), (101, _), (102, _), (103, _), (104, _), (105, _)] z17 ?_
       refine HQ.keepR [(1, _), (2, _)] z2 rfl ?_
       refine HQ.dRun 2 rfl rfl (by kernel_rfl) (by kernel_rfl) ?_
       refine HQ.on rfl rfl hg161 ?_
       obtain ⟨t173, h174, H⟩ := bnd H
       refine op [] [] (OT.call (us := [_, _]) (Pre := []) [.tmp 99, .tmp 105] Try.call23 rfl rfl fun w F hs hF hp => laws_same_c (hb166.pass hp) (hb171.pass hp) h174) z3 trivial z4 (fun _ => rfl) fun _ => ?_
       refine HQ.on rfl rfl hg161 ?_
       refine pu Pu.not z1 z3 ?_
       refine HQ.done ?_
       obtain rfl := Option.some.inj H
       refine HQ.dRun 1 rfl rfl (by kernel_rfl) (by kernel_rfl) ?_
       refine pu (Pu.pickC0 hg161) z2 z3 ?_
       refine HQ.done ?_
       exact HQ.dUse hmid z5 z2 rfl
     refine HQ.dEnd rfl ?_
     refine HQ.thenN ?_
     refine HQ.keep [(108, _), (2, _), (3, _), (4, _), (6, _)] z5 ?_
     rcases brk H with ⟨hc, H⟩ | ⟨hc, H⟩
     ·refine HQ.condT rfl hc ?_
      clear hc
      refine HQ.rseq ?_
      refine pu Pu.assign z1 z3 ?_
      refine HQ.done ?_
      refine HQ.keep [(2, _), (3, _), (4, _), (6, _)] z4 ?_
      refine HQ.ret ?_
      refine HQ.blkR ?_
      refine HQ.thenR ?_
      obtain rfl := Option.some.inj H
      refine HQ.retL ?_
      exact HQ.fin (vs := [_]) Try.results19 () z1 rfl [] trivial rfl
     ·refine HQ.condF rfl hc ?_
      clear hc
      refine HQ.skip ?_
      refine HQ.blkN ?_
      refine HQ.thenN ?_
      refine HQ.regionQ ?_
      refine pu Pu.move z1 z3 ?_
      refine pu Pu.add z2 z3 ?_
      refine pu Pu.assign z1 z3 ?_
      refine HQ.done ?_
      refine HQ.keep [(2, _), (3, _), (4, _), (6, _)] z4 ?_
      obtain rfl := Option.some.inj H
      exact HQ.next () z4 z2 rfl
    ·refine HQ.condF rfl hc ?_
     clear hc
     refine HQ.exit ?_
     refine HQ.thenE ?_
     obtain rfl := Option.some.inj H
     exact HQ.out () z4 z2 rfl
   ·rintro i179 rfl _
    clear h180
    replace H := H
    refine HQ.keep [(2, _), (3, _), (4, _), (6, _)] z4 ?_
    refine HQ.keepR [(1, _), (2, _)] z2 rfl ?_
    refine HQ.blkE ?_
    refine HQ.thenN ?_
    refine HQ.rseq ?_
    refine pu Pu.assign z1 z3 ?_
    refine HQ.done ?_
    refine HQ.keep [(4, _)] z1 ?_
    refine HQ.ret ?_
    obtain rfl := Option.some.inj H
    exact HQ.fin (vs := [_]) Try.results19 () z1 rfl [] trivial rfl
   ·rintro r rfl a w hr
    obtain rfl := Option.some.inj H
    exact hr
  ·rintro r rfl a w hr
   obtain rfl := Option.some.inj H
   exact hr

theorem slices_Equal_impl_Entry_impl_Entry_c {w : World} {k : Nat} {p0 : (List TEntry)} {p1 : (List TEntry)} {a_0 : Option Addr} {c_0 : Nat} {a_1 : Option Addr} {c_1 : Nat} (hb_0 : BorS kTEntry a_0 c_0 p0 w.heap (Lt w Nil)) (hb_1 : BorS kTEntry a_1 c_1 p1 w.heap (Lt w Nil)) {r : Bool} (H : slices_Equal_impl_Entry_impl_Entry k p0 p1 = some r) :
  Calls Try.prog 108 #[vS a_0 p0 c_0, vS a_1 p1 c_1] w (Rt w Nil (fun _ : Unit => .bool r) (fun _ => [])) := by
 rw [slices_Equal_impl_Entry_impl_Entry] at H
 refine Calls.enter0 (N := 26) (us := [_, _]) Try.func108 rfl rfl rfl ?_
 refine HQ.rseq ?_
 refine pu Pu.assign z1 z3 ?_
 refine HQ.done ?_
 refine HQ.keep [(0, _), (1, _), (4, _)] z3 ?_
 refine HQ.seq ?_
 refine HQ.rseq ?_
 refine pu Pu.move z1 z3 ?_
 refine pu (Pu.len ul45) z1 z3 ?_
 refine pu Pu.move z1 z3 ?_
 refine pu (Pu.len ul45) z1 z3 ?_
 refine pu Pu.neq z2 z3 ?_
 refine HQ.done ?_
 refine HQ.keep [(0, _), (1, _), (4, _), (10, _)] z4 ?_
 rcases brk H with ⟨hc, H⟩ | ⟨hc, H⟩
 ·refine HQ.condT rfl hc ?_
  clear hc
  refine HQ.rseq ?_
  refine pu Pu.assign z1 z3 ?_
  refine HQ.done ?_
  refine HQ.keep [(0, _), (1, _), (4, _)] z3 ?_
  refine HQ.ret ?_
  refine HQ.thenR ?_
  obtain rfl := Option.some.inj H
  exact HQ.fin (vs := [_]) Try.results108 () z1 rfl [] trivial rfl
 ·refine HQ.condF rfl hc ?_
  clear hc
  refine HQ.skipThen ?_
  refine HQ.seq ?_
  refine HQ.rseq ?_
  refine pu Pu.move z1 z3 ?_
  refine pu (Pu.len ul45) z1 z3 ?_
  refine pu Pu.move z1 z3 ?_
  refine HQ.done ?_
  refine HQ.keep [(0, _), (1, _), (4, _), (12, _), (13, _)] z5 ?_
  refine HQ.block ?_
  obtain ⟨o11, h13, H⟩ := bnd H
  refine HQ.loop h13 0 (fun (s : Int) (g : Unit) => match s, g with | i4, () => [(0, vS a_0 p0 c_0), (1, vS a_1 p1 c_1), (4, .bool false), (12, vI ((List.length p0 : Nat) : Int)), (13, vI i4)]) (fun (s : Int) (g : Unit) => match s, g with | i4, () => []) (fun r => bodyPost Try.prog Try.f108 (Rt w Nil (fun _ : Unit => .bool r) (fun _ => [])) .ret) () z5 trivial rfl ?_ ?_ ?_
  ·clear H h13
   rintro i4 _ o H
   rw [slices_Equal_impl_Entry_impl_Entry_b0] at H
   refine HQ.keep [(0, _), (1, _), (4, _), (12, _), (13, _)] z5 ?_
   refine HQ.keepR [] trivial rfl ?_
   refine HQ.rseq ?_
   refine pu Pu.lss z2 z3 ?_
   refine HQ.done ?_
   refine HQ.keep [(0, _), (1, _), (4, _), (12, _), (13, _), (14, _)] z6 ?_
   refine HQ.seq ?_
   rcases brk H with ⟨hc, H⟩ | ⟨hc, H⟩
   ·refine HQ.condT rfl hc ?_
    clear hc
    refine HQ.skipThen ?_
    refine HQ.seq ?_
    refine HQ.block ?_
    refine HQ.rseq ?_
    refine pu Pu.move z1 z3 ?_
    refine pu Pu.assign z1 z3 ?_
    refine HQ.done ?_
    refine HQ.keep [(0, _), (1, _), (4, _), (12, _), (13, _), (5, _)] z6 ?_
    obtain ⟨h9, H⟩ := asr H
    obtain ⟨h10, H⟩ := asr H
    refine HQ.drawS mixd [(0, vS a_0 p0 c_0), (1, vS a_1 p1 c_1), (4, .bool false), (12, vI ((List.length p0 : Nat) : Int)), (13, vI i4), (5, vI i4)] 8 [⟨[], [], []⟩, ⟨[], [], []⟩, ⟨[], [], [0, 1]⟩, ⟨[], [], [2]⟩, ⟨[], [], []⟩, ⟨[], [], []⟩, ⟨[], [], [4, 5]⟩, ⟨[], [], [6]⟩] [] (fun (g8 : Unit) => [vS a_0 p0 c_0, vI i4, EP a_0 i4 5 0, .agg #[vI ((gt p0 i4).N), vI ((gt p0 i4).R.X0), vI ((gt p0 i4).R.Y0), vI ((gt p0 i4).R.X1), vI ((gt p0 i4).R.Y1)], vS a_1 p1 c_1, vI i4, EP a_1 i4 5 0, .agg #[vI ((gt p1 i4).N), vI ((gt p1 i4).R.X0), vI ((gt p1 i4).R.Y0), vI ((gt p1 i4).R.X1), vI ((gt p1 i4).R.Y1)]]) (fun (g8 : Unit) => []) () [] [] [] z6 trivial rfl (by kernel_rfl) (fun _ => rfl) (by kernel_rfl) (fun _ => rfl) ⟨?_, ?_, ?_, ?_, ?_, ?_, ?_, ?_, trivial⟩ fun g8 => ?_
    ·exact OpOK.pu (fun g8 => [(.tmp 0, vS a_0 p0 c_0)]) z2 (fun _ => z1) (fun _ => Pu.move) (fun _ => z1) (fun _ _ => z2)
    ·exact OpOK.pu (fun g8 => [(.tmp 5, vI i4)]) z2 (fun _ => z1) (fun _ => Pu.move) (fun _ => z1) (fun _ _ => z2)
    ·exact OpOK.of (fun g8 => [(.tmp 16, vS a_0 p0 c_0), (.tmp 17, vI i4)]) _ _ (fun g8 _ => g8) rfl rfl (fun _ => z2) (fun g8 => OT.indexB ul45 sz134 hb_0 h9) (fun _ _ => z2)
    ·exact OpOK.of (fun g8 => [(.tmp 18, EP a_0 i4 5 0)]) _ _ (fun g8 _ => g8) rfl rfl (fun _ => z1) (fun g8 => OT.loadFA (vs := [vI ((gt p0 i4).N), vI ((gt p0 i4).R.X0), vI ((gt p0 i4).R.Y0), vI ((gt p0 i4).R.X1), vI ((gt p0 i4).R.Y1)]) ag134 sz134 hb_0 h9 rfl rfl) (fun _ _ => z2)
    ·exact OpOK.pu (fun g8 => [(.tmp 1, vS a_1 p1 c_1)]) z2 (fun _ => z1) (fun _ => Pu.move) (fun _ => z1) (fun _ _ => z2)
    ·exact OpOK.pu (fun g8 => [(.tmp 5, vI i4)]) z2 (fun _ => z1) (fun _ => Pu.move) (fun _ => z1) (fun _ _ => z2)
    ·exact OpOK.of (fun g8 => [(.tmp 20, vS a_1 p1 c_1), (.tmp 21, vI i4)]) _ _ (fun g8 _ => g8) rfl rfl (fun _ => z2) (fun g8 => OT.indexB ul45 sz134 hb_1 h10) (fun _ _ => z2)
    ·exact OpOK.of (fun g8 => [(.tmp 22, EP a_1 i4 5 0)]) _ _ (fun g8 _ => g8) rfl rfl (fun _ => z1) (fun g8 => OT.loadFA (vs := [vI ((gt p1 i4).N), vI ((gt p1 i4).R.X0), vI ((gt p1 i4).R.Y0), vI ((gt p1 i4).R.X1), vI ((gt p1 i4).R.Y1)]) ag134 sz134 hb_1 h10 rfl rfl) (fun _ _ => z2)
    refine HQ.keep [(0, _), (1, _), (4, _), (12, _), (13, _), (19, _), (23, _)] z7 ?_
    refine HQ.keepR [] trivial rfl ?_
    refine pu (Pu.neqT gq134 (eqa134 (gt p0 i4) (gt p1 i4)) rfl) z2 z3 ?_
    refine HQ.done ?_
    refine HQ.keep [(0, _), (1, _), (4, _), (12, _), (13, _), (24, _)] z6 ?_
    rcases brk H with ⟨hc, H⟩ | ⟨hc, H⟩
    ·refine HQ.condT rfl hc ?_
     clear hc
     refine HQ.rseq ?_
     refine pu Pu.assign z1 z3 ?_
     refine HQ.done ?_
     refine HQ.keep [(0, _), (1, _), (4, _), (12, _), (13, _)] z5 ?_
     refine HQ.ret ?_
     refine HQ.blkR ?_
     refine HQ.thenR ?_
     obtain rfl := Option.some.inj H
     refine HQ.retL ?_
     exact HQ.fin (vs := [_]) Try.results108 () z1 rfl [] trivial rfl
    ·refine HQ.condF rfl hc ?_
     clear hc
     refine HQ.skip ?_
     refine HQ.blkN ?_
     refine HQ.thenN ?_
     refine HQ.regionQ ?_
     refine pu Pu.add z2 z3 ?_
     refine pu Pu.move z1 z3 ?_
     refine HQ.done ?_
     refine HQ.keep [(0, _), (1, _), (4, _), (12, _), (13, _)] z5 ?_
     obtain rfl := Option.some.inj H
     exact HQ.next () z5 trivial rfl
   ·refine HQ.condF rfl hc ?_
    clear hc
    refine HQ.exit ?_
    refine HQ.thenE ?_
    obtain rfl := Option.some.inj H
    exact HQ.out () z5 trivial rfl
  ·rintro i12 rfl _
   clear h13
   replace H := H
   refine HQ.keep [(0, _), (1, _), (4, _), (12, _), (13, _)] z5 ?_
   refine HQ.keepR [] trivial rfl ?_
   refine HQ.blkE ?_
   refine HQ.thenN ?_
   refine HQ.rseq ?_
   refine pu Pu.assign z1 z3 ?_
   refine HQ.done ?_
   refine HQ.keep [(4, _)] z1 ?_
   refine HQ.ret ?_
   obtain rfl := Option.some.inj H
   exact HQ.fin (vs := [_]) Try.results108 () z1 rfl [] trivial rfl
  ·rintro r rfl a w hr
   obtain rfl := Option.some.inj H
   exact hr

theorem impl_SameNode_c {w : World} {k : Nat} {p0 : TNode} {p1 : TNode} {a_0 : Option Addr} {c_0 : Nat} {a_1 : Option Addr} {c_1 : Nat} (hb_0 : BorS kTEntry a_0 c_0 p0.L w.heap (Lt w Nil)) (hb_1 : BorS kTEntry a_1 c_1 p1.L w.heap (Lt w Nil)) {r : Bool} (H : impl_SameNode k p0 p1 = some r) :
  Calls Try.prog 37 #[.agg #[.bool p0.Leaf, vS a_0 p0.L c_0], .agg #[.bool p1.Leaf, vS a_1 p1.L c_1]] w (Rt w Nil (fun _ : Unit => .bool r) (fun _ => [])) := by
 rw [impl_SameNode] at H
 refine Calls.enter0 (N := 17) (us := [_, _]) Try.func37 rfl rfl rfl ?_
 refine HQ.rseq ?_
 refine op [] [1] (OT.box (cs := [.bool p0.Leaf, vS a_0 p0.L c_0]) rfl) z1 trivial z4 (fun _ => rfl) fun b1 => ?_
 refine op [] [2] (OT.box (cs := [.bool p1.Leaf, vS a_1 p1.L c_1]) rfl) z1 trivial z4 (fun _ => rfl) fun b2 => ?_
 refine pu Pu.assign z1 z3 ?_
 refine HQ.done ?_
 refine HQ.keep [(2, _), (3, _), (4, _)] z3 ?_
 refine HQ.rseq ?_
 refine pu (Pu.fieldB fo47_0 rfl) z1 z3 ?_
 refine op [1] [1] (OT.loadB sc4 rfl) z1 z1 z4 (fun _ => rfl) fun _ => ?_
 refine pu (Pu.fieldB fo47_0 rfl) z1 z3 ?_
 refine op [2] [2] (OT.loadB sc4 rfl) z1 z1 z4 (fun _ => rfl) fun _ => ?_
 refine pu (Pu.eqlB ul4) z2 z3 ?_
 refine pu Pu.move z1 z3 ?_
 obtain ⟨c6, h7, H⟩ := bnd H
 refine HQ.cutAt 6 [(16, .bool c6), (4, .bool false)] [(1, Box b1 [.bool p0.Leaf, vS a_0 p0.L c_0]), (2, Box b2 [.bool p1.Leaf, vS a_1 p1.L c_1])] ?_ ?_
 ·clear H
  have H := h7
  rcases brk H with ⟨hg3, H⟩ | ⟨hg3, H⟩
  ·refine HQ.on rfl rfl hg3 ?_
   refine pu (Pu.fieldB fo47_1 rfl) z1 z3 ?_
   refine HQ.on rfl rfl hg3 ?_
   refine op [1] [1] (OT.loadB sc45 rfl) z1 z1 z4 (fun _ => rfl) fun _ => ?_
   refine HQ.on rfl rfl hg3 ?_
   refine pu (Pu.fieldB fo47_1 rfl) z1 z3 ?_
   refine HQ.on rfl rfl hg3 ?_
   refine op [2] [2] (OT.loadB sc45 rfl) z1 z1 z4 (fun _ => rfl) fun _ => ?_
   refine HQ.on rfl rfl hg3 ?_
   obtain ⟨t4, h5, H⟩ := bnd H
   refine op [] [] (OT.call (us := [_, _]) (Pre := []) [.tmp 12, .tmp 14] Try.call108 rfl rfl fun w F hs hF hp => slices_Equal_impl_Entry_impl_Entry_c (hb_0.pass hp) (hb_1.pass hp) h5) z3 trivial z4 (fun _ => rfl) fun _ => ?_
   obtain rfl := Option.some.inj H
   refine pu (Pu.pickC1 hg3) z2 z3 ?_
   exact HQ.mid z2 z2 rfl
  ·obtain rfl := Option.some.inj H
   refine HQ.off rfl rfl hg3 rfl ?_
   refine HQ.off rfl rfl hg3 rfl ?_
   refine HQ.off rfl rfl hg3 rfl ?_
   refine HQ.off rfl rfl hg3 rfl ?_
   refine HQ.off rfl rfl hg3 rfl ?_
   refine pu (Pu.pickC0 hg3) z2 z3 ?_
   exact HQ.mid z2 z2 rfl
 refine pu Pu.assign z1 z3 ?_
 refine HQ.done ?_
 refine HQ.keep [(4, _)] z1 ?_
 refine HQ.ret ?_
 obtain rfl := Option.some.inj H
 exact HQ.fin (vs := [_]) Try.results37 () z1 rfl [] trivial rfl

end Go.Proofs.Sx
