import Derived.Test.YtkhommmhkeohbaaQfF8
import Derived.KernelRfl
namespace Go.Proofs.Sx
open Go.RowKit
set_option linter.unusedVariables false
set_option linter.unusedSimpArgs false
set_option maxRecDepth 20000
set_option maxHeartbeats 1000000
theorem spec_Crash_c {w : World} {k : Nat} {p0 : TDisk} {p1 : (List Int)} {p2 : Int} {a_0 : Option Addr} {c_0 : Nat} {a_1 : Option Addr} {c_1 : Nat} {a_2 : Option Addr} {c_2 : Nat} (hb_0 : BorS kTCell a_0 c_0 p0.Cells w.heap (Lt w Nil)) (hb_1 : BorS kTWet a_1 c_1 p0.Wet w.heap (Lt w Nil)) (hb_2 : BorS kI a_2 c_2 p1 w.heap (Lt w Nil)) {r : TDisk} (H : spec_Crash k p0 p1 p2 = some r) :
  Calls Try.prog 22 #[.agg #[vS a_0 p0.Cells c_0, vS a_1 p0.Wet c_1, vI p0.Fuse, .bool p0.Dead], vS a_2 p1 c_2, vI p2] w (Rt w Nil (fun g : (Option Addr × Nat) × (Option Addr × Nat) => .agg #[vS g.1.1 r.Cells g.1.2, vS g.2.1 r.Wet g.2.2, vI r.Fuse, .bool r.Dead]) (fun g => [OwnS kTCell g.1.1 g.1.2 r.Cells, OwnS kTWet g.2.1 g.2.2 r.Wet])) := by
 rw [spec_Crash] at H
 refine Calls.enter0 (N := 69) (us := [_, _, _]) Try.func22 rfl rfl rfl ?_
 refine HQ.rseq ?_
 refine op [] [1] (OT.box (cs := [vS a_0 p0.Cells c_0, vS a_1 p0.Wet c_1, vI p0.Fuse, .bool p0.Dead]) rfl) z1 trivial z4 (fun _ => rfl) fun b1 => ?_
 refine op [] [2] (OT.alloc zc27) trivial trivial z4 (fun _ => rfl) fun b2 => ?_
 refine HQ.done ?_
 refine HQ.keep [(1, _), (2, _), (3, _), (6, _)] z4 ?_
 refine HQ.rseq ?_
 refine op [1] [1] (OT.loadBA (vs := [vS a_0 p0.Cells c_0, vS a_1 p0.Wet c_1, vI p0.Fuse, .bool p0.Dead]) ag27 sz27 rfl rfl) z1 z1 z4 (fun _ => rfl) fun _ => ?_
 obtain ⟨t3, h4, H⟩ := bnd H
 refine op [] [3, 4] (OT.call (us := [_]) (Pre := []) [.tmp 10] Try.call90 rfl rfl fun w F hs hF hp => spec_l18Copy_c (hb_0.pass hp) (hb_1.pass hp) h4) z2 trivial z4 (fun _ => rfl) fun ⟨⟨a5, c6⟩, ⟨a7, c8⟩⟩ => ?_
 refine op [] [5] (OT.alloc zc27) trivial trivial z4 (fun _ => rfl) fun b9 => ?_
 refine HQ.opN [5] [5] [] (OT.storeC (cs' := [vS a5 t3.Cells c6, vS a7 t3.Wet c8, vI t3.Fuse, .bool t3.Dead]) sz27 rfl rfl rfl rfl rfl) z2 z1 rfl rfl rfl (fun _ => rfl) fun _ => ?_
 refine HQ.done ?_
 refine HQ.keep [(1, _), (2, _), (6, _), (7, _)] z4 ?_
 refine HQ.seq ?_
 refine HQ.rseq ?_
 refine pu Pu.assign z1 z3 ?_
 refine HQ.done ?_
 refine HQ.keep [(1, _), (2, _), (6, _), (7, _), (8, _)] z5 ?_
 refine HQ.block ?_
 refine HQ.toRob 4 rfl ?_
 obtain ⟨o98, h110, H⟩ := bnd H
 refine HQ.loop h110 0 (fun (s : Int × (List TCell) × Int × Bool × Int) (g : Option Addr × Nat) => match s, g with | (i37, l38, i41, q42, i43), (a39, c40) => [(1, vS a_2 p1 c_2), (2, vI p2), (6, BP b2 0), (7, BP b9 0), (8, vI i37)]) (fun (s : Int × (List TCell) × Int × Bool × Int) (g : Option Addr × Nat) => match s, g with | (i37, l38, i41, q42, i43), (a39, c40) => [(2, Box b2 [.slice none 0 0, .slice none 0 0, vI 0, .bool false]), (5, Box b9 [vS a39 l38 c40, vS a7 t3.Wet c8, vI i41, .bool q42]), (3, OwnS kTCell a39 c40 l38), (4, RobS 2 encTWet hlTWet kU8 (fun x => x.B) a7 c8 t3.Wet i43)]) (fun _ _ _ => False) (a5, c6) z5 z4 rfl ?_ ?_ ?_
 ·clear H h110
  rintro ⟨i37, l38, i41, q42, i43⟩ ⟨a39, c40⟩ o H
  rw [spec_Crash_b0] at H
  refine HQ.keep [(1, _), (2, _), (6, _), (7, _), (8, _)] z5 ?_
  refine HQ.keepR [(2, _), (5, _), (3, _), (4, _)] z4 rfl ?_
  refine HQ.seq ?_
  refine HQ.rseq ?_
  refine pu Pu.move z1 z3 ?_
  refine pu (Pu.fieldB fo27_1 rfl) z1 z3 ?_
  refine op [5] [5] (OT.loadB sc25 rfl) z1 z1 z4 (fun _ => rfl) fun _ => ?_
  refine pu (Pu.len ul25) z1 z3 ?_
  refine pu Pu.lss z2 z3 ?_
  refine pu Pu.move z1 z3 ?_
  refine HQ.cutAt 5 [(22, .bool ((decide (i37 < ((List.length t3.Wet : Nat) : Int))) && (decide (i37 < ((List.length p1 : Nat) : Int))))), (1, vS a_2 p1 c_2), (2, vI p2), (6, BP b2 0), (7, BP b9 0), (8, vI i37)] [(2, Box b2 [.slice none 0 0, .slice none 0 0, vI 0, .bool false]), (5, Box b9 [vS a39 l38 c40, vS a7 t3.Wet c8, vI i41, .bool q42]), (3, OwnS kTCell a39 c40 l38), (4, RobS 2 encTWet hlTWet kU8 (fun x => x.B) a7 c8 t3.Wet i43)] ?_ ?_
  ·rcases Bool.eq_false_or_eq_true (decide (i37 < ((List.length t3.Wet : Nat) : Int))) with hg71 | hg71
   ·refine HQ.on rfl rfl hg71 ?_
    refine pu Pu.move z1 z3 ?_
    refine HQ.on rfl rfl hg71 ?_
    refine pu Pu.move z1 z3 ?_
    refine HQ.on rfl rfl hg71 ?_
    refine pu (Pu.len ul33) z1 z3 ?_
    refine HQ.on rfl rfl hg71 ?_
    refine pu Pu.lss z2 z3 ?_
    refine pu (Pu.pickAT hg71) z2 z3 ?_
    exact HQ.mid z6 z4 rfl
   ·refine HQ.off rfl rfl hg71 rfl ?_
    refine HQ.off rfl rfl hg71 rfl ?_
    refine HQ.off rfl rfl hg71 rfl ?_
    refine HQ.off rfl rfl hg71 rfl ?_
    refine pu (Pu.pickAF (u := (decide (i37 < ((List.length p1 : Nat) : Int)))) hg71) z2 z3 ?_
    exact HQ.mid z6 z4 rfl
  refine HQ.done ?_
  refine HQ.keep [(22, _), (1, _), (2, _), (6, _), (7, _), (8, _)] z6 ?_
  rcases brk H with ⟨hc, H⟩ | ⟨hc, H⟩
  ·refine HQ.condT rfl hc ?_
   clear hc
   refine HQ.skipThen ?_
   refine HQ.seq ?_
   refine HQ.block ?_
   refine HQ.rseq ?_
   refine pu (Pu.fieldB fo27_1 rfl) z1 z3 ?_
   refine op [5] [5] (OT.loadB sc25 rfl) z1 z1 z4 (fun _ => rfl) fun _ => ?_
   refine pu Pu.move z1 z3 ?_
   obtain ⟨h72, H⟩ := asr H
   refine op [4] [4] (OT.indexR ul25 sz110 h72) z2 z1 z4 (fun _ => rfl) fun _ => ?_
   refine pu (Pu.fieldE fo110_0 rfl) z1 z3 ?_
   obtain ⟨h73, H⟩ := asr H
   refine op [4] [4] (OT.loadR sc3 h72 h73 (fun _ => rfl)) z1 z1 z4 (fun _ => rfl) fun _ => ?_
   refine pu Pu.assign z1 z3 ?_
   refine HQ.done ?_
   refine HQ.keep [(1, _), (2, _), (6, _), (7, _), (8, _), (9, _)] z6 ?_
   refine HQ.seq ?_
   refine HQ.rseq ?_
   refine pu Pu.move z1 z3 ?_
   obtain ⟨t74, h75, H⟩ := bnd H
   refine op [] [] (OT.call (us := [_, _, _]) (Pre := []) [.tmp 31, .const (vI 0), .const (vI 113)] Try.call89 rfl rfl fun w F hs hF hp => spec_l1In_c h75) z4 trivial z4 (fun _ => rfl) fun _ => ?_
   refine pu Pu.not z1 z3 ?_
   refine HQ.done ?_
   refine HQ.keep [(1, _), (2, _), (6, _), (7, _), (8, _), (9, _), (33, _)] z7 ?_
   rcases brk H with ⟨hc, H⟩ | ⟨hc, H⟩
   ·refine HQ.condT rfl hc ?_
    clear hc
    refine HQ.exit ?_
    refine HQ.thenE ?_
    refine HQ.blkE ?_
    refine HQ.thenN ?_
    refine HQ.regionQ ?_
    refine pu Pu.move z1 z3 ?_
    refine pu Pu.add z2 z3 ?_
    refine pu Pu.assign z1 z3 ?_
    refine HQ.done ?_
    refine HQ.keep [(1, _), (2, _), (6, _), (7, _), (8, _)] z5 ?_
    obtain rfl := Option.some.inj H
    exact HQ.next (a39, c40) z5 z4 rfl
   ·refine HQ.condF rfl hc ?_
    clear hc
    refine HQ.skipThen ?_
    refine HQ.rseq ?_
    refine pu Pu.move z1 z3 ?_
    refine pu Pu.move z1 z3 ?_
    obtain ⟨h76, H⟩ := asr H
    refine op [] [] (OT.indexB ul33 sz3 hb_2 h76) z2 trivial z4 (fun _ => rfl) fun _ => ?_
    refine op [] [] (OT.loadF sc3 hb_2 h76 rfl) z1 trivial z4 (fun _ => rfl) fun _ => ?_
    refine HQ.done ?_
    refine HQ.keep [(1, _), (2, _), (6, _), (7, _), (8, _), (9, _), (37, _)] z7 ?_
    refine HQ.block ?_
    refine HQ.rseq ?_
    refine pu Pu.eql z2 z3 ?_
    refine pu Pu.assign z1 z3 ?_
    refine HQ.done ?_
    refine HQ.keep [(1, _), (2, _), (6, _), (7, _), (8, _), (9, _), (37, _), (38, _)] z8 ?_
    rcases brk H with ⟨hc, H⟩ | ⟨hc, H⟩
    ·refine HQ.condT rfl hc ?_
     clear hc
     refine HQ.rseq ?_
     refine pu Pu.move z1 z3 ?_
     obtain ⟨t77, h78, H⟩ := bnd H
     refine HQ.opD [5, 3] [5, 14] [3] (OT.callM (us := [_, _]) (PreX := [Box b9 [vS a39 l38 c40, vS a7 t3.Wet c8, vI i41, .bool q42], OwnS kTCell a39 c40 l38]) (PreL := []) [.tmp 7, .tmp 40] Try.call93 rfl rfl fun w FX FL hs1 hF1 hs2 hF2 hp => spec_l18Room_c (p0 := (⟨l38, t3.Wet, i41, q42⟩ : TDisk)) (p1 := (gt t3.Wet i37).At) hs1 hF1 h78) z3 z2 rfl rfl rfl rfl (fun _ => rfl) fun ⟨a79, c80⟩ => ?_
     refine HQ.done ?_
     refine HQ.keep [(1, _), (2, _), (6, _), (7, _), (8, _), (9, _)] z6 ?_
     refine HQ.dStart mixd ?_
     obtain ⟨h82, H⟩ := asr H
     obtain ⟨h83, H⟩ := asr H
     refine HQ.dPart [(1, vS a_2 p1 c_2), (2, vI p2), (6, BP b2 0), (7, BP b9 0), (8, vI i37), (9, vI ((gt t3.Wet i37).At))] 10 [⟨[], [], []⟩, ⟨[0], [0], [0]⟩, ⟨[], [], []⟩, ⟨[], [], []⟩, ⟨[0], [0], [3]⟩, ⟨[], [], []⟩, ⟨[1], [1], [4, 5]⟩, ⟨[], [], [6]⟩, ⟨[1], [2, 3], [7]⟩, ⟨[], [], [8]⟩] [⟨none, none⟩, ⟨none, some 8⟩, ⟨some 8, none⟩, ⟨some 8, none⟩] (fun (g81 : (Option Addr × Nat)) => [BP b9 0, vS a79 t77.Cells c80, vI ((gt t3.Wet i37).At), BP b9 1, vS a7 t3.Wet c8, vI i37, EP a7 i37 2 0, EP a7 i37 2 1, vS g81.1 ((gt t3.Wet i37).B) g81.2, .agg #[.bool false, vS g81.1 ((gt t3.Wet i37).B) g81.2]]) (fun (g81 : (Option Addr × Nat)) => [Box b9 [vS a79 t77.Cells c80, vS a7 t3.Wet c8, vI t77.Fuse, .bool t77.Dead], RobS 2 encTWet hlTWet kU8 (fun x => x.B) a7 c8 t3.Wet i43, RobS 2 encTWet hlTWet kU8 (fun x => x.B) a7 c8 t3.Wet (i37 + 1), OwnS kU8 g81.1 g81.2 ((gt t3.Wet i37).B)]) (none, 0) [5, 4] [5, 4, 15] [] z6 z2 rfl (by kernel_rfl) (by kernel_rfl) (fun _ => rfl) (by kernel_rfl) (fun _ => rfl) rfl ⟨?_, ?_, ?_, ?_, ?_, ?_, ?_, ?_, ?_, ?_, trivial⟩ fun g81 => ?_
     ·exact OpOK2.pu (fun g81 => [(.tmp 7, BP b9 0)]) z2 (fun _ => z1) (fun _ => (Pu.fieldB fo27_0 rfl)) (fun _ => z1) (fun _ _ => z6)
     ·exact OpOK2.of (fun g81 => [(.tmp 42, BP b9 0)]) _ _ (fun g81 _ => g81) rfl rfl (fun _ => z1) (fun g81 => OT.loadB sc24 rfl) (fun _ _ => z6)
     ·exact OpOK2.pu (fun g81 => [(.tmp 9, vI ((gt t3.Wet i37).At))]) z2 (fun _ => z1) (fun _ => Pu.move) (fun _ => z1) (fun _ _ => z6)
     ·exact OpOK2.pu (fun g81 => [(.tmp 7, BP b9 0)]) z2 (fun _ => z1) (fun _ => (Pu.fieldB fo27_1 rfl)) (fun _ => z1) (fun _ _ => z6)
     ·exact OpOK2.of (fun g81 => [(.tmp 45, BP b9 1)]) _ _ (fun g81 _ => g81) rfl rfl (fun _ => z1) (fun g81 => OT.loadB sc25 rfl) (fun _ _ => z6)
     ·exact OpOK2.pu (fun g81 => [(.tmp 8, vI i37)]) z2 (fun _ => z1) (fun _ => Pu.move) (fun _ => z1) (fun _ _ => z6)
     ·exact OpOK2.of (fun g81 => [(.tmp 46, vS a7 t3.Wet c8), (.tmp 47, vI i37)]) _ _ (fun g81 _ => g81) rfl rfl (fun _ => z2) (fun g81 => OT.indexR ul25 sz110 h82) (fun _ _ => z6)
     ·exact OpOK2.pu (fun g81 => [(.tmp 48, EP a7 i37 2 0)]) z2 (fun _ => z1) (fun _ => (Pu.fieldE fo110_1 rfl)) (fun _ => z1) (fun _ _ => z6)
     ·exact OpOK2.ofD [9] (by kernel_rfl) (fun g81 => [(.tmp 49, EP a7 i37 2 1)]) _ _ (fun g81 x => x) rfl rfl (fun _ => z1) (fun g81 => OT.rob (v := fun pa pc => vS pa ((gt t3.Wet i37).B) pc) sc22 h82 h83 (fun _ _ => rfl)) (fun _ _ => ⟨⟨rfl, rfl, rfl, rfl, rfl, rfl, rfl, rfl, rfl, trivial, trivial⟩, rfl, z4⟩)
     ·exact OpOK2.pu (fun g81 => [(.tmp 50, vS g81.1 ((gt t3.Wet i37).B) g81.2)]) z2 (fun _ => z1) (fun g81 => (Pu.build (us := [vS g81.1 ((gt t3.Wet i37).B) g81.2]) (cs := [.bool false, vS g81.1 ((gt t3.Wet i37).B) g81.2]) [(1, .tmp 50)] st113 rfl rfl rfl)) (fun _ => z1) (fun _ _ => z6)
     refine HQ.keep [(1, _), (2, _), (6, _), (7, _), (8, _), (43, _), (44, _), (51, _)] z8 ?_
     refine HQ.keepR [(2, _), (5, _), (4, _), (14, _), (15, _)] z5 rfl ?_
     refine HQ.dRun 2 rfl rfl (by kernel_rfl) (by kernel_rfl) ?_
     obtain ⟨h86, H⟩ := asr H
     refine op [14] [14] (OT.indexO ul24 sz113 h86) z2 z1 z4 (fun _ => rfl) fun _ => ?_
     refine HQ.opN [14, 15] [14] [15] (OT.storeW (⟨false, (gt t3.Wet i37).B⟩ : TCell) sz113 rfl rfl rfl h86 rfl (fun _ => rfl) rfl) z2 z2 rfl rfl rfl (fun _ => rfl) fun _ => ?_
     obtain ⟨l87, h88, H⟩ := bnd H
     replace h88 := Option.some.inj h88
     refine HQ.reR (B := OwnS kTCell a79 c80 l87) 14 rfl (by intro _ _ hb; rw [← h88]; exact hb) ?_
     have h89 : List.length l87 = List.length t77.Cells := by rw [← h88, List.length_set]
     refine HQ.re (v' := vS a79 l87 c80) 43 rfl (by simp [h89]) ?_
     refine HQ.reR (B := Box b9 [vS a79 l87 c80, vS a7 t3.Wet c8, vI t77.Fuse, .bool t77.Dead]) 5 rfl (fun _ _ hb => by simp only [vS]; rw [show List.length l87 = List.length t77.Cells from (by simp [h89])]; exact hb) ?_
     refine HQ.done ?_
     refine HQ.dEnd rfl ?_
     refine HQ.keep [(1, _), (2, _), (6, _), (7, _), (8, _)] z5 ?_
     refine HQ.blkN ?_
     refine HQ.blkN ?_
     refine HQ.thenN ?_
     refine HQ.regionQ ?_
     refine pu Pu.move z1 z3 ?_
     refine pu Pu.add z2 z3 ?_
     refine pu Pu.assign z1 z3 ?_
     refine HQ.done ?_
     refine HQ.keep [(1, _), (2, _), (6, _), (7, _), (8, _)] z5 ?_
     refine HQ.mv 3 14 rfl rfl ?_
     obtain rfl := Option.some.inj H
     exact HQ.next (a79, c80) z5 z4 rfl
    ·refine HQ.condF rfl hc ?_
     clear hc
     refine HQ.rseq ?_
     refine pu Pu.eql z2 z3 ?_
     refine pu Pu.assign z1 z3 ?_
     refine HQ.done ?_
     refine HQ.keep [(1, _), (2, _), (6, _), (7, _), (8, _), (9, _), (53, _)] z7 ?_
     rcases brk H with ⟨hc, H⟩ | ⟨hc, H⟩
     ·refine HQ.condT rfl hc ?_
      clear hc
      refine HQ.rseq ?_
      refine pu Pu.move z1 z3 ?_
      obtain ⟨t90, h91, H⟩ := bnd H
      refine HQ.opD [5, 3] [5, 16] [3] (OT.callM (us := [_, _]) (PreX := [Box b9 [vS a39 l38 c40, vS a7 t3.Wet c8, vI i41, .bool q42], OwnS kTCell a39 c40 l38]) (PreL := []) [.tmp 7, .tmp 55] Try.call93 rfl rfl fun w FX FL hs1 hF1 hs2 hF2 hp => spec_l18Room_c (p0 := (⟨l38, t3.Wet, i41, q42⟩ : TDisk)) (p1 := (gt t3.Wet i37).At) hs1 hF1 h91) z3 z2 rfl rfl rfl rfl (fun _ => rfl) fun ⟨a92, c93⟩ => ?_
      refine HQ.done ?_
      refine HQ.keep [(1, _), (2, _), (6, _), (7, _), (8, _), (9, _)] z6 ?_
      refine HQ.regionQ ?_
      refine pu (Pu.fieldB fo27_0 rfl) z1 z3 ?_
      refine op [5] [5] (OT.loadB sc24 rfl) z1 z1 z4 (fun _ => rfl) fun _ => ?_
      refine pu Pu.move z1 z3 ?_
      refine pu (Pu.build (us := [.bool true]) (cs := [.bool true, .slice none 0 0]) [(0, .const (.bool true))] st113 rfl rfl rfl) z1 z3 ?_
      obtain ⟨h94, H⟩ := asr H
      refine op [16] [16] (OT.indexO ul24 sz113 h94) z2 z1 z4 (fun _ => rfl) fun _ => ?_
      refine HQ.nil kU8 17 rfl ?_
      refine HQ.opN [16, 17] [16] [17] (OT.storeW (⟨true, ([] : (List Int))⟩ : TCell) sz113 rfl rfl rfl h94 rfl (fun _ => rfl) rfl) z2 z2 rfl rfl rfl (fun _ => rfl) fun _ => ?_
      obtain ⟨l95, h96, H⟩ := bnd H
      replace h96 := Option.some.inj h96
      refine HQ.reR (B := OwnS kTCell a92 c93 l95) 16 rfl (by intro _ _ hb; rw [← h96]; exact hb) ?_
      have h97 : List.length l95 = List.length t90.Cells := by rw [← h96, List.length_set]
      refine HQ.re (v' := vS a92 l95 c93) 58 rfl (by simp [h97]) ?_
      refine HQ.reR (B := Box b9 [vS a92 l95 c93, vS a7 t3.Wet c8, vI t90.Fuse, .bool t90.Dead]) 5 rfl (fun _ _ hb => by simp only [vS]; rw [show List.length l95 = List.length t90.Cells from (by simp [h97])]; exact hb) ?_
      refine HQ.done ?_
      refine HQ.keep [(1, _), (2, _), (6, _), (7, _), (8, _)] z5 ?_
      refine HQ.blkN ?_
      refine HQ.blkN ?_
      refine HQ.thenN ?_
      refine HQ.regionQ ?_
      refine pu Pu.move z1 z3 ?_
      refine pu Pu.add z2 z3 ?_
      refine pu Pu.assign z1 z3 ?_
      refine HQ.done ?_
      refine HQ.keep [(1, _), (2, _), (6, _), (7, _), (8, _)] z5 ?_
      refine HQ.mv 3 16 rfl rfl ?_
      obtain rfl := Option.some.inj H
      exact HQ.next (a92, c93) z5 z4 rfl
     ·refine HQ.condF rfl hc ?_
      clear hc
      refine HQ.skip ?_
      refine HQ.blkN ?_
      refine HQ.blkN ?_
      refine HQ.thenN ?_
      refine HQ.regionQ ?_
      refine pu Pu.move z1 z3 ?_
      refine pu Pu.add z2 z3 ?_
      refine pu Pu.assign z1 z3 ?_
      refine HQ.done ?_
      refine HQ.keep [(1, _), (2, _), (6, _), (7, _), (8, _)] z5 ?_
      obtain rfl := Option.some.inj H
      exact HQ.next (a39, c40) z5 z4 rfl
  ·refine HQ.condF rfl hc ?_
   clear hc
   refine HQ.exit ?_
   refine HQ.thenE ?_
   obtain rfl := Option.some.inj H
   exact HQ.out (a39, c40) z5 z4 rfl
 ·rintro ⟨i99, l100, i103, q104, i105⟩ rfl ⟨a101, c102⟩
  clear h110
  replace H := H
  refine HQ.keep [(1, _), (2, _), (6, _), (7, _), (8, _)] z5 ?_
  refine HQ.keepR [(2, _), (5, _), (3, _), (4, _)] z4 rfl ?_
  refine HQ.blkE ?_
  refine HQ.thenN ?_
  refine HQ.rseq ?_
  refine op [] [18] (OT.buildE (K := kTWet) sl25.ul sl25.szE sl25.zc rfl rfl) trivial trivial z4 (fun _ => rfl) fun ⟨a106, c107⟩ => ?_
  refine pu (Pu.fieldB fo27_1 rfl) z1 z3 ?_
  refine HQ.opN [5] [5] [] (OT.storeC (cs' := [vS a101 l100 c102, vS a106 ([] : (List TWet)) c107, vI i103, .bool q104]) sz25 rfl rfl rfl rfl rfl) z2 z1 rfl rfl rfl (fun _ => rfl) fun _ => ?_
  refine HQ.done ?_
  refine HQ.keep [(2, _), (6, _), (7, _)] z3 ?_
  refine HQ.rseq ?_
  refine pu (Pu.fieldB fo27_3 rfl) z1 z3 ?_
  refine HQ.opN [5] [5] [] (OT.storeC (cs' := [vS a101 l100 c102, vS a106 ([] : (List TWet)) c107, vI i103, .bool false]) sz4 rfl rfl rfl rfl rfl) z2 z1 rfl rfl rfl (fun _ => rfl) fun _ => ?_
  refine HQ.done ?_
  refine HQ.keep [(2, _), (6, _), (7, _)] z3 ?_
  refine HQ.rseq ?_
  refine pu Pu.move z1 z3 ?_
  obtain ⟨t108, h109, H⟩ := bnd H
  refine op [] [] (OT.call (us := [_, _]) (Pre := []) [.const (vI (-1)), .tmp 65] Try.call94 rfl rfl fun w F hs hF hp => spec_Most_c h109) z3 trivial z4 (fun _ => rfl) fun _ => ?_
  refine pu (Pu.fieldB fo27_2 rfl) z1 z3 ?_
  refine HQ.opN [5] [5] [] (OT.storeC (cs' := [vS a101 l100 c102, vS a106 ([] : (List TWet)) c107, vI t108, .bool false]) sz3 rfl rfl rfl rfl rfl) z2 z1 rfl rfl rfl (fun _ => rfl) fun _ => ?_
  refine HQ.done ?_
  refine HQ.keep [(6, _), (7, _)] z2 ?_
  refine HQ.rseq ?_
  refine op [5] [5] (OT.loadBA (vs := [vS a101 l100 c102, vS a106 ([] : (List TWet)) c107, vI t108, .bool false]) ag27 sz27 rfl rfl) z1 z1 z4 (fun _ => rfl) fun _ => ?_
  refine HQ.opN [2] [2] [] (OT.storeC (cs' := [vS a101 l100 c102, vS a106 ([] : (List TWet)) c107, vI t108, .bool false]) sz27 rfl rfl rfl rfl rfl) z2 z1 rfl rfl rfl (fun _ => rfl) fun _ => ?_
  refine HQ.done ?_
  refine HQ.keep [(6, _)] z1 ?_
  refine HQ.ret ?_
  obtain rfl := Option.some.inj H
  exact HQ.fin (vs := [_]) Try.results22 ((a101, c102), (a106, c107)) ⟨⟨_, _, 2, rfl, rfl, ag27, sz27, rfl⟩, trivial⟩ rfl [3, 18] z2 rfl
 ·exact fun r h a w hf => hf.elim

theorem spec_l19Change_c {w : World} {k : Nat} {p0 : TCur} {β_0 : Nat} {a_0 : Option Addr} {c_0 : Nat} {F0 : Fp} (hs0 : Sat [Box β_0 [vS a_0 p0.b c_0, vI p0.i, vI p0.h]] w.heap F0) (hF0 : ∀ b, F0 b → b < w.heap.size) (hb_0 : BorS kU8 a_0 c_0 p0.b w.heap (Lt w F0)) {r : TChange × TCur} (H : spec_l19Change k p0 = some r) :
  Calls Try.prog 96 #[BP β_0 0] w (Rt w F0 (fun g : Option Addr × Nat => .agg #[vI r.1.Page, .bool r.1.N.Leaf, vS g.1 r.1.N.L g.2]) (fun g => [OwnS kTEntry g.1 g.2 r.1.N.L, Box β_0 [vS a_0 p0.b c_0, vI r.2.i, vI r.2.h]])) := by
 rw [spec_l19Change] at H
 refine Calls.enter (N := 23) (us := [_]) (F0 := F0) (Γ0 := [(1, Box β_0 [vS a_0 p0.b c_0, vI p0.i, vI p0.h])]) Try.func96 rfl rfl rfl hs0 hF0 ?_
 refine HQ.rseq ?_
 refine op [] [2] (OT.alloc zc49) trivial trivial z4 (fun _ => rfl) fun b1 => ?_
 refine HQ.done ?_
 refine HQ.keep [(0, _), (2, _)] z2 ?_
 refine HQ.rseq ?_
 refine pu Pu.move z1 z3 ?_
 obtain ⟨t2, h3, H⟩ := bnd H
 refine op [1] [1] (OT.callM (us := [_, _]) (PreX := [Box β_0 [vS a_0 p0.b c_0, vI p0.i, vI p0.h]]) (PreL := []) [.tmp 4, .const (vI 48)] Try.call86 rfl rfl fun w FX FL hs1 hF1 hs2 hF2 hp => spec_l1Below_c (p0 := p0) (p1 := 48) hs1 hF1 (hb_0.passY hp) h3) z3 z1 z4 (fun _ => rfl) fun _ => ?_
 refine pu Pu.move z1 z3 ?_
 obtain ⟨t4, h5, H⟩ := bnd H
 refine op [1] [3, 1] (OT.callM (us := [_]) (PreX := [Box β_0 [vS a_0 p0.b c_0, vI t2.2.i, vI t2.2.h]]) (PreL := []) [.tmp 6] Try.call124 rfl rfl fun w FX FL hs1 hF1 hs2 hF2 hp => spec_l5Draw_c (p0 := (⟨p0.b, t2.2.i, t2.2.h⟩ : TCur)) hs1 hF1 (hb_0.passY hp) h5) z2 z1 z4 (fun _ => rfl) fun ⟨a6, c7⟩ => ?_
 refine pu (Pu.build (us := [vI t2.1, .agg #[.bool t4.1.Leaf, vS a6 t4.1.L c7]]) (cs := [vI t2.1, .bool t4.1.Leaf, vS a6 t4.1.L c7]) [(0, .tmp 5), (1, .tmp 7)] st49 rfl rfl rfl) z2 z3 ?_
 refine op [] [4] (OT.alloc zc49) trivial trivial z4 (fun _ => rfl) fun b8 => ?_
 refine HQ.opN [4] [4] [] (OT.storeC (cs' := [vI t2.1, .bool t4.1.Leaf, vS a6 t4.1.L c7]) sz49 rfl rfl rfl rfl rfl) z2 z1 rfl rfl rfl (fun _ => rfl) fun _ => ?_
 refine HQ.done ?_
 refine HQ.keep [(0, _), (2, _), (3, _)] z3 ?_
 refine HQ.seq ?_
 refine HQ.rseq ?_
 refine pu Pu.move z1 z3 ?_
 obtain ⟨t9, h10, H⟩ := bnd H
 refine op [1] [1] (OT.callM (us := [_, _]) (PreX := [Box β_0 [vS a_0 p0.b c_0, vI t4.2.i, vI t4.2.h]]) (PreL := []) [.tmp 9, .const (vI 8)] Try.call86 rfl rfl fun w FX FL hs1 hF1 hs2 hF2 hp => spec_l1Below_c (p0 := (⟨p0.b, t4.2.i, t4.2.h⟩ : TCur)) (p1 := 8) hs1 hF1 (hb_0.passY hp) h10) z3 z1 z4 (fun _ => rfl) fun _ => ?_
 refine HQ.done ?_
 refine HQ.keep [(0, _), (2, _), (3, _), (10, _)] z4 ?_
 refine HQ.block ?_
 refine HQ.rseq ?_
 refine pu Pu.eql z2 z3 ?_
 refine pu Pu.assign z1 z3 ?_
 refine HQ.done ?_
 refine HQ.keep [(0, _), (2, _), (3, _), (10, _), (11, _)] z5 ?_
 rcases brk H with ⟨hc, H⟩ | ⟨hc, H⟩
 ·refine HQ.condT rfl hc ?_
  clear hc
  refine HQ.regionQ ?_
  refine pu Pu.move z1 z3 ?_
  refine op [] [5] (OT.buildF (us := [vI (-1), vI 47, vI 48, vI 255]) (ys := ([(-1), 47, 48, 255] : (List Int))) (enc := (encI .i64)) (hl := fun _ => ⟨rfl, rfl⟩) [.const (vI (-1)), .const (vI 47), .const (vI 48), .const (vI 255)] sl33.ul sl33.szE sl33.zc rfl rfl rfl rfl rfl) z4 trivial z4 (fun _ => rfl) fun ⟨a11, c12⟩ => ?_
  obtain ⟨t13, h14, H⟩ := bnd H
  refine op [1, 5] [1, 5] (OT.callM (us := [_, _]) (PreX := [Box β_0 [vS a_0 p0.b c_0, vI t9.2.i, vI t9.2.h]]) (PreL := [OwnS kI a11 c12 ([(-1), 47, 48, 255] : (List Int))]) [.tmp 13, .tmp 14] Try.call79 rfl rfl fun w FX FL hs1 hF1 hs2 hF2 hp => spec_l1Int_c (p0 := (⟨p0.b, t9.2.i, t9.2.h⟩ : TCur)) (p1 := ([(-1), 47, 48, 255] : (List Int))) hs1 hF1 (hb_0.passY hp) (hs2.lendY hF2 0 rfl) h14) z3 z2 z4 (fun _ => rfl) fun _ => ?_
  refine pu (Pu.fieldB fo49_0 rfl) z1 z3 ?_
  refine HQ.opN [4] [4] [] (OT.storeC (cs' := [vI t13.1, .bool t4.1.Leaf, vS a6 t4.1.L c7]) sz3 rfl rfl rfl rfl rfl) z2 z1 rfl rfl rfl (fun _ => rfl) fun _ => ?_
  refine HQ.done ?_
  refine HQ.keep [(2, _), (3, _)] z2 ?_
  refine HQ.blkN ?_
  refine HQ.thenN ?_
  refine HQ.rseq ?_
  refine op [4] [4] (OT.loadBA (vs := [vI t13.1, .bool t4.1.Leaf, vS a6 t4.1.L c7]) ag49 sz49 rfl rfl) z1 z1 z4 (fun _ => rfl) fun _ => ?_
  refine HQ.opN [2] [2] [] (OT.storeC (cs' := [vI t13.1, .bool t4.1.Leaf, vS a6 t4.1.L c7]) sz49 rfl rfl rfl rfl rfl) z2 z1 rfl rfl rfl (fun _ => rfl) fun _ => ?_
  refine HQ.done ?_
  refine HQ.keep [(2, _)] z1 ?_
  refine HQ.ret ?_
  obtain rfl := Option.some.inj H
  exact HQ.fin (vs := [_]) Try.results96 (a6, c7) ⟨⟨_, _, 2, rfl, rfl, ag49, sz49, rfl⟩, trivial⟩ rfl [3, 1] z2 rfl
 ·refine HQ.condF rfl hc ?_
  clear hc
  refine HQ.rseq ?_
  refine pu Pu.eql z2 z3 ?_
  refine pu Pu.assign z1 z3 ?_
  refine HQ.done ?_
  refine HQ.keep [(0, _), (2, _), (3, _), (17, _)] z4 ?_
  rcases brk H with ⟨hc, H⟩ | ⟨hc, H⟩
  ·refine HQ.condT rfl hc ?_
   clear hc
   refine HQ.regionQ ?_
   refine pu Pu.move z1 z3 ?_
   obtain ⟨t15, h16, H⟩ := bnd H
   refine op [1] [6, 1] (OT.callM (us := [_]) (PreX := [Box β_0 [vS a_0 p0.b c_0, vI t9.2.i, vI t9.2.h]]) (PreL := []) [.tmp 19] Try.call125 rfl rfl fun w FX FL hs1 hF1 hs2 hF2 hp => spec_l5Any_c (p0 := (⟨p0.b, t9.2.i, t9.2.h⟩ : TCur)) hs1 hF1 (hb_0.passY hp) h16) z2 z1 z4 (fun _ => rfl) fun ⟨a17, c18⟩ => ?_
   refine pu (Pu.fieldB fo49_1 rfl) z1 z3 ?_
   refine HQ.opN [4] [4] [] (OT.storeC (cs' := [vI t2.1, .bool t15.1.Leaf, vS a17 t15.1.L c18]) sz47 rfl rfl rfl rfl rfl) z2 z1 rfl rfl rfl (fun _ => rfl) fun _ => ?_
   refine HQ.done ?_
   refine HQ.keep [(2, _), (3, _)] z2 ?_
   refine HQ.blkN ?_
   refine HQ.thenN ?_
   refine HQ.rseq ?_
   refine op [4] [4] (OT.loadBA (vs := [vI t2.1, .bool t15.1.Leaf, vS a17 t15.1.L c18]) ag49 sz49 rfl rfl) z1 z1 z4 (fun _ => rfl) fun _ => ?_
   refine HQ.opN [2] [2] [] (OT.storeC (cs' := [vI t2.1, .bool t15.1.Leaf, vS a17 t15.1.L c18]) sz49 rfl rfl rfl rfl rfl) z2 z1 rfl rfl rfl (fun _ => rfl) fun _ => ?_
   refine HQ.done ?_
   refine HQ.keep [(2, _)] z1 ?_
   refine HQ.ret ?_
   obtain rfl := Option.some.inj H
   exact HQ.fin (vs := [_]) Try.results96 (a17, c18) ⟨⟨_, _, 2, rfl, rfl, ag49, sz49, rfl⟩, trivial⟩ rfl [6, 1] z2 rfl
  ·refine HQ.condF rfl hc ?_
   clear hc
   refine HQ.skip ?_
   refine HQ.blkN ?_
   refine HQ.thenN ?_
   refine HQ.rseq ?_
   refine op [4] [4] (OT.loadBA (vs := [vI t2.1, .bool t4.1.Leaf, vS a6 t4.1.L c7]) ag49 sz49 rfl rfl) z1 z1 z4 (fun _ => rfl) fun _ => ?_
   refine HQ.opN [2] [2] [] (OT.storeC (cs' := [vI t2.1, .bool t4.1.Leaf, vS a6 t4.1.L c7]) sz49 rfl rfl rfl rfl rfl) z2 z1 rfl rfl rfl (fun _ => rfl) fun _ => ?_
   refine HQ.done ?_
   refine HQ.keep [(2, _)] z1 ?_
   refine HQ.ret ?_
   obtain rfl := Option.some.inj H
   exact HQ.fin (vs := [_]) Try.results96 (a6, c7) ⟨⟨_, _, 2, rfl, rfl, ag49, sz49, rfl⟩, trivial⟩ rfl [3, 1] z2 rfl

theorem spec_DrawReadLog_c {w : World} {k : Nat} {p0 : (List Int)} {a_0 : Option Addr} {c_0 : Nat} (hb_0 : BorS kU8 a_0 c_0 p0 w.heap (Lt w Nil)) {r : TDisk × Int × Int} (H : spec_DrawReadLog k p0 = some r) :
  Calls Try.prog 70 #[vS a_0 p0 c_0] w (Rt w Nil (fun g : (Option Addr × Nat) × (Option Addr × Nat) => .tuple #[.agg #[vS g.1.1 r.1.Cells g.1.2, vS g.2.1 r.1.Wet g.2.2, vI r.1.Fuse, .bool r.1.Dead], vI r.2.1, vI r.2.2]) (fun g => [OwnS kTCell g.1.1 g.1.2 r.1.Cells, OwnS kTWet g.2.1 g.2.2 r.1.Wet])) := by
 rw [spec_DrawReadLog] at H
 refine Calls.enter0 (N := 43) (us := [_]) Try.func70 rfl rfl rfl ?_
 refine HQ.rseq ?_
 refine op [] [1] (OT.alloc zc27) trivial trivial z4 (fun _ => rfl) fun b1 => ?_
 refine pu Pu.assign z1 z3 ?_
 refine pu Pu.assign z1 z3 ?_
 refine HQ.done ?_
 refine HQ.keep [(0, _), (2, _), (3, _), (4, _)] z4 ?_
 refine HQ.rseq ?_
 refine pu Pu.move z1 z3 ?_
 obtain ⟨t2, h3, H⟩ := bnd H
 refine op [] [2] (OT.call (us := [_]) (Pre := []) [.tmp 8] Try.call77 rfl rfl fun w F hs hF hp => spec_l1New_c (hb_0.pass hp) h3) z2 trivial z4 (fun _ => rfl) fun b4 => ?_
 refine pu Pu.assign z1 z3 ?_
 refine HQ.done ?_
 refine HQ.keep [(2, _), (3, _), (4, _), (5, _)] z4 ?_
 refine HQ.rseq ?_
 refine pu Pu.move z1 z3 ?_
 obtain ⟨t5, h6, H⟩ := bnd H
 refine op [2] [3, 4, 5, 2] (OT.callM (us := [_, _]) (PreX := [Box b4 [vS a_0 p0 c_0, vI t2.i, vI t2.h]]) (PreL := []) [.tmp 11, .const (vI 6)] Try.call117 rfl rfl fun w FX FL hs1 hF1 hs2 hF2 hp => spec_l20Disk_c (p0 := (⟨p0, t2.i, t2.h⟩ : TCur)) (p1 := 6) hs1 hF1 (hb_0.passY hp) h6) z3 z1 z4 (fun _ => rfl) fun ⟨⟨a7, c8⟩, ⟨a9, c10⟩, ⟨a11, c12⟩⟩ => ?_
 refine pu Pu.move z1 z3 ?_
 refine pu (Pu.extract rfl) z1 z3 ?_
 refine pu (Pu.extract rfl) z1 z3 ?_
 refine op [] [6] (OT.alloc zc27) trivial trivial z4 (fun _ => rfl) fun b13 => ?_
 refine HQ.opN [6] [6] [] (OT.storeC (cs' := [vS a7 t5.1.Cells c8, vS a9 t5.1.Wet c10, vI t5.1.Fuse, .bool t5.1.Dead]) sz27 rfl rfl rfl rfl rfl) z2 z1 rfl rfl rfl (fun _ => rfl) fun _ => ?_
 refine pu Pu.assign z1 z3 ?_
 refine HQ.done ?_
 refine HQ.keep [(2, _), (3, _), (4, _), (5, _), (6, _)] z5 ?_
 refine HQ.seq ?_
 refine HQ.rseq ?_
 refine pu Pu.move z1 z3 ?_
 obtain ⟨t14, h15, H⟩ := bnd H
 refine op [2] [2] (OT.callM (us := [_, _]) (PreX := [Box b4 [vS a_0 p0 c_0, vI t5.2.2.i, vI t5.2.2.h]]) (PreL := []) [.tmp 15, .const (vI 4)] Try.call86 rfl rfl fun w FX FL hs1 hF1 hs2 hF2 hp => spec_l1Below_c (p0 := (⟨p0, t5.2.2.i, t5.2.2.h⟩ : TCur)) (p1 := 4) hs1 hF1 (hb_0.passY hp) h15) z3 z1 z4 (fun _ => rfl) fun _ => ?_
 refine HQ.done ?_
 refine HQ.keep [(2, _), (3, _), (4, _), (5, _), (6, _), (16, _)] z6 ?_
 refine HQ.block ?_
 refine HQ.rseq ?_
 refine pu Pu.eql z2 z3 ?_
 refine pu Pu.assign z1 z3 ?_
 refine HQ.done ?_
 refine HQ.keep [(2, _), (3, _), (4, _), (5, _), (6, _), (16, _), (17, _)] z7 ?_
 rcases brk H with ⟨hc, H⟩ | ⟨hc, H⟩
 ·refine HQ.condT rfl hc ?_
  clear hc
  obtain ⟨t17, h18, H⟩ := bnd H
  refine HQ.draw mixd [(2, BP b1 0), (3, vI 0), (4, vI 0), (5, BP b4 0), (6, BP b13 0)] 3 [⟨[0], [0], []⟩, ⟨[], [], []⟩, ⟨[1], [2, 3], [1]⟩] [⟨none, none⟩, ⟨none, some 2⟩, ⟨some 2, none⟩, ⟨some 2, none⟩] (fun (g16 : (Option Addr × Nat)) => [.agg #[vS a7 t5.1.Cells c8, vS a9 t5.1.Wet c10, vI t5.1.Fuse, .bool t5.1.Dead], BP b4 0, vS g16.1 t17.1 g16.2]) (fun (g16 : (Option Addr × Nat)) => [Box b13 [vS a7 t5.1.Cells c8, vS a9 t5.1.Wet c10, vI t5.1.Fuse, .bool t5.1.Dead], Box b4 [vS a_0 p0 c_0, vI t14.2.i, vI t14.2.h], OwnS kI g16.1 g16.2 t17.1, Box b4 [vS a_0 p0 c_0, vI t17.2.i, vI t17.2.h]]) (none, 0) [6, 2] [6, 7, 2] [] z5 z2 rfl (by kernel_rfl) (fun _ => rfl) (by kernel_rfl) (fun _ => rfl) ⟨?_, ?_, ?_, trivial⟩ fun g16 => ?_
  ·exact OpOK.of (fun g16 => [(.tmp 6, BP b13 0)]) _ _ (fun g16 _ => g16) rfl rfl (fun _ => z1) (fun g16 => OT.loadBA (vs := [vS a7 t5.1.Cells c8, vS a9 t5.1.Wet c10, vI t5.1.Fuse, .bool t5.1.Dead]) ag27 sz27 rfl rfl) (fun _ _ => z6)
  ·exact OpOK.pu (fun g16 => [(.tmp 5, BP b4 0)]) z2 (fun _ => z1) (fun _ => Pu.move) (fun _ => z1) (fun _ _ => z6)
  ·exact OpOK.of (fun g16 => [(.func 85, .func (.func 85) #[] #[]), (.tmp 20, BP b4 0), (.const (vI 40), vI 40)]) _ _ (fun g16 x => x) rfl rfl (fun _ => z3) (fun g16 => OT.callM (us := [_, _]) (PreX := [Box b4 [vS a_0 p0 c_0, vI t14.2.i, vI t14.2.h]]) (PreL := []) [.tmp 20, .const (vI 40)] Try.call85 rfl rfl fun w FX FL hs1 hF1 hs2 hF2 hp => spec_l18How_c (p0 := (⟨p0, t14.2.i, t14.2.h⟩ : TCur)) (p1 := 40) hs1 hF1 (hb_0.passY hp) h18) (fun _ _ => z6)
  refine HQ.keep [(2, _), (3, _), (4, _), (5, _), (6, _), (19, _), (21, _)] z7 ?_
  refine HQ.keepR [(1, _), (2, _), (3, _), (4, _), (5, _), (6, _), (7, _)] z7 rfl ?_
  obtain ⟨t21, h22, H⟩ := bnd H
  refine op [3, 4, 7] [8, 9, 3, 4, 7] (OT.call (us := [_, _, _]) (Pre := [OwnS kTCell a7 c8 t5.1.Cells, OwnS kTWet a9 c10 t5.1.Wet, OwnS kI g16.1 g16.2 t17.1]) [.tmp 19, .tmp 21, .const (vI (-1))] Try.call22 rfl rfl fun w F hs hF hp => spec_Crash_c (hs.lend hF 0 rfl) (hs.lend hF 1 rfl) (hs.lend hF 2 rfl) h22) z4 z3 z4 (fun _ => rfl) fun ⟨⟨a23, c24⟩, ⟨a25, c26⟩⟩ => ?_
  refine HQ.opN [6] [6] [] (OT.storeC (cs' := [vS a23 t21.Cells c24, vS a25 t21.Wet c26, vI t21.Fuse, .bool t21.Dead]) sz27 rfl rfl rfl rfl rfl) z2 z1 rfl rfl rfl (fun _ => rfl) fun _ => ?_
  refine HQ.done ?_
  refine HQ.keep [(2, _), (3, _), (4, _), (5, _), (6, _)] z5 ?_
  refine HQ.blkN ?_
  refine HQ.thenN ?_
  obtain ⟨t30, h31, H⟩ := bnd H
  obtain ⟨t34, h35, H⟩ := bnd H
  refine HQ.drawS mixd [(2, BP b1 0), (3, vI 0), (4, vI 0), (5, BP b4 0), (6, BP b13 0)] 7 [⟨[0], [0], []⟩, ⟨[], [], []⟩, ⟨[], [1], []⟩, ⟨[2, 1], [3, 1], [1, 2]⟩, ⟨[], [], []⟩, ⟨[], [4], []⟩, ⟨[3, 4], [5, 4], [4, 5]⟩] [⟨none, none⟩, ⟨some 2, none⟩, ⟨none, some 3⟩, ⟨some 3, some 6⟩, ⟨some 5, none⟩, ⟨some 6, none⟩] (fun (g27 : (Option Addr × Nat) × (Option Addr × Nat)) => [.agg #[vS a23 t21.Cells c24, vS a25 t21.Wet c26, vI t21.Fuse, .bool t21.Dead], BP b4 0, vS g27.1.1 ([2, 2, 2, 2, 1] : (List Int)) g27.1.2, vI t30.1, BP b4 0, vS g27.2.1 ([4, 4, 4, 4, 3, 5] : (List Int)) g27.2.2, vI t34.1]) (fun (g27 : (Option Addr × Nat) × (Option Addr × Nat)) => [Box b13 [vS a23 t21.Cells c24, vS a25 t21.Wet c26, vI t21.Fuse, .bool t21.Dead], OwnS kI g27.1.1 g27.1.2 ([2, 2, 2, 2, 1] : (List Int)), Box b4 [vS a_0 p0 c_0, vI t17.2.i, vI t17.2.h], Box b4 [vS a_0 p0 c_0, vI t30.2.i, vI t30.2.h], OwnS kI g27.2.1 g27.2.2 ([4, 4, 4, 4, 3, 5] : (List Int)), Box b4 [vS a_0 p0 c_0, vI t34.2.i, vI t34.2.h]]) ((none, 0), (none, 0)) [6, 2] [6, 10, 11, 2] [] z5 z2 rfl (by kernel_rfl) (fun _ => rfl) (by kernel_rfl) (fun _ => rfl) ⟨?_, ?_, ?_, ?_, ?_, ?_, ?_, trivial⟩ fun g27 => ?_
  ·exact OpOK.of (fun g27 => [(.tmp 6, BP b13 0)]) _ _ (fun g27 _ => g27) rfl rfl (fun _ => z1) (fun g27 => OT.loadBA (vs := [vS a23 t21.Cells c24, vS a25 t21.Wet c26, vI t21.Fuse, .bool t21.Dead]) ag27 sz27 rfl rfl) (fun _ _ => z8)
  ·exact OpOK.pu (fun g27 => [(.tmp 5, BP b4 0)]) z2 (fun _ => z1) (fun _ => Pu.move) (fun _ => z1) (fun _ _ => z8)
  ·exact OpOK.of (fun g27 => [(.const (vI 2), vI 2), (.const (vI 2), vI 2), (.const (vI 2), vI 2), (.const (vI 2), vI 2), (.const (vI 1), vI 1)]) _ _ (fun g27 x => (x, g27.2)) rfl rfl (fun _ => z5) (fun g27 => OT.buildF (us := [vI 2, vI 2, vI 2, vI 2, vI 1]) (ys := ([2, 2, 2, 2, 1] : (List Int))) (enc := (encI .i64)) (hl := fun _ => ⟨rfl, rfl⟩) [.const (vI 2), .const (vI 2), .const (vI 2), .const (vI 2), .const (vI 1)] sl33.ul sl33.szE sl33.zc rfl rfl rfl rfl rfl) (fun _ _ => z8)
  ·exact OpOK.of (fun g27 => [(.func 79, .func (.func 79) #[] #[]), (.tmp 37, BP b4 0), (.tmp 38, vS g27.1.1 ([2, 2, 2, 2, 1] : (List Int)) g27.1.2)]) _ _ (fun g27 _ => g27) rfl rfl (fun _ => z3) (fun g27 => OT.callM (us := [_, _]) (PreX := [Box b4 [vS a_0 p0 c_0, vI t17.2.i, vI t17.2.h]]) (PreL := [OwnS kI g27.1.1 g27.1.2 ([2, 2, 2, 2, 1] : (List Int))]) [.tmp 37, .tmp 38] Try.call79 rfl rfl fun w FX FL hs1 hF1 hs2 hF2 hp => spec_l1Int_c (p0 := (⟨p0, t17.2.i, t17.2.h⟩ : TCur)) (p1 := ([2, 2, 2, 2, 1] : (List Int))) hs1 hF1 (hb_0.passY hp) (hs2.lendY hF2 0 rfl) h31) (fun _ _ => z8)
  ·exact OpOK.pu (fun g27 => [(.tmp 5, BP b4 0)]) z2 (fun _ => z1) (fun _ => Pu.move) (fun _ => z1) (fun _ _ => z8)
  ·exact OpOK.of (fun g27 => [(.const (vI 4), vI 4), (.const (vI 4), vI 4), (.const (vI 4), vI 4), (.const (vI 4), vI 4), (.const (vI 3), vI 3), (.const (vI 5), vI 5)]) _ _ (fun g27 x => (g27.1, x)) rfl rfl (fun _ => z6) (fun g27 => OT.buildF (us := [vI 4, vI 4, vI 4, vI 4, vI 3, vI 5]) (ys := ([4, 4, 4, 4, 3, 5] : (List Int))) (enc := (encI .i64)) (hl := fun _ => ⟨rfl, rfl⟩) [.const (vI 4), .const (vI 4), .const (vI 4), .const (vI 4), .const (vI 3), .const (vI 5)] sl33.ul sl33.szE sl33.zc rfl rfl rfl rfl rfl) (fun _ _ => z8)
  ·exact OpOK.of (fun g27 => [(.func 79, .func (.func 79) #[] #[]), (.tmp 40, BP b4 0), (.tmp 41, vS g27.2.1 ([4, 4, 4, 4, 3, 5] : (List Int)) g27.2.2)]) _ _ (fun g27 _ => g27) rfl rfl (fun _ => z3) (fun g27 => OT.callM (us := [_, _]) (PreX := [Box b4 [vS a_0 p0 c_0, vI t30.2.i, vI t30.2.h]]) (PreL := [OwnS kI g27.2.1 g27.2.2 ([4, 4, 4, 4, 3, 5] : (List Int))]) [.tmp 40, .tmp 41] Try.call79 rfl rfl fun w FX FL hs1 hF1 hs2 hF2 hp => spec_l1Int_c (p0 := (⟨p0, t30.2.i, t30.2.h⟩ : TCur)) (p1 := ([4, 4, 4, 4, 3, 5] : (List Int))) hs1 hF1 (hb_0.passY hp) (hs2.lendY hF2 0 rfl) h35) (fun _ _ => z8)
  refine HQ.keep [(2, _), (3, _), (4, _), (36, _), (39, _), (42, _)] z6 ?_
  refine HQ.keepR [(1, _), (2, _), (3, _), (4, _), (5, _), (6, _), (7, _), (8, _), (9, _), (10, _), (11, _)] z11 rfl ?_
  refine HQ.opN [1] [1] [] (OT.storeC (cs' := [vS a23 t21.Cells c24, vS a25 t21.Wet c26, vI t21.Fuse, .bool t21.Dead]) sz27 rfl rfl rfl rfl rfl) z2 z1 rfl rfl rfl (fun _ => rfl) fun _ => ?_
  refine pu Pu.assign z1 z3 ?_
  refine pu Pu.assign z1 z3 ?_
  refine HQ.done ?_
  refine HQ.keep [(2, _), (3, _), (4, _)] z3 ?_
  refine HQ.ret ?_
  obtain rfl := Option.some.inj H
  exact HQ.fin (vs := [_, _, _]) Try.results70 ((a23, c24), (a25, c26)) ⟨⟨_, _, 1, rfl, rfl, ag27, sz27, rfl⟩, rfl, rfl, trivial⟩ rfl [8, 9] z2 rfl
 ·refine HQ.condF rfl hc ?_
  clear hc
  refine HQ.rseq ?_
  refine pu Pu.eql z2 z3 ?_
  refine pu Pu.assign z1 z3 ?_
  refine HQ.done ?_
  refine HQ.keep [(2, _), (3, _), (4, _), (5, _), (6, _), (23, _)] z6 ?_
  rcases brk H with ⟨hc, H⟩ | ⟨hc, H⟩
  ·refine HQ.condT rfl hc ?_
   clear hc
   obtain ⟨t37, h38, H⟩ := bnd H
   obtain ⟨t41, h42, H⟩ := bnd H
   obtain ⟨t43, h44, H⟩ := bnd H
   obtain ⟨t47, h48, H⟩ := bnd H
   refine HQ.draw mixd [(2, BP b1 0), (3, vI 0), (4, vI 0), (5, BP b4 0), (6, BP b13 0)] 10 [⟨[0], [0], []⟩, ⟨[], [], []⟩, ⟨[1], [2], [1]⟩, ⟨[], [], [2]⟩, ⟨[], [], []⟩, ⟨[], [3], []⟩, ⟨[2, 3], [4, 3], [4, 5]⟩, ⟨[], [], []⟩, ⟨[4], [5, 6], [7]⟩, ⟨[5], [7, 5], [6, 8]⟩] [⟨none, none⟩, ⟨none, some 2⟩, ⟨some 2, some 6⟩, ⟨some 5, none⟩, ⟨some 6, some 8⟩, ⟨some 8, none⟩, ⟨some 8, none⟩, ⟨some 9, none⟩] (fun (g36 : (Option Addr × Nat) × (Option Addr × Nat) × (Option Addr × Nat)) => [.agg #[vS a7 t5.1.Cells c8, vS a9 t5.1.Wet c10, vI t5.1.Fuse, .bool t5.1.Dead], BP b4 0, vI t37.1, vI (wrap64 (2 + t37.1)), BP b4 0, vS g36.1.1 ([1, 2] : (List Int)) g36.1.2, vI t41.1, BP b4 0, .agg #[vI t43.1.Page, .bool t43.1.N.Leaf, vS g36.2.1.1 t43.1.N.L g36.2.1.2], vS g36.2.2.1 t47 g36.2.2.2]) (fun (g36 : (Option Addr × Nat) × (Option Addr × Nat) × (Option Addr × Nat)) => [Box b13 [vS a7 t5.1.Cells c8, vS a9 t5.1.Wet c10, vI t5.1.Fuse, .bool t5.1.Dead], Box b4 [vS a_0 p0 c_0, vI t14.2.i, vI t14.2.h], Box b4 [vS a_0 p0 c_0, vI t37.2.i, vI t37.2.h], OwnS kI g36.1.1 g36.1.2 ([1, 2] : (List Int)), Box b4 [vS a_0 p0 c_0, vI t41.2.i, vI t41.2.h], OwnS kTEntry g36.2.1.1 g36.2.1.2 t43.1.N.L, Box b4 [vS a_0 p0 c_0, vI t43.2.i, vI t43.2.h], OwnS kU8 g36.2.2.1 g36.2.2.2 t47]) ((none, 0), (none, 0), (none, 0)) [6, 2] [6, 12, 13, 2, 14] [] z5 z2 rfl (by kernel_rfl) (fun _ => rfl) (by kernel_rfl) (fun _ => rfl) ⟨?_, ?_, ?_, ?_, ?_, ?_, ?_, ?_, ?_, ?_, trivial⟩ fun g36 => ?_
   ·exact OpOK.of (fun g36 => [(.tmp 6, BP b13 0)]) _ _ (fun g36 _ => g36) rfl rfl (fun _ => z1) (fun g36 => OT.loadBA (vs := [vS a7 t5.1.Cells c8, vS a9 t5.1.Wet c10, vI t5.1.Fuse, .bool t5.1.Dead]) ag27 sz27 rfl rfl) (fun _ _ => z10)
   ·exact OpOK.pu (fun g36 => [(.tmp 5, BP b4 0)]) z2 (fun _ => z1) (fun _ => Pu.move) (fun _ => z1) (fun _ _ => z10)
   ·exact OpOK.of (fun g36 => [(.func 86, .func (.func 86) #[] #[]), (.tmp 26, BP b4 0), (.const (vI 12), vI 12)]) _ _ (fun g36 _ => g36) rfl rfl (fun _ => z3) (fun g36 => OT.callM (us := [_, _]) (PreX := [Box b4 [vS a_0 p0 c_0, vI t14.2.i, vI t14.2.h]]) (PreL := []) [.tmp 26, .const (vI 12)] Try.call86 rfl rfl fun w FX FL hs1 hF1 hs2 hF2 hp => spec_l1Below_c (p0 := (⟨p0, t14.2.i, t14.2.h⟩ : TCur)) (p1 := 12) hs1 hF1 (hb_0.passY hp) h38) (fun _ _ => z10)
   ·exact OpOK.pu (fun g36 => [(.const (vI 2), vI 2), (.tmp 27, vI t37.1)]) z2 (fun _ => z2) (fun _ => Pu.add) (fun _ => z1) (fun _ _ => z10)
   ·exact OpOK.pu (fun g36 => [(.tmp 5, BP b4 0)]) z2 (fun _ => z1) (fun _ => Pu.move) (fun _ => z1) (fun _ _ => z10)
   ·exact OpOK.of (fun g36 => [(.const (vI 1), vI 1), (.const (vI 2), vI 2)]) _ _ (fun g36 x => (x, g36.2.1, g36.2.2)) rfl rfl (fun _ => z2) (fun g36 => OT.buildF (us := [vI 1, vI 2]) (ys := ([1, 2] : (List Int))) (enc := (encI .i64)) (hl := fun _ => ⟨rfl, rfl⟩) [.const (vI 1), .const (vI 2)] sl33.ul sl33.szE sl33.zc rfl rfl rfl rfl rfl) (fun _ _ => z10)
   ·exact OpOK.of (fun g36 => [(.func 79, .func (.func 79) #[] #[]), (.tmp 29, BP b4 0), (.tmp 30, vS g36.1.1 ([1, 2] : (List Int)) g36.1.2)]) _ _ (fun g36 _ => g36) rfl rfl (fun _ => z3) (fun g36 => OT.callM (us := [_, _]) (PreX := [Box b4 [vS a_0 p0 c_0, vI t37.2.i, vI t37.2.h]]) (PreL := [OwnS kI g36.1.1 g36.1.2 ([1, 2] : (List Int))]) [.tmp 29, .tmp 30] Try.call79 rfl rfl fun w FX FL hs1 hF1 hs2 hF2 hp => spec_l1Int_c (p0 := (⟨p0, t37.2.i, t37.2.h⟩ : TCur)) (p1 := ([1, 2] : (List Int))) hs1 hF1 (hb_0.passY hp) (hs2.lendY hF2 0 rfl) h42) (fun _ _ => z10)
   ·exact OpOK.pu (fun g36 => [(.tmp 5, BP b4 0)]) z2 (fun _ => z1) (fun _ => Pu.move) (fun _ => z1) (fun _ _ => z10)
   ·exact OpOK.of (fun g36 => [(.func 96, .func (.func 96) #[] #[]), (.tmp 32, BP b4 0)]) _ _ (fun g36 x => (g36.1, x, g36.2.2)) rfl rfl (fun _ => z2) (fun g36 => OT.callM (us := [_]) (PreX := [Box b4 [vS a_0 p0 c_0, vI t41.2.i, vI t41.2.h]]) (PreL := []) [.tmp 32] Try.call96 rfl rfl fun w FX FL hs1 hF1 hs2 hF2 hp => spec_l19Change_c (p0 := (⟨p0, t41.2.i, t41.2.h⟩ : TCur)) hs1 hF1 (hb_0.passY hp) h44) (fun _ _ => z10)
   ·exact OpOK.of (fun g36 => [(.func 33, .func (.func 33) #[] #[]), (.tmp 31, vI t41.1), (.tmp 33, .agg #[vI t43.1.Page, .bool t43.1.N.Leaf, vS g36.2.1.1 t43.1.N.L g36.2.1.2])]) _ _ (fun g36 x => (g36.1, g36.2.1, x)) rfl rfl (fun _ => z3) (fun g36 => OT.call (us := [_, _]) (Pre := [OwnS kTEntry g36.2.1.1 g36.2.1.2 t43.1.N.L]) [.tmp 31, .tmp 33] Try.call33 rfl rfl fun w F hs hF hp => spec_PutCell_c (hs.lend hF 0 rfl) h48) (fun _ _ => z10)
   refine HQ.keep [(2, _), (3, _), (4, _), (5, _), (6, _), (25, _), (28, _), (34, _)] z8 ?_
   refine HQ.keepR [(1, _), (2, _), (3, _), (4, _), (5, _), (6, _), (12, _), (13, _), (14, _)] z9 rfl ?_
   obtain ⟨t51, h52, H⟩ := bnd H
   refine op [3, 4, 14] [15, 16, 3, 4, 14] (OT.call (us := [_, _, _]) (Pre := [OwnS kTCell a7 c8 t5.1.Cells, OwnS kTWet a9 c10 t5.1.Wet, OwnS kU8 g36.2.2.1 g36.2.2.2 t47]) [.tmp 25, .tmp 28, .tmp 34] Try.call20 rfl rfl fun w F hs hF hp => spec_Write_c (hs.lend hF 0 rfl) (hs.lend hF 1 rfl) (hs.lend hF 2 rfl) h52) z4 z3 z4 (fun _ => rfl) fun ⟨⟨a53, c54⟩, ⟨a55, c56⟩⟩ => ?_
   refine HQ.opN [6] [6] [] (OT.storeC (cs' := [vS a53 t51.Cells c54, vS a55 t51.Wet c56, vI t51.Fuse, .bool t51.Dead]) sz27 rfl rfl rfl rfl rfl) z2 z1 rfl rfl rfl (fun _ => rfl) fun _ => ?_
   refine HQ.done ?_
   refine HQ.keep [(2, _), (3, _), (4, _), (5, _), (6, _)] z5 ?_
   refine HQ.blkN ?_
   refine HQ.thenN ?_
   obtain ⟨t60, h61, H⟩ := bnd H
   obtain ⟨t64, h65, H⟩ := bnd H
   refine HQ.drawS mixd [(2, BP b1 0), (3, vI 0), (4, vI 0), (5, BP b4 0), (6, BP b13 0)] 7 [⟨[0], [0], []⟩, ⟨[], [], []⟩, ⟨[], [1], []⟩, ⟨[2, 1], [3, 1], [1, 2]⟩, ⟨[], [], []⟩, ⟨[], [4], []⟩, ⟨[3, 4], [5, 4], [4, 5]⟩] [⟨none, none⟩, ⟨some 2, none⟩, ⟨none, some 3⟩, ⟨some 3, some 6⟩, ⟨some 5, none⟩, ⟨some 6, none⟩] (fun (g57 : (Option Addr × Nat) × (Option Addr × Nat)) => [.agg #[vS a53 t51.Cells c54, vS a55 t51.Wet c56, vI t51.Fuse, .bool t51.Dead], BP b4 0, vS g57.1.1 ([2, 2, 2, 2, 1] : (List Int)) g57.1.2, vI t60.1, BP b4 0, vS g57.2.1 ([4, 4, 4, 4, 3, 5] : (List Int)) g57.2.2, vI t64.1]) (fun (g57 : (Option Addr × Nat) × (Option Addr × Nat)) => [Box b13 [vS a53 t51.Cells c54, vS a55 t51.Wet c56, vI t51.Fuse, .bool t51.Dead], OwnS kI g57.1.1 g57.1.2 ([2, 2, 2, 2, 1] : (List Int)), Box b4 [vS a_0 p0 c_0, vI t43.2.i, vI t43.2.h], Box b4 [vS a_0 p0 c_0, vI t60.2.i, vI t60.2.h], OwnS kI g57.2.1 g57.2.2 ([4, 4, 4, 4, 3, 5] : (List Int)), Box b4 [vS a_0 p0 c_0, vI t64.2.i, vI t64.2.h]]) ((none, 0), (none, 0)) [6, 2] [6, 17, 18, 2] [] z5 z2 rfl (by kernel_rfl) (fun _ => rfl) (by kernel_rfl) (fun _ => rfl) ⟨?_, ?_, ?_, ?_, ?_, ?_, ?_, trivial⟩ fun g57 => ?_
   ·exact OpOK.of (fun g57 => [(.tmp 6, BP b13 0)]) _ _ (fun g57 _ => g57) rfl rfl (fun _ => z1) (fun g57 => OT.loadBA (vs := [vS a53 t51.Cells c54, vS a55 t51.Wet c56, vI t51.Fuse, .bool t51.Dead]) ag27 sz27 rfl rfl) (fun _ _ => z8)
   ·exact OpOK.pu (fun g57 => [(.tmp 5, BP b4 0)]) z2 (fun _ => z1) (fun _ => Pu.move) (fun _ => z1) (fun _ _ => z8)
   ·exact OpOK.of (fun g57 => [(.const (vI 2), vI 2), (.const (vI 2), vI 2), (.const (vI 2), vI 2), (.const (vI 2), vI 2), (.const (vI 1), vI 1)]) _ _ (fun g57 x => (x, g57.2)) rfl rfl (fun _ => z5) (fun g57 => OT.buildF (us := [vI 2, vI 2, vI 2, vI 2, vI 1]) (ys := ([2, 2, 2, 2, 1] : (List Int))) (enc := (encI .i64)) (hl := fun _ => ⟨rfl, rfl⟩) [.const (vI 2), .const (vI 2), .const (vI 2), .const (vI 2), .const (vI 1)] sl33.ul sl33.szE sl33.zc rfl rfl rfl rfl rfl) (fun _ _ => z8)
   ·exact OpOK.of (fun g57 => [(.func 79, .func (.func 79) #[] #[]), (.tmp 37, BP b4 0), (.tmp 38, vS g57.1.1 ([2, 2, 2, 2, 1] : (List Int)) g57.1.2)]) _ _ (fun g57 _ => g57) rfl rfl (fun _ => z3) (fun g57 => OT.callM (us := [_, _]) (PreX := [Box b4 [vS a_0 p0 c_0, vI t43.2.i, vI t43.2.h]]) (PreL := [OwnS kI g57.1.1 g57.1.2 ([2, 2, 2, 2, 1] : (List Int))]) [.tmp 37, .tmp 38] Try.call79 rfl rfl fun w FX FL hs1 hF1 hs2 hF2 hp => spec_l1Int_c (p0 := (⟨p0, t43.2.i, t43.2.h⟩ : TCur)) (p1 := ([2, 2, 2, 2, 1] : (List Int))) hs1 hF1 (hb_0.passY hp) (hs2.lendY hF2 0 rfl) h61) (fun _ _ => z8)
   ·exact OpOK.pu (fun g57 => [(.tmp 5, BP b4 0)]) z2 (fun _ => z1) (fun _ => Pu.move) (fun _ => z1) (fun _ _ => z8)
   ·exact OpOK.of (fun g57 => [(.const (vI 4), vI 4), (.const (vI 4), vI 4), (.const (vI 4), vI 4), (.const (vI 4), vI 4), (.const (vI 3), vI 3), (.const (vI 5), vI 5)]) _ _ (fun g57 x => (g57.1, x)) rfl rfl (fun _ => z6) (fun g57 => OT.buildF (us := [vI 4, vI 4, vI 4, vI 4, vI 3, vI 5]) (ys := ([4, 4, 4, 4, 3, 5] : (List Int))) (enc := (encI .i64)) (hl := fun _ => ⟨rfl, rfl⟩) [.const (vI 4), .const (vI 4), .const (vI 4), .const (vI 4), .const (vI 3), .const (vI 5)] sl33.ul sl33.szE sl33.zc rfl rfl rfl rfl rfl) (fun _ _ => z8)
   ·exact OpOK.of (fun g57 => [(.func 79, .func (.func 79) #[] #[]), (.tmp 40, BP b4 0), (.tmp 41, vS g57.2.1 ([4, 4, 4, 4, 3, 5] : (List Int)) g57.2.2)]) _ _ (fun g57 _ => g57) rfl rfl (fun _ => z3) (fun g57 => OT.callM (us := [_, _]) (PreX := [Box b4 [vS a_0 p0 c_0, vI t60.2.i, vI t60.2.h]]) (PreL := [OwnS kI g57.2.1 g57.2.2 ([4, 4, 4, 4, 3, 5] : (List Int))]) [.tmp 40, .tmp 41] Try.call79 rfl rfl fun w FX FL hs1 hF1 hs2 hF2 hp => spec_l1Int_c (p0 := (⟨p0, t60.2.i, t60.2.h⟩ : TCur)) (p1 := ([4, 4, 4, 4, 3, 5] : (List Int))) hs1 hF1 (hb_0.passY hp) (hs2.lendY hF2 0 rfl) h65) (fun _ _ => z8)
   refine HQ.keep [(2, _), (3, _), (4, _), (36, _), (39, _), (42, _)] z6 ?_
   refine HQ.keepR [(1, _), (2, _), (3, _), (4, _), (5, _), (6, _), (12, _), (13, _), (14, _), (15, _), (16, _), (17, _), (18, _)] z13 rfl ?_
   refine HQ.opN [1] [1] [] (OT.storeC (cs' := [vS a53 t51.Cells c54, vS a55 t51.Wet c56, vI t51.Fuse, .bool t51.Dead]) sz27 rfl rfl rfl rfl rfl) z2 z1 rfl rfl rfl (fun _ => rfl) fun _ => ?_
   refine pu Pu.assign z1 z3 ?_
   refine pu Pu.assign z1 z3 ?_
   refine HQ.done ?_
   refine HQ.keep [(2, _), (3, _), (4, _)] z3 ?_
   refine HQ.ret ?_
   obtain rfl := Option.some.inj H
   exact HQ.fin (vs := [_, _, _]) Try.results70 ((a53, c54), (a55, c56)) ⟨⟨_, _, 1, rfl, rfl, ag27, sz27, rfl⟩, rfl, rfl, trivial⟩ rfl [15, 16] z2 rfl
  ·refine HQ.condF rfl hc ?_
   clear hc
   refine HQ.skip ?_
   refine HQ.blkN ?_
   refine HQ.thenN ?_
   obtain ⟨t69, h70, H⟩ := bnd H
   obtain ⟨t73, h74, H⟩ := bnd H
   refine HQ.drawS mixd [(2, BP b1 0), (3, vI 0), (4, vI 0), (5, BP b4 0), (6, BP b13 0)] 7 [⟨[0], [0], []⟩, ⟨[], [], []⟩, ⟨[], [1], []⟩, ⟨[2, 1], [3, 1], [1, 2]⟩, ⟨[], [], []⟩, ⟨[], [4], []⟩, ⟨[3, 4], [5, 4], [4, 5]⟩] [⟨none, none⟩, ⟨some 2, none⟩, ⟨none, some 3⟩, ⟨some 3, some 6⟩, ⟨some 5, none⟩, ⟨some 6, none⟩] (fun (g66 : (Option Addr × Nat) × (Option Addr × Nat)) => [.agg #[vS a7 t5.1.Cells c8, vS a9 t5.1.Wet c10, vI t5.1.Fuse, .bool t5.1.Dead], BP b4 0, vS g66.1.1 ([2, 2, 2, 2, 1] : (List Int)) g66.1.2, vI t69.1, BP b4 0, vS g66.2.1 ([4, 4, 4, 4, 3, 5] : (List Int)) g66.2.2, vI t73.1]) (fun (g66 : (Option Addr × Nat) × (Option Addr × Nat)) => [Box b13 [vS a7 t5.1.Cells c8, vS a9 t5.1.Wet c10, vI t5.1.Fuse, .bool t5.1.Dead], OwnS kI g66.1.1 g66.1.2 ([2, 2, 2, 2, 1] : (List Int)), Box b4 [vS a_0 p0 c_0, vI t14.2.i, vI t14.2.h], Box b4 [vS a_0 p0 c_0, vI t69.2.i, vI t69.2.h], OwnS kI g66.2.1 g66.2.2 ([4, 4, 4, 4, 3, 5] : (List Int)), Box b4 [vS a_0 p0 c_0, vI t73.2.i, vI t73.2.h]]) ((none, 0), (none, 0)) [6, 2] [6, 19, 20, 2] [] z5 z2 rfl (by kernel_rfl) (fun _ => rfl) (by kernel_rfl) (fun _ => rfl) ⟨?_, ?_, ?_, ?_, ?_, ?_, ?_, trivial⟩ fun g66 => ?_
   ·exact OpOK.of (fun g66 => [(.tmp 6, BP b13 0)]) _ _ (fun g66 _ => g66) rfl rfl (fun _ => z1) (fun g66 => OT.loadBA (vs := [vS a7 t5.1.Cells c8, vS a9 t5.1.Wet c10, vI t5.1.Fuse, .bool t5.1.Dead]) ag27 sz27 rfl rfl) (fun _ _ => z8)
   ·exact OpOK.pu (fun g66 => [(.tmp 5, BP b4 0)]) z2 (fun _ => z1) (fun _ => Pu.move) (fun _ => z1) (fun _ _ => z8)
   ·exact OpOK.of (fun g66 => [(.const (vI 2), vI 2), (.const (vI 2), vI 2), (.const (vI 2), vI 2), (.const (vI 2), vI 2), (.const (vI 1), vI 1)]) _ _ (fun g66 x => (x, g66.2)) rfl rfl (fun _ => z5) (fun g66 => OT.buildF (us := [vI 2, vI 2, vI 2, vI 2, vI 1]) (ys := ([2, 2, 2, 2, 1] : (List Int))) (enc := (encI .i64)) (hl := fun _ => ⟨rfl, rfl⟩) [.const (vI 2), .const (vI 2), .const (vI 2), .const (vI 2), .const (vI 1)] sl33.ul sl33.szE sl33.zc rfl rfl rfl rfl rfl) (fun _ _ => z8)
   ·exact OpOK.of (fun g66 => [(.func 79, .func (.func 79) #[] #[]), (.tmp 37, BP b4 0), (.tmp 38, vS g66.1.1 ([2, 2, 2, 2, 1] : (List Int)) g66.1.2)]) _ _ (fun g66 _ => g66) rfl rfl (fun _ => z3) (fun g66 => OT.callM (us := [_, _]) (PreX := [Box b4 [vS a_0 p0 c_0, vI t14.2.i, vI t14.2.h]]) (PreL := [OwnS kI g66.1.1 g66.1.2 ([2, 2, 2, 2, 1] : (List Int))]) [.tmp 37, .tmp 38] Try.call79 rfl rfl fun w FX FL hs1 hF1 hs2 hF2 hp => spec_l1Int_c (p0 := (⟨p0, t14.2.i, t14.2.h⟩ : TCur)) (p1 := ([2, 2, 2, 2, 1] : (List Int))) hs1 hF1 (hb_0.passY hp) (hs2.lendY hF2 0 rfl) h70) (fun _ _ => z8)
   ·exact OpOK.pu (fun g66 => [(.tmp 5, BP b4 0)]) z2 (fun _ => z1) (fun _ => Pu.move) (fun _ => z1) (fun _ _ => z8)
   ·exact OpOK.of (fun g66 => [(.const (vI 4), vI 4), (.const (vI 4), vI 4), (.const (vI 4), vI 4), (.const (vI 4), vI 4), (.const (vI 3), vI 3), (.const (vI 5), vI 5)]) _ _ (fun g66 x => (g66.1, x)) rfl rfl (fun _ => z6) (fun g66 => OT.buildF (us := [vI 4, vI 4, vI 4, vI 4, vI 3, vI 5]) (ys := ([4, 4, 4, 4, 3, 5] : (List Int))) (enc := (encI .i64)) (hl := fun _ => ⟨rfl, rfl⟩) [.const (vI 4), .const (vI 4), .const (vI 4), .const (vI 4), .const (vI 3), .const (vI 5)] sl33.ul sl33.szE sl33.zc rfl rfl rfl rfl rfl) (fun _ _ => z8)
   ·exact OpOK.of (fun g66 => [(.func 79, .func (.func 79) #[] #[]), (.tmp 40, BP b4 0), (.tmp 41, vS g66.2.1 ([4, 4, 4, 4, 3, 5] : (List Int)) g66.2.2)]) _ _ (fun g66 _ => g66) rfl rfl (fun _ => z3) (fun g66 => OT.callM (us := [_, _]) (PreX := [Box b4 [vS a_0 p0 c_0, vI t69.2.i, vI t69.2.h]]) (PreL := [OwnS kI g66.2.1 g66.2.2 ([4, 4, 4, 4, 3, 5] : (List Int))]) [.tmp 40, .tmp 41] Try.call79 rfl rfl fun w FX FL hs1 hF1 hs2 hF2 hp => spec_l1Int_c (p0 := (⟨p0, t69.2.i, t69.2.h⟩ : TCur)) (p1 := ([4, 4, 4, 4, 3, 5] : (List Int))) hs1 hF1 (hb_0.passY hp) (hs2.lendY hF2 0 rfl) h74) (fun _ _ => z8)
   refine HQ.keep [(2, _), (3, _), (4, _), (36, _), (39, _), (42, _)] z6 ?_
   refine HQ.keepR [(1, _), (2, _), (3, _), (4, _), (5, _), (6, _), (19, _), (20, _)] z8 rfl ?_
   refine HQ.opN [1] [1] [] (OT.storeC (cs' := [vS a7 t5.1.Cells c8, vS a9 t5.1.Wet c10, vI t5.1.Fuse, .bool t5.1.Dead]) sz27 rfl rfl rfl rfl rfl) z2 z1 rfl rfl rfl (fun _ => rfl) fun _ => ?_
   refine pu Pu.assign z1 z3 ?_
   refine pu Pu.assign z1 z3 ?_
   refine HQ.done ?_
   refine HQ.keep [(2, _), (3, _), (4, _)] z3 ?_
   refine HQ.ret ?_
   obtain rfl := Option.some.inj H
   exact HQ.fin (vs := [_, _, _]) Try.results70 ((a7, c8), (a9, c10)) ⟨⟨_, _, 1, rfl, rfl, ag27, sz27, rfl⟩, rfl, rfl, trivial⟩ rfl [3, 4] z2 rfl

end Go.Proofs.Sx
