import Derived.Test.YtkhommmhkeohbaaQaF5
import Derived.KernelRfl
namespace Go.Proofs.Sx
open Go.RowKit
set_option linter.unusedVariables false
set_option linter.unusedSimpArgs false
set_option maxRecDepth 20000
set_option maxHeartbeats 1000000
/-! spec.Crash -/
theorem spec_Crash_c {w : World} {k : Nat} {p0 : TDisk} {p1 : (List Int)} {p2 : Int} {a_0 : Option Addr} {c_0 : Nat} {a_1 : Option Addr} {c_1 : Nat} {a_2 : Option Addr} {c_2 : Nat} (hb_0 : BorS kTCell a_0 c_0 p0.Cells w.heap (Lt w Nil)) (hb_1 : BorS kTWet a_1 c_1 p0.Wet w.heap (Lt w Nil)) (hb_2 : BorS kI a_2 c_2 p1 w.heap (Lt w Nil)) {r : TDisk} (H : spec_Crash k p0 p1 p2 = some r) :
    Calls Try.prog 22 #[.agg #[.slice a_0 (List.length p0.Cells) c_0, .slice a_1 (List.length p0.Wet) c_1, .int .i64 p0.Fuse, .bool p0.Dead], .slice a_2 (List.length p1) c_2, .int .i64 p2] w (Rt w Nil (fun g : (Option Addr × Nat) × (Option Addr × Nat) => .agg #[.slice g.1.1 (List.length r.Cells) g.1.2, .slice g.2.1 (List.length r.Wet) g.2.2, .int .i64 r.Fuse, .bool r.Dead]) (fun g => [OwnS kTCell g.1.1 g.1.2 r.Cells, OwnS kTWet g.2.1 g.2.2 r.Wet])) := by
  rw [spec_Crash] at H
  refine Calls.enter0 (N := 69) (us := [_, _, _]) Try.func22 rfl rfl rfl ?_
  refine HQ.rseq ?_
  refine HQ.op [] [1] (OT.box (cs := [.slice a_0 (List.length p0.Cells) c_0, .slice a_1 (List.length p0.Wet) c_1, .int .i64 p0.Fuse, .bool p0.Dead]) rfl) ⟨rfl, trivial⟩ trivial rfl rfl rfl rfl (fun _ => rfl) fun b1 => ?_
  refine HQ.op [] [2] (OT.alloc zc27) trivial trivial rfl rfl rfl rfl (fun _ => rfl) fun b2 => ?_
  refine HQ.done ?_
  refine HQ.keep [(1, _), (2, _), (3, _), (6, _)] ⟨rfl, rfl, rfl, rfl, trivial⟩ ?_
  refine HQ.rseq ?_
  refine HQ.op [1] [1] (OT.loadBA (vs := [.slice a_0 (List.length p0.Cells) c_0, .slice a_1 (List.length p0.Wet) c_1, .int .i64 p0.Fuse, .bool p0.Dead]) ag27 sz27 rfl rfl) ⟨rfl, trivial⟩ ⟨rfl, trivial⟩ rfl rfl rfl rfl (fun _ => rfl) fun _ => ?_
  obtain ⟨t3, h4, H⟩ := bnd H
  refine HQ.op [] [3, 4] (OT.call (us := [_]) (Pre := []) [.tmp 10] Try.call90 rfl rfl fun w F hs hF hp => spec_l18Copy_c (hb_0.pass hp) (hb_1.pass hp) h4) ⟨rfl, rfl, trivial⟩ trivial rfl rfl rfl rfl (fun _ => rfl) fun ⟨⟨a5, c6⟩, ⟨a7, c8⟩⟩ => ?_
  refine HQ.op [] [5] (OT.alloc zc27) trivial trivial rfl rfl rfl rfl (fun _ => rfl) fun b9 => ?_
  refine HQ.opN [5] [5] [] (OT.storeC (cs' := [.slice a5 (List.length t3.Cells) c6, .slice a7 (List.length t3.Wet) c8, .int .i64 t3.Fuse, .bool t3.Dead]) sz27 rfl rfl rfl rfl rfl) ⟨rfl, rfl, trivial⟩ ⟨rfl, trivial⟩ rfl rfl rfl (fun _ => rfl) fun _ => ?_
  refine HQ.done ?_
  refine HQ.keep [(1, _), (2, _), (6, _), (7, _)] ⟨rfl, rfl, rfl, rfl, trivial⟩ ?_
  refine HQ.seq ?_
  refine HQ.rseq ?_
  refine HQ.pu Pu.assign ⟨rfl, trivial⟩ rfl rfl rfl ?_
  refine HQ.done ?_
  refine HQ.keep [(1, _), (2, _), (6, _), (7, _), (8, _)] ⟨rfl, rfl, rfl, rfl, rfl, trivial⟩ ?_
  refine HQ.block ?_
  refine HQ.toRob 4 rfl ?_
  obtain ⟨o98, h110, H⟩ := bnd H
  refine HQ.loop h110 0 (fun (s : Int × (List TCell) × Int × Bool × Int) (g : Option Addr × Nat) => match s, g with | (i37, l38, i41, q42, i43), (a39, c40) => [(1, .slice a_2 (List.length p1) c_2), (2, .int .i64 p2), (6, BP b2 0), (7, BP b9 0), (8, .int .i64 i37)]) (fun (s : Int × (List TCell) × Int × Bool × Int) (g : Option Addr × Nat) => match s, g with | (i37, l38, i41, q42, i43), (a39, c40) => [(2, Box b2 [.slice none 0 0, .slice none 0 0, .int .i64 0, .bool false]), (5, Box b9 [.slice a39 (List.length l38) c40, .slice a7 (List.length t3.Wet) c8, .int .i64 i41, .bool q42]), (3, OwnS kTCell a39 c40 l38), (4, RobS 2 encTWet hlTWet kU8 (fun x => x.B) a7 c8 t3.Wet i43)]) (fun _ _ _ => False) (a5, c6) ⟨rfl, rfl, rfl, rfl, rfl, trivial⟩ ⟨rfl, rfl, rfl, rfl, trivial⟩ rfl ?_ ?_ ?_
  · clear H h110
    rintro ⟨i37, l38, i41, q42, i43⟩ ⟨a39, c40⟩ o H
    rw [spec_Crash_b0] at H
    refine HQ.keep [(1, _), (2, _), (6, _), (7, _), (8, _)] ⟨rfl, rfl, rfl, rfl, rfl, trivial⟩ ?_
    refine HQ.keepR [(2, _), (5, _), (3, _), (4, _)] ⟨rfl, rfl, rfl, rfl, trivial⟩ rfl ?_
    refine HQ.seq ?_
    refine HQ.rseq ?_
    refine HQ.pu Pu.move ⟨rfl, trivial⟩ rfl rfl rfl ?_
    refine HQ.pu (Pu.fieldB fo27_1 rfl) ⟨rfl, trivial⟩ rfl rfl rfl ?_
    refine HQ.op [5] [5] (OT.loadB sc25 rfl) ⟨rfl, trivial⟩ ⟨rfl, trivial⟩ rfl rfl rfl rfl (fun _ => rfl) fun _ => ?_
    refine HQ.pu (Pu.len ul25) ⟨rfl, trivial⟩ rfl rfl rfl ?_
    refine HQ.pu Pu.lss ⟨rfl, rfl, trivial⟩ rfl rfl rfl ?_
    refine HQ.pu Pu.move ⟨rfl, trivial⟩ rfl rfl rfl ?_
    refine HQ.cutAt 5 [(22, .bool ((decide (i37 < ((List.length t3.Wet : Nat) : Int))) && (decide (i37 < ((List.length p1 : Nat) : Int))))), (1, .slice a_2 (List.length p1) c_2), (2, .int .i64 p2), (6, BP b2 0), (7, BP b9 0), (8, .int .i64 i37)] [(2, Box b2 [.slice none 0 0, .slice none 0 0, .int .i64 0, .bool false]), (5, Box b9 [.slice a39 (List.length l38) c40, .slice a7 (List.length t3.Wet) c8, .int .i64 i41, .bool q42]), (3, OwnS kTCell a39 c40 l38), (4, RobS 2 encTWet hlTWet kU8 (fun x => x.B) a7 c8 t3.Wet i43)] ?_ ?_
    · rcases Bool.eq_false_or_eq_true (decide (i37 < ((List.length t3.Wet : Nat) : Int))) with hg71 | hg71
      · refine HQ.on rfl rfl hg71 ?_
        refine HQ.pu Pu.move ⟨rfl, trivial⟩ rfl rfl rfl ?_
        refine HQ.on rfl rfl hg71 ?_
        refine HQ.pu Pu.move ⟨rfl, trivial⟩ rfl rfl rfl ?_
        refine HQ.on rfl rfl hg71 ?_
        refine HQ.pu (Pu.len ul33) ⟨rfl, trivial⟩ rfl rfl rfl ?_
        refine HQ.on rfl rfl hg71 ?_
        refine HQ.pu Pu.lss ⟨rfl, rfl, trivial⟩ rfl rfl rfl ?_
        refine HQ.pu (Pu.pickAT hg71) ⟨rfl, rfl, trivial⟩ rfl rfl rfl ?_
        exact HQ.mid ⟨rfl, rfl, rfl, rfl, rfl, rfl, trivial⟩ ⟨rfl, rfl, rfl, rfl, trivial⟩ rfl
      · refine HQ.off rfl rfl hg71 rfl ?_
        refine HQ.off rfl rfl hg71 rfl ?_
        refine HQ.off rfl rfl hg71 rfl ?_
        refine HQ.off rfl rfl hg71 rfl ?_
        refine HQ.pu (Pu.pickAF (u := (decide (i37 < ((List.length p1 : Nat) : Int)))) hg71) ⟨rfl, rfl, trivial⟩ rfl rfl rfl ?_
        exact HQ.mid ⟨rfl, rfl, rfl, rfl, rfl, rfl, trivial⟩ ⟨rfl, rfl, rfl, rfl, trivial⟩ rfl
    refine HQ.done ?_
    refine HQ.keep [(22, _), (1, _), (2, _), (6, _), (7, _), (8, _)] ⟨rfl, rfl, rfl, rfl, rfl, rfl, trivial⟩ ?_
    rcases brk H with ⟨hc, H⟩ | ⟨hc, H⟩
    · refine HQ.condT rfl hc ?_
      clear hc
      refine HQ.skipThen ?_
      refine HQ.seq ?_
      refine HQ.block ?_
      refine HQ.rseq ?_
      refine HQ.pu (Pu.fieldB fo27_1 rfl) ⟨rfl, trivial⟩ rfl rfl rfl ?_
      refine HQ.op [5] [5] (OT.loadB sc25 rfl) ⟨rfl, trivial⟩ ⟨rfl, trivial⟩ rfl rfl rfl rfl (fun _ => rfl) fun _ => ?_
      refine HQ.pu Pu.move ⟨rfl, trivial⟩ rfl rfl rfl ?_
      obtain ⟨h72, H⟩ := asr H
      refine HQ.op [4] [4] (OT.indexR ul25 sz110 h72) ⟨rfl, rfl, trivial⟩ ⟨rfl, trivial⟩ rfl rfl rfl rfl (fun _ => rfl) fun _ => ?_
      refine HQ.pu (Pu.fieldE fo110_0 rfl) ⟨rfl, trivial⟩ rfl rfl rfl ?_
      obtain ⟨h73, H⟩ := asr H
      refine HQ.op [4] [4] (OT.loadR sc3 h72 h73 (fun _ => rfl)) ⟨rfl, trivial⟩ ⟨rfl, trivial⟩ rfl rfl rfl rfl (fun _ => rfl) fun _ => ?_
      refine HQ.pu Pu.assign ⟨rfl, trivial⟩ rfl rfl rfl ?_
      refine HQ.done ?_
      refine HQ.keep [(1, _), (2, _), (6, _), (7, _), (8, _), (9, _)] ⟨rfl, rfl, rfl, rfl, rfl, rfl, trivial⟩ ?_
      refine HQ.seq ?_
      refine HQ.rseq ?_
      refine HQ.pu Pu.move ⟨rfl, trivial⟩ rfl rfl rfl ?_
      obtain ⟨t74, h75, H⟩ := bnd H
      refine HQ.op [] [] (OT.call (us := [_, _, _]) (Pre := []) [.tmp 31, .const (.int .i64 0), .const (.int .i64 113)] Try.call89 rfl rfl fun w F hs hF hp => spec_l1In_c h75) ⟨rfl, rfl, rfl, rfl, trivial⟩ trivial rfl rfl rfl rfl (fun _ => rfl) fun _ => ?_
      refine HQ.pu Pu.not ⟨rfl, trivial⟩ rfl rfl rfl ?_
      refine HQ.done ?_
      refine HQ.keep [(1, _), (2, _), (6, _), (7, _), (8, _), (9, _), (33, _)] ⟨rfl, rfl, rfl, rfl, rfl, rfl, rfl, trivial⟩ ?_
      rcases brk H with ⟨hc, H⟩ | ⟨hc, H⟩
      · refine HQ.condT rfl hc ?_
        clear hc
        refine HQ.exit ?_
        refine HQ.thenE ?_
        refine HQ.blkE ?_
        refine HQ.thenN ?_
        refine HQ.regionQ ?_
        refine HQ.pu Pu.move ⟨rfl, trivial⟩ rfl rfl rfl ?_
        refine HQ.pu Pu.add ⟨rfl, rfl, trivial⟩ rfl rfl rfl ?_
        refine HQ.pu Pu.assign ⟨rfl, trivial⟩ rfl rfl rfl ?_
        refine HQ.done ?_
        refine HQ.keep [(1, _), (2, _), (6, _), (7, _), (8, _)] ⟨rfl, rfl, rfl, rfl, rfl, trivial⟩ ?_
        obtain rfl := Option.some.inj H
        exact HQ.next (a39, c40) ⟨rfl, rfl, rfl, rfl, rfl, trivial⟩ ⟨rfl, rfl, rfl, rfl, trivial⟩ rfl
      · refine HQ.condF rfl hc ?_
        clear hc
        refine HQ.skipThen ?_
        refine HQ.rseq ?_
        refine HQ.pu Pu.move ⟨rfl, trivial⟩ rfl rfl rfl ?_
        refine HQ.pu Pu.move ⟨rfl, trivial⟩ rfl rfl rfl ?_
        obtain ⟨h76, H⟩ := asr H
        refine HQ.op [] [] (OT.indexB ul33 sz3 hb_2 h76) ⟨rfl, rfl, trivial⟩ trivial rfl rfl rfl rfl (fun _ => rfl) fun _ => ?_
        refine HQ.op [] [] (OT.loadF sc3 hb_2 h76 rfl) ⟨rfl, trivial⟩ trivial rfl rfl rfl rfl (fun _ => rfl) fun _ => ?_
        refine HQ.done ?_
        refine HQ.keep [(1, _), (2, _), (6, _), (7, _), (8, _), (9, _), (37, _)] ⟨rfl, rfl, rfl, rfl, rfl, rfl, rfl, trivial⟩ ?_
        refine HQ.block ?_
        refine HQ.rseq ?_
        refine HQ.pu Pu.eql ⟨rfl, rfl, trivial⟩ rfl rfl rfl ?_
        refine HQ.pu Pu.assign ⟨rfl, trivial⟩ rfl rfl rfl ?_
        refine HQ.done ?_
        refine HQ.keep [(1, _), (2, _), (6, _), (7, _), (8, _), (9, _), (37, _), (38, _)] ⟨rfl, rfl, rfl, rfl, rfl, rfl, rfl, rfl, trivial⟩ ?_
        rcases brk H with ⟨hc, H⟩ | ⟨hc, H⟩
        · refine HQ.condT rfl hc ?_
          clear hc
          refine HQ.rseq ?_
          refine HQ.pu Pu.move ⟨rfl, trivial⟩ rfl rfl rfl ?_
          obtain ⟨t77, h78, H⟩ := bnd H
          refine HQ.opD [5, 3] [5, 14] [3] (OT.callM (us := [_, _]) (PreX := [Box b9 [.slice a39 (List.length l38) c40, .slice a7 (List.length t3.Wet) c8, .int .i64 i41, .bool q42], OwnS kTCell a39 c40 l38]) (PreL := []) [.tmp 7, .tmp 40] Try.call93 rfl rfl fun w FX FL hs1 hF1 hs2 hF2 hp => spec_l18Room_c (p0 := (⟨l38, t3.Wet, i41, q42⟩ : TDisk)) (p1 := (gt t3.Wet i37).At) hs1 hF1 h78) ⟨rfl, rfl, rfl, trivial⟩ ⟨rfl, rfl, trivial⟩ rfl rfl rfl rfl (fun _ => rfl) fun ⟨a79, c80⟩ => ?_
          refine HQ.done ?_
          refine HQ.keep [(1, _), (2, _), (6, _), (7, _), (8, _), (9, _)] ⟨rfl, rfl, rfl, rfl, rfl, rfl, trivial⟩ ?_
          refine HQ.dStart mixd ?_
          obtain ⟨h82, H⟩ := asr H
          obtain ⟨h83, H⟩ := asr H
          refine HQ.dPart [(1, .slice a_2 (List.length p1) c_2), (2, .int .i64 p2), (6, BP b2 0), (7, BP b9 0), (8, .int .i64 i37), (9, .int .i64 ((gt t3.Wet i37).At))] 10 [⟨[], [], []⟩, ⟨[0], [0], [0]⟩, ⟨[], [], []⟩, ⟨[], [], []⟩, ⟨[0], [0], [3]⟩, ⟨[], [], []⟩, ⟨[1], [1], [4, 5]⟩, ⟨[], [], [6]⟩, ⟨[1], [2, 3], [7]⟩, ⟨[], [], [8]⟩] [⟨none, none⟩, ⟨none, some 8⟩, ⟨some 8, none⟩, ⟨some 8, none⟩] (fun (g81 : (Option Addr × Nat)) => [BP b9 0, .slice a79 (List.length t77.Cells) c80, .int .i64 ((gt t3.Wet i37).At), BP b9 1, .slice a7 (List.length t3.Wet) c8, .int .i64 i37, EP a7 i37 2 0, EP a7 i37 2 1, .slice g81.1 (List.length ((gt t3.Wet i37).B)) g81.2, .agg #[.bool false, .slice g81.1 (List.length ((gt t3.Wet i37).B)) g81.2]]) (fun (g81 : (Option Addr × Nat)) => [Box b9 [.slice a79 (List.length t77.Cells) c80, .slice a7 (List.length t3.Wet) c8, .int .i64 t77.Fuse, .bool t77.Dead], RobS 2 encTWet hlTWet kU8 (fun x => x.B) a7 c8 t3.Wet i43, RobS 2 encTWet hlTWet kU8 (fun x => x.B) a7 c8 t3.Wet (i37 + 1), OwnS kU8 g81.1 g81.2 ((gt t3.Wet i37).B)]) (none, 0) [5, 4] [5, 4, 15] [] ⟨rfl, rfl, rfl, rfl, rfl, rfl, trivial⟩ ⟨rfl, rfl, trivial⟩ rfl (by kernel_rfl) (by kernel_rfl) (fun _ => rfl) (by kernel_rfl) (fun _ => rfl) rfl ⟨?_, ?_, ?_, ?_, ?_, ?_, ?_, ?_, ?_, ?_, trivial⟩ fun g81 => ?_
          · exact OpOK2.of (fun g81 => [(.tmp 7, BP b9 0)]) _ _ (fun g81 _ => g81) rfl rfl (fun _ => ⟨rfl, trivial⟩) (fun g81 => Pu.toOT (Pu.fieldB fo27_0 rfl)) (fun _ _ => ⟨rfl, rfl, ⟨rfl, rfl, rfl, rfl, trivial⟩⟩)
          · exact OpOK2.of (fun g81 => [(.tmp 42, BP b9 0)]) _ _ (fun g81 _ => g81) rfl rfl (fun _ => ⟨rfl, trivial⟩) (fun g81 => OT.loadB sc24 rfl) (fun _ _ => ⟨rfl, rfl, ⟨rfl, rfl, rfl, rfl, trivial⟩⟩)
          · exact OpOK2.of (fun g81 => [(.tmp 9, .int .i64 ((gt t3.Wet i37).At))]) _ _ (fun g81 _ => g81) rfl rfl (fun _ => ⟨rfl, trivial⟩) (fun g81 => Pu.toOT Pu.move) (fun _ _ => ⟨rfl, rfl, ⟨rfl, rfl, rfl, rfl, trivial⟩⟩)
          · exact OpOK2.of (fun g81 => [(.tmp 7, BP b9 0)]) _ _ (fun g81 _ => g81) rfl rfl (fun _ => ⟨rfl, trivial⟩) (fun g81 => Pu.toOT (Pu.fieldB fo27_1 rfl)) (fun _ _ => ⟨rfl, rfl, ⟨rfl, rfl, rfl, rfl, trivial⟩⟩)
          · exact OpOK2.of (fun g81 => [(.tmp 45, BP b9 1)]) _ _ (fun g81 _ => g81) rfl rfl (fun _ => ⟨rfl, trivial⟩) (fun g81 => OT.loadB sc25 rfl) (fun _ _ => ⟨rfl, rfl, ⟨rfl, rfl, rfl, rfl, trivial⟩⟩)
          · exact OpOK2.of (fun g81 => [(.tmp 8, .int .i64 i37)]) _ _ (fun g81 _ => g81) rfl rfl (fun _ => ⟨rfl, trivial⟩) (fun g81 => Pu.toOT Pu.move) (fun _ _ => ⟨rfl, rfl, ⟨rfl, rfl, rfl, rfl, trivial⟩⟩)
          · exact OpOK2.of (fun g81 => [(.tmp 46, .slice a7 (List.length t3.Wet) c8), (.tmp 47, .int .i64 i37)]) _ _ (fun g81 _ => g81) rfl rfl (fun _ => ⟨rfl, rfl, trivial⟩) (fun g81 => OT.indexR ul25 sz110 h82) (fun _ _ => ⟨rfl, rfl, ⟨rfl, rfl, rfl, rfl, trivial⟩⟩)
          · exact OpOK2.of (fun g81 => [(.tmp 48, EP a7 i37 2 0)]) _ _ (fun g81 _ => g81) rfl rfl (fun _ => ⟨rfl, trivial⟩) (fun g81 => Pu.toOT (Pu.fieldE fo110_1 rfl)) (fun _ _ => ⟨rfl, rfl, ⟨rfl, rfl, rfl, rfl, trivial⟩⟩)
          · exact OpOK2.ofD [9] (by kernel_rfl) (fun g81 => [(.tmp 49, EP a7 i37 2 1)]) _ _ (fun g81 x => x) rfl rfl (fun _ => ⟨rfl, trivial⟩) (fun g81 => OT.rob (v := fun pa pc => .slice pa (List.length ((gt t3.Wet i37).B)) pc) sc22 h82 h83 (fun _ _ => rfl)) (fun _ _ => ⟨⟨rfl, rfl, rfl, rfl, rfl, rfl, rfl, rfl, rfl, trivial, trivial⟩, rfl, ⟨rfl, rfl, rfl, rfl, trivial⟩⟩)
          · exact OpOK2.of (fun g81 => [(.tmp 50, .slice g81.1 (List.length ((gt t3.Wet i37).B)) g81.2)]) _ _ (fun g81 _ => g81) rfl rfl (fun _ => ⟨rfl, trivial⟩) (fun g81 => Pu.toOT (Pu.build (us := [.slice g81.1 (List.length ((gt t3.Wet i37).B)) g81.2]) (cs := [.bool false, .slice g81.1 (List.length ((gt t3.Wet i37).B)) g81.2]) [(1, .tmp 50)] st113 rfl rfl rfl)) (fun _ _ => ⟨rfl, rfl, ⟨rfl, rfl, rfl, rfl, trivial⟩⟩)
          refine HQ.keep [(1, _), (2, _), (6, _), (7, _), (8, _), (43, _), (44, _), (51, _)] ⟨rfl, rfl, rfl, rfl, rfl, rfl, rfl, rfl, trivial⟩ ?_
          refine HQ.keepR [(2, _), (5, _), (4, _), (14, _), (15, _)] ⟨rfl, rfl, rfl, rfl, rfl, trivial⟩ rfl ?_
          refine HQ.dRun 2 rfl rfl (by kernel_rfl) (by kernel_rfl) ?_
          obtain ⟨h86, H⟩ := asr H
          refine HQ.op [14] [14] (OT.indexO ul24 sz113 h86) ⟨rfl, rfl, trivial⟩ ⟨rfl, trivial⟩ rfl rfl rfl rfl (fun _ => rfl) fun _ => ?_
          refine HQ.opN [14, 15] [14] [15] (OT.storeW (⟨false, (gt t3.Wet i37).B⟩ : TCell) sz113 rfl rfl rfl h86 rfl (fun _ => rfl) rfl) ⟨rfl, rfl, trivial⟩ ⟨rfl, rfl, trivial⟩ rfl rfl rfl (fun _ => rfl) fun _ => ?_
          obtain ⟨l87, h88, H⟩ := bnd H
          replace h88 := Option.some.inj h88
          refine HQ.reR (B := OwnS kTCell a79 c80 l87) 14 rfl (by intro _ _ hb; rw [← h88]; exact hb) ?_
          have h89 : List.length l87 = List.length t77.Cells := by rw [← h88, List.length_set]
          refine HQ.re (v' := .slice a79 (List.length l87) c80) 43 rfl (by simp [h89]) ?_
          refine HQ.reR (B := Box b9 [.slice a79 (List.length l87) c80, .slice a7 (List.length t3.Wet) c8, .int .i64 t77.Fuse, .bool t77.Dead]) 5 rfl (fun _ _ hb => by rw [show List.length l87 = List.length t77.Cells from (by simp [h89])]; exact hb) ?_
          refine HQ.done ?_
          refine HQ.dEnd rfl ?_
          refine HQ.keep [(1, _), (2, _), (6, _), (7, _), (8, _)] ⟨rfl, rfl, rfl, rfl, rfl, trivial⟩ ?_
          refine HQ.blkN ?_
          refine HQ.blkN ?_
          refine HQ.thenN ?_
          refine HQ.regionQ ?_
          refine HQ.pu Pu.move ⟨rfl, trivial⟩ rfl rfl rfl ?_
          refine HQ.pu Pu.add ⟨rfl, rfl, trivial⟩ rfl rfl rfl ?_
          refine HQ.pu Pu.assign ⟨rfl, trivial⟩ rfl rfl rfl ?_
          refine HQ.done ?_
          refine HQ.keep [(1, _), (2, _), (6, _), (7, _), (8, _)] ⟨rfl, rfl, rfl, rfl, rfl, trivial⟩ ?_
          refine HQ.mv 3 14 rfl rfl ?_
          obtain rfl := Option.some.inj H
          exact HQ.next (a79, c80) ⟨rfl, rfl, rfl, rfl, rfl, trivial⟩ ⟨rfl, rfl, rfl, rfl, trivial⟩ rfl
        · refine HQ.condF rfl hc ?_
          clear hc
          refine HQ.rseq ?_
          refine HQ.pu Pu.eql ⟨rfl, rfl, trivial⟩ rfl rfl rfl ?_
          refine HQ.pu Pu.assign ⟨rfl, trivial⟩ rfl rfl rfl ?_
          refine HQ.done ?_
          refine HQ.keep [(1, _), (2, _), (6, _), (7, _), (8, _), (9, _), (53, _)] ⟨rfl, rfl, rfl, rfl, rfl, rfl, rfl, trivial⟩ ?_
          rcases brk H with ⟨hc, H⟩ | ⟨hc, H⟩
          · refine HQ.condT rfl hc ?_
            clear hc
            refine HQ.rseq ?_
            refine HQ.pu Pu.move ⟨rfl, trivial⟩ rfl rfl rfl ?_
            obtain ⟨t90, h91, H⟩ := bnd H
            refine HQ.opD [5, 3] [5, 16] [3] (OT.callM (us := [_, _]) (PreX := [Box b9 [.slice a39 (List.length l38) c40, .slice a7 (List.length t3.Wet) c8, .int .i64 i41, .bool q42], OwnS kTCell a39 c40 l38]) (PreL := []) [.tmp 7, .tmp 55] Try.call93 rfl rfl fun w FX FL hs1 hF1 hs2 hF2 hp => spec_l18Room_c (p0 := (⟨l38, t3.Wet, i41, q42⟩ : TDisk)) (p1 := (gt t3.Wet i37).At) hs1 hF1 h91) ⟨rfl, rfl, rfl, trivial⟩ ⟨rfl, rfl, trivial⟩ rfl rfl rfl rfl (fun _ => rfl) fun ⟨a92, c93⟩ => ?_
            refine HQ.done ?_
            refine HQ.keep [(1, _), (2, _), (6, _), (7, _), (8, _), (9, _)] ⟨rfl, rfl, rfl, rfl, rfl, rfl, trivial⟩ ?_
            refine HQ.regionQ ?_
            refine HQ.pu (Pu.fieldB fo27_0 rfl) ⟨rfl, trivial⟩ rfl rfl rfl ?_
            refine HQ.op [5] [5] (OT.loadB sc24 rfl) ⟨rfl, trivial⟩ ⟨rfl, trivial⟩ rfl rfl rfl rfl (fun _ => rfl) fun _ => ?_
            refine HQ.pu Pu.move ⟨rfl, trivial⟩ rfl rfl rfl ?_
            refine HQ.pu (Pu.build (us := [.bool true]) (cs := [.bool true, .slice none 0 0]) [(0, .const (.bool true))] st113 rfl rfl rfl) ⟨rfl, trivial⟩ rfl rfl rfl ?_
            obtain ⟨h94, H⟩ := asr H
            refine HQ.op [16] [16] (OT.indexO ul24 sz113 h94) ⟨rfl, rfl, trivial⟩ ⟨rfl, trivial⟩ rfl rfl rfl rfl (fun _ => rfl) fun _ => ?_
            refine HQ.nil kU8 17 rfl ?_
            refine HQ.opN [16, 17] [16] [17] (OT.storeW (⟨true, ([] : (List Int))⟩ : TCell) sz113 rfl rfl rfl h94 rfl (fun _ => rfl) rfl) ⟨rfl, rfl, trivial⟩ ⟨rfl, rfl, trivial⟩ rfl rfl rfl (fun _ => rfl) fun _ => ?_
            obtain ⟨l95, h96, H⟩ := bnd H
            replace h96 := Option.some.inj h96
            refine HQ.reR (B := OwnS kTCell a92 c93 l95) 16 rfl (by intro _ _ hb; rw [← h96]; exact hb) ?_
            have h97 : List.length l95 = List.length t90.Cells := by rw [← h96, List.length_set]
            refine HQ.re (v' := .slice a92 (List.length l95) c93) 58 rfl (by simp [h97]) ?_
            refine HQ.reR (B := Box b9 [.slice a92 (List.length l95) c93, .slice a7 (List.length t3.Wet) c8, .int .i64 t90.Fuse, .bool t90.Dead]) 5 rfl (fun _ _ hb => by rw [show List.length l95 = List.length t90.Cells from (by simp [h97])]; exact hb) ?_
            refine HQ.done ?_
            refine HQ.keep [(1, _), (2, _), (6, _), (7, _), (8, _)] ⟨rfl, rfl, rfl, rfl, rfl, trivial⟩ ?_
            refine HQ.blkN ?_
            refine HQ.blkN ?_
            refine HQ.thenN ?_
            refine HQ.regionQ ?_
            refine HQ.pu Pu.move ⟨rfl, trivial⟩ rfl rfl rfl ?_
            refine HQ.pu Pu.add ⟨rfl, rfl, trivial⟩ rfl rfl rfl ?_
            refine HQ.pu Pu.assign ⟨rfl, trivial⟩ rfl rfl rfl ?_
            refine HQ.done ?_
            refine HQ.keep [(1, _), (2, _), (6, _), (7, _), (8, _)] ⟨rfl, rfl, rfl, rfl, rfl, trivial⟩ ?_
            refine HQ.mv 3 16 rfl rfl ?_
            obtain rfl := Option.some.inj H
            exact HQ.next (a92, c93) ⟨rfl, rfl, rfl, rfl, rfl, trivial⟩ ⟨rfl, rfl, rfl, rfl, trivial⟩ rfl
          · refine HQ.condF rfl hc ?_
            clear hc
            refine HQ.skip ?_
            refine HQ.blkN ?_
            refine HQ.blkN ?_
            refine HQ.thenN ?_
            refine HQ.regionQ ?_
            refine HQ.pu Pu.move ⟨rfl, trivial⟩ rfl rfl rfl ?_
            refine HQ.pu Pu.add ⟨rfl, rfl, trivial⟩ rfl rfl rfl ?_
            refine HQ.pu Pu.assign ⟨rfl, trivial⟩ rfl rfl rfl ?_
            refine HQ.done ?_
            refine HQ.keep [(1, _), (2, _), (6, _), (7, _), (8, _)] ⟨rfl, rfl, rfl, rfl, rfl, trivial⟩ ?_
            obtain rfl := Option.some.inj H
            exact HQ.next (a39, c40) ⟨rfl, rfl, rfl, rfl, rfl, trivial⟩ ⟨rfl, rfl, rfl, rfl, trivial⟩ rfl
    · refine HQ.condF rfl hc ?_
      clear hc
      refine HQ.exit ?_
      refine HQ.thenE ?_
      obtain rfl := Option.some.inj H
      exact HQ.out (a39, c40) ⟨rfl, rfl, rfl, rfl, rfl, trivial⟩ ⟨rfl, rfl, rfl, rfl, trivial⟩ rfl
  · rintro ⟨i99, l100, i103, q104, i105⟩ rfl ⟨a101, c102⟩
    clear h110
    replace H := H
    refine HQ.keep [(1, _), (2, _), (6, _), (7, _), (8, _)] ⟨rfl, rfl, rfl, rfl, rfl, trivial⟩ ?_
    refine HQ.keepR [(2, _), (5, _), (3, _), (4, _)] ⟨rfl, rfl, rfl, rfl, trivial⟩ rfl ?_
    refine HQ.blkE ?_
    refine HQ.thenN ?_
    refine HQ.rseq ?_
    refine HQ.op [] [18] (OT.buildE (K := kTWet) sl25.ul sl25.szE sl25.zc rfl rfl) trivial trivial rfl rfl rfl rfl (fun _ => rfl) fun ⟨a106, c107⟩ => ?_
    refine HQ.pu (Pu.fieldB fo27_1 rfl) ⟨rfl, trivial⟩ rfl rfl rfl ?_
    refine HQ.opN [5] [5] [] (OT.storeC (cs' := [.slice a101 (List.length l100) c102, .slice a106 (List.length ([] : (List TWet))) c107, .int .i64 i103, .bool q104]) sz25 rfl rfl rfl rfl rfl) ⟨rfl, rfl, trivial⟩ ⟨rfl, trivial⟩ rfl rfl rfl (fun _ => rfl) fun _ => ?_
    refine HQ.done ?_
    refine HQ.keep [(2, _), (6, _), (7, _)] ⟨rfl, rfl, rfl, trivial⟩ ?_
    refine HQ.rseq ?_
    refine HQ.pu (Pu.fieldB fo27_3 rfl) ⟨rfl, trivial⟩ rfl rfl rfl ?_
    refine HQ.opN [5] [5] [] (OT.storeC (cs' := [.slice a101 (List.length l100) c102, .slice a106 (List.length ([] : (List TWet))) c107, .int .i64 i103, .bool false]) sz4 rfl rfl rfl rfl rfl) ⟨rfl, rfl, trivial⟩ ⟨rfl, trivial⟩ rfl rfl rfl (fun _ => rfl) fun _ => ?_
    refine HQ.done ?_
    refine HQ.keep [(2, _), (6, _), (7, _)] ⟨rfl, rfl, rfl, trivial⟩ ?_
    refine HQ.rseq ?_
    refine HQ.pu Pu.move ⟨rfl, trivial⟩ rfl rfl rfl ?_
    obtain ⟨t108, h109, H⟩ := bnd H
    refine HQ.op [] [] (OT.call (us := [_, _]) (Pre := []) [.const (.int .i64 (-1)), .tmp 65] Try.call94 rfl rfl fun w F hs hF hp => spec_Most_c h109) ⟨rfl, rfl, rfl, trivial⟩ trivial rfl rfl rfl rfl (fun _ => rfl) fun _ => ?_
    refine HQ.pu (Pu.fieldB fo27_2 rfl) ⟨rfl, trivial⟩ rfl rfl rfl ?_
    refine HQ.opN [5] [5] [] (OT.storeC (cs' := [.slice a101 (List.length l100) c102, .slice a106 (List.length ([] : (List TWet))) c107, .int .i64 t108, .bool false]) sz3 rfl rfl rfl rfl rfl) ⟨rfl, rfl, trivial⟩ ⟨rfl, trivial⟩ rfl rfl rfl (fun _ => rfl) fun _ => ?_
    refine HQ.done ?_
    refine HQ.keep [(6, _), (7, _)] ⟨rfl, rfl, trivial⟩ ?_
    refine HQ.rseq ?_
    refine HQ.op [5] [5] (OT.loadBA (vs := [.slice a101 (List.length l100) c102, .slice a106 (List.length ([] : (List TWet))) c107, .int .i64 t108, .bool false]) ag27 sz27 rfl rfl) ⟨rfl, trivial⟩ ⟨rfl, trivial⟩ rfl rfl rfl rfl (fun _ => rfl) fun _ => ?_
    refine HQ.opN [2] [2] [] (OT.storeC (cs' := [.slice a101 (List.length l100) c102, .slice a106 (List.length ([] : (List TWet))) c107, .int .i64 t108, .bool false]) sz27 rfl rfl rfl rfl rfl) ⟨rfl, rfl, trivial⟩ ⟨rfl, trivial⟩ rfl rfl rfl (fun _ => rfl) fun _ => ?_
    refine HQ.done ?_
    refine HQ.keep [(6, _)] ⟨rfl, trivial⟩ ?_
    refine HQ.ret ?_
    obtain rfl := Option.some.inj H
    exact HQ.fin (vs := [_]) Try.results22 ((a101, c102), (a106, c107)) ⟨⟨_, _, 2, rfl, rfl, ag27, sz27, rfl⟩, trivial⟩ rfl [3, 18] ⟨rfl, rfl, trivial⟩ rfl
  · exact fun r h a w hf => hf.elim

/-! spec.DrawRead -/
theorem spec_DrawRead_c {w : World} {k : Nat} {p0 : (List Int)} {a_0 : Option Addr} {c_0 : Nat} (hb_0 : BorS kU8 a_0 c_0 p0 w.heap (Lt w Nil)) {r : TDisk × Int} (H : spec_DrawRead k p0 = some r) :
    Calls Try.prog 16 #[.slice a_0 (List.length p0) c_0] w (Rt w Nil (fun g : (Option Addr × Nat) × (Option Addr × Nat) => .tuple #[.agg #[.slice g.1.1 (List.length r.1.Cells) g.1.2, .slice g.2.1 (List.length r.1.Wet) g.2.2, .int .i64 r.1.Fuse, .bool r.1.Dead], .int .i64 r.2]) (fun g => [OwnS kTCell g.1.1 g.1.2 r.1.Cells, OwnS kTWet g.2.1 g.2.2 r.1.Wet])) := by
  rw [spec_DrawRead] at H
  refine Calls.enter0 (N := 20) (us := [_]) Try.func16 rfl rfl rfl ?_
  refine HQ.rseq ?_
  refine HQ.op [] [1] (OT.alloc zc27) trivial trivial rfl rfl rfl rfl (fun _ => rfl) fun b1 => ?_
  refine HQ.pu Pu.assign ⟨rfl, trivial⟩ rfl rfl rfl ?_
  refine HQ.done ?_
  refine HQ.keep [(0, _), (2, _), (3, _)] ⟨rfl, rfl, rfl, trivial⟩ ?_
  refine HQ.rseq ?_
  refine HQ.pu Pu.move ⟨rfl, trivial⟩ rfl rfl rfl ?_
  obtain ⟨t2, h3, H⟩ := bnd H
  refine HQ.op [] [2] (OT.call (us := [_]) (Pre := []) [.tmp 6] Try.call77 rfl rfl fun w F hs hF hp => spec_l1New_c (hb_0.pass hp) h3) ⟨rfl, rfl, trivial⟩ trivial rfl rfl rfl rfl (fun _ => rfl) fun b4 => ?_
  refine HQ.pu Pu.assign ⟨rfl, trivial⟩ rfl rfl rfl ?_
  refine HQ.done ?_
  refine HQ.keep [(2, _), (3, _), (4, _)] ⟨rfl, rfl, rfl, trivial⟩ ?_
  refine HQ.rseq ?_
  refine HQ.pu Pu.move ⟨rfl, trivial⟩ rfl rfl rfl ?_
  obtain ⟨t5, h6, H⟩ := bnd H
  refine HQ.op [2] [3, 4, 2] (OT.callM (us := [_]) (PreX := [Box b4 [.slice a_0 (List.length p0) c_0, .int .i64 t2.i, .int .i64 t2.h]]) (PreL := []) [.tmp 8] Try.call78 rfl rfl fun w FX FL hs1 hF1 hs2 hF2 hp => spec_l18Draw_c (p0 := (⟨p0, t2.i, t2.h⟩ : TCur)) hs1 hF1 (hb_0.passY hp) h6) ⟨rfl, rfl, trivial⟩ ⟨rfl, trivial⟩ rfl rfl rfl rfl (fun _ => rfl) fun ⟨⟨a7, c8⟩, ⟨a9, c10⟩⟩ => ?_
  refine HQ.op [] [5] (OT.alloc zc27) trivial trivial rfl rfl rfl rfl (fun _ => rfl) fun b11 => ?_
  refine HQ.opN [5] [5] [] (OT.storeC (cs' := [.slice a7 (List.length t5.1.Cells) c8, .slice a9 (List.length t5.1.Wet) c10, .int .i64 t5.1.Fuse, .bool t5.1.Dead]) sz27 rfl rfl rfl rfl rfl) ⟨rfl, rfl, trivial⟩ ⟨rfl, trivial⟩ rfl rfl rfl (fun _ => rfl) fun _ => ?_
  refine HQ.done ?_
  refine HQ.keep [(2, _), (3, _), (4, _), (5, _)] ⟨rfl, rfl, rfl, rfl, trivial⟩ ?_
  refine HQ.seq ?_
  refine HQ.rseq ?_
  refine HQ.pu Pu.move ⟨rfl, trivial⟩ rfl rfl rfl ?_
  obtain ⟨t12, h13, H⟩ := bnd H
  refine HQ.op [2] [2] (OT.callM (us := [_, _]) (PreX := [Box b4 [.slice a_0 (List.length p0) c_0, .int .i64 t5.2.i, .int .i64 t5.2.h]]) (PreL := []) [.tmp 10, .const (.int .i64 2)] Try.call87 rfl rfl fun w FX FL hs1 hF1 hs2 hF2 hp => spec_l1Once_c (p0 := (⟨p0, t5.2.i, t5.2.h⟩ : TCur)) (p1 := 2) hs1 hF1 (hb_0.passY hp) h13) ⟨rfl, rfl, rfl, trivial⟩ ⟨rfl, trivial⟩ rfl rfl rfl rfl (fun _ => rfl) fun _ => ?_
  refine HQ.done ?_
  refine HQ.keep [(2, _), (3, _), (4, _), (5, _), (11, _)] ⟨rfl, rfl, rfl, rfl, rfl, trivial⟩ ?_
  rcases brk H with ⟨hc, H⟩ | ⟨hc, H⟩
  · refine HQ.condT rfl hc ?_
    clear hc
    refine HQ.dStart mixd ?_
    obtain ⟨t15, h16, H⟩ := bnd H
    refine HQ.dPart [(2, BP b1 0), (3, .int .i64 0), (4, BP b4 0), (5, BP b11 0)] 3 [⟨[0], [0], []⟩, ⟨[], [], []⟩, ⟨[1], [2, 3], [1]⟩] [⟨none, none⟩, ⟨none, some 2⟩, ⟨some 2, none⟩, ⟨some 2, none⟩] (fun (g14 : (Option Addr × Nat)) => [.agg #[.slice a7 (List.length t5.1.Cells) c8, .slice a9 (List.length t5.1.Wet) c10, .int .i64 t5.1.Fuse, .bool t5.1.Dead], BP b4 0, .slice g14.1 (List.length t15.1) g14.2]) (fun (g14 : (Option Addr × Nat)) => [Box b11 [.slice a7 (List.length t5.1.Cells) c8, .slice a9 (List.length t5.1.Wet) c10, .int .i64 t5.1.Fuse, .bool t5.1.Dead], Box b4 [.slice a_0 (List.length p0) c_0, .int .i64 t12.2.i, .int .i64 t12.2.h], OwnS kI g14.1 g14.2 t15.1, Box b4 [.slice a_0 (List.length p0) c_0, .int .i64 t15.2.i, .int .i64 t15.2.h]]) (none, 0) [5, 2] [5, 6, 2] [] ⟨rfl, rfl, rfl, rfl, trivial⟩ ⟨rfl, rfl, trivial⟩ rfl (by kernel_rfl) (by kernel_rfl) (fun _ => rfl) (by kernel_rfl) (fun _ => rfl) rfl ⟨?_, ?_, ?_, trivial⟩ fun g14 => ?_
    · exact OpOK2.of (fun g14 => [(.tmp 5, BP b11 0)]) _ _ (fun g14 _ => g14) rfl rfl (fun _ => ⟨rfl, trivial⟩) (fun g14 => OT.loadBA (vs := [.slice a7 (List.length t5.1.Cells) c8, .slice a9 (List.length t5.1.Wet) c10, .int .i64 t5.1.Fuse, .bool t5.1.Dead]) ag27 sz27 rfl rfl) (fun _ _ => ⟨rfl, rfl, ⟨rfl, rfl, rfl, rfl, trivial⟩⟩)
    · exact OpOK2.of (fun g14 => [(.tmp 4, BP b4 0)]) _ _ (fun g14 _ => g14) rfl rfl (fun _ => ⟨rfl, trivial⟩) (fun g14 => Pu.toOT Pu.move) (fun _ _ => ⟨rfl, rfl, ⟨rfl, rfl, rfl, rfl, trivial⟩⟩)
    · exact OpOK2.of (fun g14 => [(.func 85, .func (.func 85) #[] #[]), (.tmp 13, BP b4 0), (.const (.int .i64 8), .int .i64 8)]) _ _ (fun g14 x => x) rfl rfl (fun _ => ⟨rfl, rfl, rfl, trivial⟩) (fun g14 => OT.callM (us := [_, _]) (PreX := [Box b4 [.slice a_0 (List.length p0) c_0, .int .i64 t12.2.i, .int .i64 t12.2.h]]) (PreL := []) [.tmp 13, .const (.int .i64 8)] Try.call85 rfl rfl fun w FX FL hs1 hF1 hs2 hF2 hp => spec_l18How_c (p0 := (⟨p0, t12.2.i, t12.2.h⟩ : TCur)) (p1 := 8) hs1 hF1 (hb_0.passY hp) h16) (fun _ _ => ⟨rfl, rfl, ⟨rfl, rfl, rfl, rfl, trivial⟩⟩)
    refine HQ.keep [(2, _), (3, _), (4, _), (5, _), (12, _), (14, _)] ⟨rfl, rfl, rfl, rfl, rfl, rfl, trivial⟩ ?_
    refine HQ.keepR [(1, _), (2, _), (3, _), (4, _), (5, _), (6, _)] ⟨rfl, rfl, rfl, rfl, rfl, rfl, trivial⟩ rfl ?_
    refine HQ.dRun 2 rfl rfl (by kernel_rfl) (by kernel_rfl) ?_
    obtain ⟨t19, h20, H⟩ := bnd H
    refine HQ.op [3, 4, 6] [7, 8, 3, 4, 6] (OT.call (us := [_, _, _]) (Pre := [OwnS kTCell a7 c8 t5.1.Cells, OwnS kTWet a9 c10 t5.1.Wet, OwnS kI g14.1 g14.2 t15.1]) [.tmp 12, .tmp 14, .const (.int .i64 (-1))] Try.call22 rfl rfl fun w F hs hF hp => spec_Crash_c (hs.lend hF 0 rfl) (hs.lend hF 1 rfl) (hs.lend hF 2 rfl) h20) ⟨rfl, rfl, rfl, rfl, trivial⟩ ⟨rfl, rfl, rfl, trivial⟩ rfl rfl rfl rfl (fun _ => rfl) fun ⟨⟨a21, c22⟩, ⟨a23, c24⟩⟩ => ?_
    refine HQ.opN [5] [5] [] (OT.storeC (cs' := [.slice a21 (List.length t19.Cells) c22, .slice a23 (List.length t19.Wet) c24, .int .i64 t19.Fuse, .bool t19.Dead]) sz27 rfl rfl rfl rfl rfl) ⟨rfl, rfl, trivial⟩ ⟨rfl, trivial⟩ rfl rfl rfl (fun _ => rfl) fun _ => ?_
    refine HQ.done ?_
    refine HQ.dEnd rfl ?_
    refine HQ.thenN ?_
    refine HQ.keep [(2, _), (3, _), (4, _), (5, _)] ⟨rfl, rfl, rfl, rfl, trivial⟩ ?_
    obtain ⟨t26, h27, H⟩ := bnd H
    refine HQ.drawS mixd [(2, BP b1 0), (3, .int .i64 0), (4, BP b4 0), (5, BP b11 0)] 5 [⟨[0], [0], []⟩, ⟨[], [], []⟩, ⟨[1], [2], [1]⟩, ⟨[], [], [2]⟩, ⟨[3], [4], [0]⟩] [⟨none, none⟩, ⟨none, some 2⟩, ⟨some 2, none⟩, ⟨none, some 4⟩, ⟨some 4, none⟩] (fun (g25 : Unit) => [.agg #[.slice a21 (List.length t19.Cells) c22, .slice a23 (List.length t19.Wet) c24, .int .i64 t19.Fuse, .bool t19.Dead], BP b4 0, .int .i64 t26.1, .int .i64 (wrap64 (t26.1 - 1)), undef]) (fun (g25 : Unit) => [Box b11 [.slice a21 (List.length t19.Cells) c22, .slice a23 (List.length t19.Wet) c24, .int .i64 t19.Fuse, .bool t19.Dead], Box b4 [.slice a_0 (List.length p0) c_0, .int .i64 t15.2.i, .int .i64 t15.2.h], Box b4 [.slice a_0 (List.length p0) c_0, .int .i64 t26.2.i, .int .i64 t26.2.h], Box b1 [.slice none 0 0, .slice none 0 0, .int .i64 0, .bool false], Box b1 [.slice a21 (List.length t19.Cells) c22, .slice a23 (List.length t19.Wet) c24, .int .i64 t19.Fuse, .bool t19.Dead]]) () [5, 2, 1] [5, 2, 1] [] ⟨rfl, rfl, rfl, rfl, trivial⟩ ⟨rfl, rfl, rfl, trivial⟩ rfl (by kernel_rfl) (fun _ => rfl) (by kernel_rfl) (fun _ => rfl) ⟨?_, ?_, ?_, ?_, ?_, trivial⟩ fun g25 => ?_
    · exact OpOK.of (fun g25 => [(.tmp 5, BP b11 0)]) _ _ (fun g25 _ => g25) rfl rfl (fun _ => ⟨rfl, trivial⟩) (fun g25 => OT.loadBA (vs := [.slice a21 (List.length t19.Cells) c22, .slice a23 (List.length t19.Wet) c24, .int .i64 t19.Fuse, .bool t19.Dead]) ag27 sz27 rfl rfl) (fun _ _ => ⟨rfl, rfl, ⟨rfl, rfl, rfl, rfl, rfl, trivial⟩⟩)
    · exact OpOK.of (fun g25 => [(.tmp 4, BP b4 0)]) _ _ (fun g25 _ => g25) rfl rfl (fun _ => ⟨rfl, trivial⟩) (fun g25 => Pu.toOT Pu.move) (fun _ _ => ⟨rfl, rfl, ⟨rfl, rfl, rfl, rfl, rfl, trivial⟩⟩)
    · exact OpOK.of (fun g25 => [(.func 86, .func (.func 86) #[] #[]), (.tmp 17, BP b4 0), (.const (.int .i64 10), .int .i64 10)]) _ _ (fun g25 _ => g25) rfl rfl (fun _ => ⟨rfl, rfl, rfl, trivial⟩) (fun g25 => OT.callM (us := [_, _]) (PreX := [Box b4 [.slice a_0 (List.length p0) c_0, .int .i64 t15.2.i, .int .i64 t15.2.h]]) (PreL := []) [.tmp 17, .const (.int .i64 10)] Try.call86 rfl rfl fun w FX FL hs1 hF1 hs2 hF2 hp => spec_l1Below_c (p0 := (⟨p0, t15.2.i, t15.2.h⟩ : TCur)) (p1 := 10) hs1 hF1 (hb_0.passY hp) h27) (fun _ _ => ⟨rfl, rfl, ⟨rfl, rfl, rfl, rfl, rfl, trivial⟩⟩)
    · exact OpOK.of (fun g25 => [(.tmp 18, .int .i64 t26.1), (.const (.int .i64 1), .int .i64 1)]) _ _ (fun g25 _ => g25) rfl rfl (fun _ => ⟨rfl, rfl, trivial⟩) (fun g25 => Pu.toOT Pu.sub) (fun _ _ => ⟨rfl, rfl, ⟨rfl, rfl, rfl, rfl, rfl, trivial⟩⟩)
    · exact OpOK.of (fun g25 => [(.tmp 2, BP b1 0), (.tmp 16, .agg #[.slice a21 (List.length t19.Cells) c22, .slice a23 (List.length t19.Wet) c24, .int .i64 t19.Fuse, .bool t19.Dead])]) _ _ (fun g25 _ => g25) rfl rfl (fun _ => ⟨rfl, rfl, trivial⟩) (fun g25 => OT.storeC (cs' := [.slice a21 (List.length t19.Cells) c22, .slice a23 (List.length t19.Wet) c24, .int .i64 t19.Fuse, .bool t19.Dead]) sz27 rfl rfl rfl rfl rfl) (fun _ _ => ⟨rfl, rfl, ⟨rfl, rfl, rfl, rfl, rfl, trivial⟩⟩)
    refine HQ.keep [(2, _), (3, _), (19, _)] ⟨rfl, rfl, rfl, trivial⟩ ?_
    refine HQ.keepR [(1, _), (2, _), (3, _), (4, _), (5, _), (6, _), (7, _), (8, _)] ⟨rfl, rfl, rfl, rfl, rfl, rfl, rfl, rfl, trivial⟩ rfl ?_
    refine HQ.pu Pu.assign ⟨rfl, trivial⟩ rfl rfl rfl ?_
    refine HQ.done ?_
    refine HQ.keep [(2, _), (3, _)] ⟨rfl, rfl, trivial⟩ ?_
    refine HQ.ret ?_
    obtain rfl := Option.some.inj H
    exact HQ.fin (vs := [_, _]) Try.results16 ((a21, c22), (a23, c24)) ⟨⟨_, _, 1, rfl, rfl, ag27, sz27, rfl⟩, rfl, trivial⟩ rfl [7, 8] ⟨rfl, rfl, trivial⟩ rfl
  · refine HQ.condF rfl hc ?_
    clear hc
    refine HQ.skipThen ?_
    obtain ⟨t29, h30, H⟩ := bnd H
    refine HQ.drawS mixd [(2, BP b1 0), (3, .int .i64 0), (4, BP b4 0), (5, BP b11 0)] 5 [⟨[0], [0], []⟩, ⟨[], [], []⟩, ⟨[1], [2], [1]⟩, ⟨[], [], [2]⟩, ⟨[3], [4], [0]⟩] [⟨none, none⟩, ⟨none, some 2⟩, ⟨some 2, none⟩, ⟨none, some 4⟩, ⟨some 4, none⟩] (fun (g28 : Unit) => [.agg #[.slice a7 (List.length t5.1.Cells) c8, .slice a9 (List.length t5.1.Wet) c10, .int .i64 t5.1.Fuse, .bool t5.1.Dead], BP b4 0, .int .i64 t29.1, .int .i64 (wrap64 (t29.1 - 1)), undef]) (fun (g28 : Unit) => [Box b11 [.slice a7 (List.length t5.1.Cells) c8, .slice a9 (List.length t5.1.Wet) c10, .int .i64 t5.1.Fuse, .bool t5.1.Dead], Box b4 [.slice a_0 (List.length p0) c_0, .int .i64 t12.2.i, .int .i64 t12.2.h], Box b4 [.slice a_0 (List.length p0) c_0, .int .i64 t29.2.i, .int .i64 t29.2.h], Box b1 [.slice none 0 0, .slice none 0 0, .int .i64 0, .bool false], Box b1 [.slice a7 (List.length t5.1.Cells) c8, .slice a9 (List.length t5.1.Wet) c10, .int .i64 t5.1.Fuse, .bool t5.1.Dead]]) () [5, 2, 1] [5, 2, 1] [] ⟨rfl, rfl, rfl, rfl, trivial⟩ ⟨rfl, rfl, rfl, trivial⟩ rfl (by kernel_rfl) (fun _ => rfl) (by kernel_rfl) (fun _ => rfl) ⟨?_, ?_, ?_, ?_, ?_, trivial⟩ fun g28 => ?_
    · exact OpOK.of (fun g28 => [(.tmp 5, BP b11 0)]) _ _ (fun g28 _ => g28) rfl rfl (fun _ => ⟨rfl, trivial⟩) (fun g28 => OT.loadBA (vs := [.slice a7 (List.length t5.1.Cells) c8, .slice a9 (List.length t5.1.Wet) c10, .int .i64 t5.1.Fuse, .bool t5.1.Dead]) ag27 sz27 rfl rfl) (fun _ _ => ⟨rfl, rfl, ⟨rfl, rfl, rfl, rfl, rfl, trivial⟩⟩)
    · exact OpOK.of (fun g28 => [(.tmp 4, BP b4 0)]) _ _ (fun g28 _ => g28) rfl rfl (fun _ => ⟨rfl, trivial⟩) (fun g28 => Pu.toOT Pu.move) (fun _ _ => ⟨rfl, rfl, ⟨rfl, rfl, rfl, rfl, rfl, trivial⟩⟩)
    · exact OpOK.of (fun g28 => [(.func 86, .func (.func 86) #[] #[]), (.tmp 17, BP b4 0), (.const (.int .i64 10), .int .i64 10)]) _ _ (fun g28 _ => g28) rfl rfl (fun _ => ⟨rfl, rfl, rfl, trivial⟩) (fun g28 => OT.callM (us := [_, _]) (PreX := [Box b4 [.slice a_0 (List.length p0) c_0, .int .i64 t12.2.i, .int .i64 t12.2.h]]) (PreL := []) [.tmp 17, .const (.int .i64 10)] Try.call86 rfl rfl fun w FX FL hs1 hF1 hs2 hF2 hp => spec_l1Below_c (p0 := (⟨p0, t12.2.i, t12.2.h⟩ : TCur)) (p1 := 10) hs1 hF1 (hb_0.passY hp) h30) (fun _ _ => ⟨rfl, rfl, ⟨rfl, rfl, rfl, rfl, rfl, trivial⟩⟩)
    · exact OpOK.of (fun g28 => [(.tmp 18, .int .i64 t29.1), (.const (.int .i64 1), .int .i64 1)]) _ _ (fun g28 _ => g28) rfl rfl (fun _ => ⟨rfl, rfl, trivial⟩) (fun g28 => Pu.toOT Pu.sub) (fun _ _ => ⟨rfl, rfl, ⟨rfl, rfl, rfl, rfl, rfl, trivial⟩⟩)
    · exact OpOK.of (fun g28 => [(.tmp 2, BP b1 0), (.tmp 16, .agg #[.slice a7 (List.length t5.1.Cells) c8, .slice a9 (List.length t5.1.Wet) c10, .int .i64 t5.1.Fuse, .bool t5.1.Dead])]) _ _ (fun g28 _ => g28) rfl rfl (fun _ => ⟨rfl, rfl, trivial⟩) (fun g28 => OT.storeC (cs' := [.slice a7 (List.length t5.1.Cells) c8, .slice a9 (List.length t5.1.Wet) c10, .int .i64 t5.1.Fuse, .bool t5.1.Dead]) sz27 rfl rfl rfl rfl rfl) (fun _ _ => ⟨rfl, rfl, ⟨rfl, rfl, rfl, rfl, rfl, trivial⟩⟩)
    refine HQ.keep [(2, _), (3, _), (19, _)] ⟨rfl, rfl, rfl, trivial⟩ ?_
    refine HQ.keepR [(1, _), (2, _), (3, _), (4, _), (5, _)] ⟨rfl, rfl, rfl, rfl, rfl, trivial⟩ rfl ?_
    refine HQ.pu Pu.assign ⟨rfl, trivial⟩ rfl rfl rfl ?_
    refine HQ.done ?_
    refine HQ.keep [(2, _), (3, _)] ⟨rfl, rfl, trivial⟩ ?_
    refine HQ.ret ?_
    obtain rfl := Option.some.inj H
    exact HQ.fin (vs := [_, _]) Try.results16 ((a7, c8), (a9, c10)) ⟨⟨_, _, 1, rfl, rfl, ag27, sz27, rfl⟩, rfl, trivial⟩ rfl [3, 4] ⟨rfl, rfl, trivial⟩ rfl

/-! impl.Read -/
theorem impl_Read_c {w : World} {k : Nat} {p0 : TDisk} {p1 : Int} {a_0 : Option Addr} {c_0 : Nat} {a_1 : Option Addr} {c_1 : Nat} (hb_0 : BorS kTCell a_0 c_0 p0.Cells w.heap (Lt w Nil)) (hb_1 : BorS kTWet a_1 c_1 p0.Wet w.heap (Lt w Nil)) {r : (List Int) × Bool} (H : impl_Read k p0 p1 = some r) :
    Calls Try.prog 17 #[.agg #[.slice a_0 (List.length p0.Cells) c_0, .slice a_1 (List.length p0.Wet) c_1, .int .i64 p0.Fuse, .bool p0.Dead], .int .i64 p1] w (Rt w Nil (fun g : Option Addr × Nat => .tuple #[.slice g.1 (List.length r.1) g.2, .bool r.2]) (fun g => [OwnS kU8 g.1 g.2 r.1])) := by
  rw [impl_Read] at H
  refine Calls.enter0 (N := 64) (us := [_, _]) Try.func17 rfl rfl rfl ?_
  refine HQ.rseq ?_
  refine HQ.op [] [1] (OT.box (cs := [.slice a_0 (List.length p0.Cells) c_0, .slice a_1 (List.length p0.Wet) c_1, .int .i64 p0.Fuse, .bool p0.Dead]) rfl) ⟨rfl, trivial⟩ trivial rfl rfl rfl rfl (fun _ => rfl) fun b1 => ?_
  refine HQ.pu Pu.assign ⟨rfl, trivial⟩ rfl rfl rfl ?_
  refine HQ.pu Pu.assign ⟨rfl, trivial⟩ rfl rfl rfl ?_
  refine HQ.done ?_
  refine HQ.keep [(1, _), (2, _), (4, _), (5, _)] ⟨rfl, rfl, rfl, rfl, trivial⟩ ?_
  refine HQ.seq ?_
  refine HQ.rseq ?_
  refine HQ.pu (Pu.fieldB fo27_1 rfl) ⟨rfl, trivial⟩ rfl rfl rfl ?_
  refine HQ.op [1] [1] (OT.loadB sc25 rfl) ⟨rfl, trivial⟩ ⟨rfl, trivial⟩ rfl rfl rfl rfl (fun _ => rfl) fun _ => ?_
  refine HQ.pu (Pu.len ul25) ⟨rfl, trivial⟩ rfl rfl rfl ?_
  refine HQ.pu Pu.sub ⟨rfl, rfl, trivial⟩ rfl rfl rfl ?_
  refine HQ.pu Pu.assign ⟨rfl, trivial⟩ rfl rfl rfl ?_
  refine HQ.done ?_
  refine HQ.keep [(1, _), (2, _), (4, _), (5, _), (6, _)] ⟨rfl, rfl, rfl, rfl, rfl, trivial⟩ ?_
  refine HQ.block ?_
  obtain ⟨o45, h73, H⟩ := bnd H
  refine HQ.loop h73 0 (fun (s : Int) (g : Unit) => match s, g with | i16, () => [(1, .int .i64 p1), (2, BP b1 0), (4, .slice none 0 0), (5, .bool false), (6, .int .i64 i16)]) (fun (s : Int) (g : Unit) => match s, g with | i16, () => [(1, Box b1 [.slice a_0 (List.length p0.Cells) c_0, .slice a_1 (List.length p0.Wet) c_1, .int .i64 p0.Fuse, .bool p0.Dead])]) (fun r => bodyPost Try.prog Try.f17 (Rt w Nil (fun g : Option Addr × Nat => .tuple #[.slice g.1 (List.length r.1) g.2, .bool r.2]) (fun g => [OwnS kU8 g.1 g.2 r.1])) .ret) () ⟨rfl, rfl, rfl, rfl, rfl, trivial⟩ ⟨rfl, trivial⟩ rfl ?_ ?_ ?_
  · clear H h73
    rintro i16 _ o H
    rw [impl_Read_b0] at H
    refine HQ.keep [(1, _), (2, _), (4, _), (5, _), (6, _)] ⟨rfl, rfl, rfl, rfl, rfl, trivial⟩ ?_
    refine HQ.keepR [(1, _)] ⟨rfl, trivial⟩ rfl ?_
    refine HQ.seq ?_
    refine HQ.rseq ?_
    refine HQ.pu Pu.move ⟨rfl, trivial⟩ rfl rfl rfl ?_
    refine HQ.pu Pu.geq ⟨rfl, rfl, trivial⟩ rfl rfl rfl ?_
    refine HQ.done ?_
    refine HQ.keep [(1, _), (2, _), (4, _), (5, _), (6, _), (12, _)] ⟨rfl, rfl, rfl, rfl, rfl, rfl, trivial⟩ ?_
    rcases brk H with ⟨hc, H⟩ | ⟨hc, H⟩
    · refine HQ.condT rfl hc ?_
      clear hc
      refine HQ.skipThen ?_
      refine HQ.seq ?_
      refine HQ.block ?_
      refine HQ.rseq ?_
      refine HQ.pu (Pu.fieldB fo27_1 rfl) ⟨rfl, trivial⟩ rfl rfl rfl ?_
      refine HQ.op [1] [1] (OT.loadB sc25 rfl) ⟨rfl, trivial⟩ ⟨rfl, trivial⟩ rfl rfl rfl rfl (fun _ => rfl) fun _ => ?_
      refine HQ.pu Pu.move ⟨rfl, trivial⟩ rfl rfl rfl ?_
      obtain ⟨h31, H⟩ := asr H
      refine HQ.op [] [] (OT.indexB ul25 sz110 hb_1 h31) ⟨rfl, rfl, trivial⟩ trivial rfl rfl rfl rfl (fun _ => rfl) fun _ => ?_
      refine HQ.pu (Pu.fieldE fo110_0 rfl) ⟨rfl, trivial⟩ rfl rfl rfl ?_
      obtain ⟨⟨a32, c33⟩, hb34, hn35⟩ := BorS.nest hb_1 h31
      refine HQ.op [] [] (OT.loadN (v := .int .i64 ((gt p0.Wet i16).At)) sc3 hn35 hlTWet rfl) ⟨rfl, trivial⟩ trivial rfl rfl rfl rfl (fun _ => rfl) fun _ => ?_
      refine HQ.pu Pu.move ⟨rfl, trivial⟩ rfl rfl rfl ?_
      refine HQ.pu Pu.eql ⟨rfl, rfl, trivial⟩ rfl rfl rfl ?_
      refine HQ.done ?_
      refine HQ.keep [(1, _), (2, _), (4, _), (5, _), (6, _), (22, _)] ⟨rfl, rfl, rfl, rfl, rfl, rfl, trivial⟩ ?_
      rcases brk H with ⟨hc, H⟩ | ⟨hc, H⟩
      · refine HQ.condT rfl hc ?_
        clear hc
        refine HQ.rseq ?_
        refine HQ.pu (Pu.fieldB fo27_1 rfl) ⟨rfl, trivial⟩ rfl rfl rfl ?_
        refine HQ.op [1] [1] (OT.loadB sc25 rfl) ⟨rfl, trivial⟩ ⟨rfl, trivial⟩ rfl rfl rfl rfl (fun _ => rfl) fun _ => ?_
        refine HQ.pu Pu.move ⟨rfl, trivial⟩ rfl rfl rfl ?_
        obtain ⟨h36, H⟩ := asr H
        refine HQ.op [] [] (OT.indexB ul25 sz110 hb_1 h36) ⟨rfl, rfl, trivial⟩ trivial rfl rfl rfl rfl (fun _ => rfl) fun _ => ?_
        refine HQ.pu (Pu.fieldE fo110_1 rfl) ⟨rfl, trivial⟩ rfl rfl rfl ?_
        obtain ⟨⟨a37, c38⟩, hb39, hn40⟩ := BorS.nest hb_1 h36
        refine HQ.op [] [] (OT.loadN (v := .slice a37 (List.length ((gt p0.Wet i16).B)) c38) sc22 hn40 hlTWet rfl) ⟨rfl, trivial⟩ trivial rfl rfl rfl rfl (fun _ => rfl) fun _ => ?_
        obtain ⟨t41, h42, H⟩ := bnd H
        refine HQ.op [] [4] (OT.call (us := [_]) (Pre := []) [.tmp 28] Try.call88 rfl rfl fun w F hs hF hp => slices_Clone_byte_byte_c (hb39.pass hp) h42) ⟨rfl, rfl, trivial⟩ trivial rfl rfl rfl rfl (fun _ => rfl) fun ⟨a43, c44⟩ => ?_
        refine HQ.pu Pu.assign ⟨rfl, trivial⟩ rfl rfl rfl ?_
        refine HQ.pu Pu.assign ⟨rfl, trivial⟩ rfl rfl rfl ?_
        refine HQ.done ?_
        refine HQ.keep [(1, _), (2, _), (4, _), (5, _), (6, _)] ⟨rfl, rfl, rfl, rfl, rfl, trivial⟩ ?_
        refine HQ.ret ?_
        refine HQ.blkR ?_
        refine HQ.thenR ?_
        obtain rfl := Option.some.inj H
        refine HQ.retL ?_
        exact HQ.fin (vs := [_, _]) Try.results17 (a43, c44) ⟨rfl, rfl, trivial⟩ rfl [4] ⟨rfl, trivial⟩ rfl
      · refine HQ.condF rfl hc ?_
        clear hc
        refine HQ.skip ?_
        refine HQ.blkN ?_
        refine HQ.thenN ?_
        refine HQ.regionQ ?_
        refine HQ.pu Pu.move ⟨rfl, trivial⟩ rfl rfl rfl ?_
        refine HQ.pu Pu.sub ⟨rfl, rfl, trivial⟩ rfl rfl rfl ?_
        refine HQ.pu Pu.assign ⟨rfl, trivial⟩ rfl rfl rfl ?_
        refine HQ.done ?_
        refine HQ.keep [(1, _), (2, _), (4, _), (5, _), (6, _)] ⟨rfl, rfl, rfl, rfl, rfl, trivial⟩ ?_
        obtain rfl := Option.some.inj H
        exact HQ.next () ⟨rfl, rfl, rfl, rfl, rfl, trivial⟩ ⟨rfl, trivial⟩ rfl
    · refine HQ.condF rfl hc ?_
      clear hc
      refine HQ.exit ?_
      refine HQ.thenE ?_
      obtain rfl := Option.some.inj H
      exact HQ.out () ⟨rfl, rfl, rfl, rfl, rfl, trivial⟩ ⟨rfl, trivial⟩ rfl
  · rintro i46 rfl _
    clear h73
    replace H := H
    refine HQ.keep [(1, _), (2, _), (4, _), (5, _), (6, _)] ⟨rfl, rfl, rfl, rfl, rfl, trivial⟩ ?_
    refine HQ.keepR [(1, _)] ⟨rfl, trivial⟩ rfl ?_
    refine HQ.blkE ?_
    refine HQ.thenN ?_
    refine HQ.seq ?_
    refine HQ.rseq ?_
    refine HQ.pu Pu.move ⟨rfl, trivial⟩ rfl rfl rfl ?_
    refine HQ.pu Pu.lss ⟨rfl, rfl, trivial⟩ rfl rfl rfl ?_
    refine HQ.pu Pu.move ⟨rfl, trivial⟩ rfl rfl rfl ?_
    refine HQ.cutAt 6 [(38, .bool ((decide (p1 < 0)) || (decide (p1 ≥ ((List.length p0.Cells : Nat) : Int))))), (1, .int .i64 p1), (2, BP b1 0), (4, .slice none 0 0), (5, .bool false)] [(1, Box b1 [.slice a_0 (List.length p0.Cells) c_0, .slice a_1 (List.length p0.Wet) c_1, .int .i64 p0.Fuse, .bool p0.Dead])] ?_ ?_
    · rcases Bool.eq_false_or_eq_true (decide (p1 < 0)) with hg47 | hg47
      · refine HQ.off rfl rfl hg47 rfl ?_
        refine HQ.off rfl rfl hg47 rfl ?_
        refine HQ.off rfl rfl hg47 rfl ?_
        refine HQ.off rfl rfl hg47 rfl ?_
        refine HQ.off rfl rfl hg47 rfl ?_
        refine HQ.pu (Pu.pickOT (u := (decide (p1 ≥ ((List.length p0.Cells : Nat) : Int)))) hg47) ⟨rfl, rfl, trivial⟩ rfl rfl rfl ?_
        exact HQ.mid ⟨rfl, rfl, rfl, rfl, rfl, trivial⟩ ⟨rfl, trivial⟩ rfl
      · refine HQ.on rfl rfl hg47 ?_
        refine HQ.pu Pu.move ⟨rfl, trivial⟩ rfl rfl rfl ?_
        refine HQ.on rfl rfl hg47 ?_
        refine HQ.pu (Pu.fieldB fo27_0 rfl) ⟨rfl, trivial⟩ rfl rfl rfl ?_
        refine HQ.on rfl rfl hg47 ?_
        refine HQ.op [1] [1] (OT.loadB sc24 rfl) ⟨rfl, trivial⟩ ⟨rfl, trivial⟩ rfl rfl rfl rfl (fun _ => rfl) fun _ => ?_
        refine HQ.on rfl rfl hg47 ?_
        refine HQ.pu (Pu.len ul24) ⟨rfl, trivial⟩ rfl rfl rfl ?_
        refine HQ.on rfl rfl hg47 ?_
        refine HQ.pu Pu.geq ⟨rfl, rfl, trivial⟩ rfl rfl rfl ?_
        refine HQ.pu (Pu.pickOF hg47) ⟨rfl, rfl, trivial⟩ rfl rfl rfl ?_
        exact HQ.mid ⟨rfl, rfl, rfl, rfl, rfl, trivial⟩ ⟨rfl, trivial⟩ rfl
    refine HQ.pu Pu.move ⟨rfl, trivial⟩ rfl rfl rfl ?_
    obtain ⟨c54, h55, H⟩ := bnd H
    refine HQ.cutAt 7 [(46, .bool c54), (1, .int .i64 p1), (2, BP b1 0), (4, .slice none 0 0), (5, .bool false)] [(1, Box b1 [.slice a_0 (List.length p0.Cells) c_0, .slice a_1 (List.length p0.Wet) c_1, .int .i64 p0.Fuse, .bool p0.Dead])] ?_ ?_
    · clear H
      have H := h55
      rcases brk H with ⟨hg48, H⟩ | ⟨hg48, H⟩
      · obtain rfl := Option.some.inj H
        refine HQ.off rfl rfl hg48 rfl ?_
        refine HQ.off rfl rfl hg48 rfl ?_
        refine HQ.off rfl rfl hg48 rfl ?_
        refine HQ.off rfl rfl hg48 rfl ?_
        refine HQ.off rfl rfl hg48 rfl ?_
        refine HQ.off rfl rfl hg48 rfl ?_
        refine HQ.pu (Pu.pickC1 hg48) ⟨rfl, rfl, trivial⟩ rfl rfl rfl ?_
        exact HQ.mid ⟨rfl, rfl, rfl, rfl, rfl, trivial⟩ ⟨rfl, trivial⟩ rfl
      · refine HQ.on rfl rfl hg48 ?_
        refine HQ.pu (Pu.fieldB fo27_0 rfl) ⟨rfl, trivial⟩ rfl rfl rfl ?_
        refine HQ.on rfl rfl hg48 ?_
        refine HQ.op [1] [1] (OT.loadB sc24 rfl) ⟨rfl, trivial⟩ ⟨rfl, trivial⟩ rfl rfl rfl rfl (fun _ => rfl) fun _ => ?_
        refine HQ.on rfl rfl hg48 ?_
        refine HQ.pu Pu.move ⟨rfl, trivial⟩ rfl rfl rfl ?_
        refine HQ.on rfl rfl hg48 ?_
        obtain ⟨h49, H⟩ := asr H
        refine HQ.op [] [] (OT.indexB ul24 sz113 hb_0 h49) ⟨rfl, rfl, trivial⟩ trivial rfl rfl rfl rfl (fun _ => rfl) fun _ => ?_
        refine HQ.on rfl rfl hg48 ?_
        refine HQ.pu (Pu.fieldE fo113_0 rfl) ⟨rfl, trivial⟩ rfl rfl rfl ?_
        refine HQ.on rfl rfl hg48 ?_
        obtain ⟨⟨a50, c51⟩, hb52, hn53⟩ := BorS.nest hb_0 h49
        refine HQ.op [] [] (OT.loadN (v := .bool ((gt p0.Cells p1).Bad)) sc4 hn53 hlTCell rfl) ⟨rfl, trivial⟩ trivial rfl rfl rfl rfl (fun _ => rfl) fun _ => ?_
        obtain rfl := Option.some.inj H
        refine HQ.pu (Pu.pickC0 hg48) ⟨rfl, rfl, trivial⟩ rfl rfl rfl ?_
        exact HQ.mid ⟨rfl, rfl, rfl, rfl, rfl, trivial⟩ ⟨rfl, trivial⟩ rfl
    refine HQ.pu Pu.move ⟨rfl, trivial⟩ rfl rfl rfl ?_
    obtain ⟨c62, h63, H⟩ := bnd H
    refine HQ.cutAt 9 [(56, .bool c62), (1, .int .i64 p1), (2, BP b1 0), (4, .slice none 0 0), (5, .bool false)] [(1, Box b1 [.slice a_0 (List.length p0.Cells) c_0, .slice a_1 (List.length p0.Wet) c_1, .int .i64 p0.Fuse, .bool p0.Dead])] ?_ ?_
    · clear H
      have H := h63
      rcases brk H with ⟨hg56, H⟩ | ⟨hg56, H⟩
      · obtain rfl := Option.some.inj H
        refine HQ.off rfl rfl hg56 rfl ?_
        refine HQ.off rfl rfl hg56 rfl ?_
        refine HQ.off rfl rfl hg56 rfl ?_
        refine HQ.off rfl rfl hg56 rfl ?_
        refine HQ.off rfl rfl hg56 rfl ?_
        refine HQ.off rfl rfl hg56 rfl ?_
        refine HQ.off rfl rfl hg56 rfl ?_
        refine HQ.off rfl rfl hg56 rfl ?_
        refine HQ.pu (Pu.pickC1 hg56) ⟨rfl, rfl, trivial⟩ rfl rfl rfl ?_
        exact HQ.mid ⟨rfl, rfl, rfl, rfl, rfl, trivial⟩ ⟨rfl, trivial⟩ rfl
      · refine HQ.on rfl rfl hg56 ?_
        refine HQ.pu (Pu.fieldB fo27_0 rfl) ⟨rfl, trivial⟩ rfl rfl rfl ?_
        refine HQ.on rfl rfl hg56 ?_
        refine HQ.op [1] [1] (OT.loadB sc24 rfl) ⟨rfl, trivial⟩ ⟨rfl, trivial⟩ rfl rfl rfl rfl (fun _ => rfl) fun _ => ?_
        refine HQ.on rfl rfl hg56 ?_
        refine HQ.pu Pu.move ⟨rfl, trivial⟩ rfl rfl rfl ?_
        refine HQ.on rfl rfl hg56 ?_
        obtain ⟨h57, H⟩ := asr H
        refine HQ.op [] [] (OT.indexB ul24 sz113 hb_0 h57) ⟨rfl, rfl, trivial⟩ trivial rfl rfl rfl rfl (fun _ => rfl) fun _ => ?_
        refine HQ.on rfl rfl hg56 ?_
        refine HQ.pu (Pu.fieldE fo113_1 rfl) ⟨rfl, trivial⟩ rfl rfl rfl ?_
        refine HQ.on rfl rfl hg56 ?_
        obtain ⟨⟨a58, c59⟩, hb60, hn61⟩ := BorS.nest hb_0 h57
        refine HQ.op [] [] (OT.loadN (v := .slice a58 (List.length ((gt p0.Cells p1).B)) c59) sc22 hn61 hlTCell rfl) ⟨rfl, trivial⟩ trivial rfl rfl rfl rfl (fun _ => rfl) fun _ => ?_
        refine HQ.on rfl rfl hg56 ?_
        refine HQ.pu (Pu.len ul22) ⟨rfl, trivial⟩ rfl rfl rfl ?_
        refine HQ.on rfl rfl hg56 ?_
        refine HQ.pu Pu.eql ⟨rfl, rfl, trivial⟩ rfl rfl rfl ?_
        obtain rfl := Option.some.inj H
        refine HQ.pu (Pu.pickC0 hg56) ⟨rfl, rfl, trivial⟩ rfl rfl rfl ?_
        exact HQ.mid ⟨rfl, rfl, rfl, rfl, rfl, trivial⟩ ⟨rfl, trivial⟩ rfl
    refine HQ.done ?_
    refine HQ.keep [(56, _), (1, _), (2, _), (4, _), (5, _)] ⟨rfl, rfl, rfl, rfl, rfl, trivial⟩ ?_
    rcases brk H with ⟨hc, H⟩ | ⟨hc, H⟩
    · refine HQ.condT rfl hc ?_
      clear hc
      refine HQ.rseq ?_
      refine HQ.pu Pu.assign ⟨rfl, trivial⟩ rfl rfl rfl ?_
      refine HQ.pu Pu.assign ⟨rfl, trivial⟩ rfl rfl rfl ?_
      refine HQ.done ?_
      refine HQ.keep [(1, _), (2, _), (4, _), (5, _)] ⟨rfl, rfl, rfl, rfl, trivial⟩ ?_
      refine HQ.ret ?_
      refine HQ.thenR ?_
      obtain rfl := Option.some.inj H
      refine HQ.nil kU8 5 rfl ?_
      exact HQ.fin (vs := [_, _]) Try.results17 (none, 0) ⟨rfl, rfl, trivial⟩ rfl [5] ⟨rfl, trivial⟩ rfl
    · refine HQ.condF rfl hc ?_
      clear hc
      refine HQ.skipThen ?_
      refine HQ.rseq ?_
      refine HQ.pu (Pu.fieldB fo27_0 rfl) ⟨rfl, trivial⟩ rfl rfl rfl ?_
      refine HQ.op [1] [1] (OT.loadB sc24 rfl) ⟨rfl, trivial⟩ ⟨rfl, trivial⟩ rfl rfl rfl rfl (fun _ => rfl) fun _ => ?_
      refine HQ.pu Pu.move ⟨rfl, trivial⟩ rfl rfl rfl ?_
      obtain ⟨h64, H⟩ := asr H
      refine HQ.op [] [] (OT.indexB ul24 sz113 hb_0 h64) ⟨rfl, rfl, trivial⟩ trivial rfl rfl rfl rfl (fun _ => rfl) fun _ => ?_
      refine HQ.pu (Pu.fieldE fo113_1 rfl) ⟨rfl, trivial⟩ rfl rfl rfl ?_
      obtain ⟨⟨a65, c66⟩, hb67, hn68⟩ := BorS.nest hb_0 h64
      refine HQ.op [] [] (OT.loadN (v := .slice a65 (List.length ((gt p0.Cells p1).B)) c66) sc22 hn68 hlTCell rfl) ⟨rfl, trivial⟩ trivial rfl rfl rfl rfl (fun _ => rfl) fun _ => ?_
      obtain ⟨t69, h70, H⟩ := bnd H
      refine HQ.op [] [6] (OT.call (us := [_]) (Pre := []) [.tmp 62] Try.call88 rfl rfl fun w F hs hF hp => slices_Clone_byte_byte_c (hb67.pass hp) h70) ⟨rfl, rfl, trivial⟩ trivial rfl rfl rfl rfl (fun _ => rfl) fun ⟨a71, c72⟩ => ?_
      refine HQ.pu Pu.assign ⟨rfl, trivial⟩ rfl rfl rfl ?_
      refine HQ.pu Pu.assign ⟨rfl, trivial⟩ rfl rfl rfl ?_
      refine HQ.done ?_
      refine HQ.keep [(4, _), (5, _)] ⟨rfl, rfl, trivial⟩ ?_
      refine HQ.ret ?_
      obtain rfl := Option.some.inj H
      exact HQ.fin (vs := [_, _]) Try.results17 (a71, c72) ⟨rfl, rfl, trivial⟩ rfl [6] ⟨rfl, trivial⟩ rfl
  · rintro r rfl a w hr
    obtain rfl := Option.some.inj H
    exact hr

end Go.Proofs.Sx
