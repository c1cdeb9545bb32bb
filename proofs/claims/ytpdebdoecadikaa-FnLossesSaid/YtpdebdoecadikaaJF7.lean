import Derived.Test.YtpdebdoecadikaaJF6
import Derived.KernelRfl
namespace Go.Proofs.Sx
open Go.RowKit
set_option linter.unusedVariables false
set_option linter.unusedSimpArgs false
set_option maxRecDepth 20000
set_option maxHeartbeats 1000000
/-! laws.FnLosses -/
theorem laws_FnLosses_c {w : World} {k : Nat} {p0 : (List Int)} {a_0 : Option Addr} {c_0 : Nat} (hb_0 : BorS kU8 a_0 c_0 p0 w.heap (Lt w Nil)) {r : Bool} (H : laws_FnLosses k p0 = some r) :
    Calls Try.prog 8 #[.slice a_0 (List.length p0) c_0] w (Rt w Nil (fun _ : Unit => .bool r) (fun _ => [])) := by
  rw [laws_FnLosses] at H
  refine Calls.enter0 (N := 104) (us := [_]) Try.func8 rfl rfl rfl ?_
  refine HQ.rseq ?_
  refine HQ.pu Pu.assign ⟨rfl, trivial⟩ rfl rfl rfl ?_
  refine HQ.done ?_
  refine HQ.keep [(0, _), (2, _)] ⟨rfl, rfl, trivial⟩ ?_
  refine HQ.seq ?_
  refine HQ.rseq ?_
  refine HQ.pu Pu.move ⟨rfl, trivial⟩ rfl rfl rfl ?_
  obtain ⟨t1, h2, H⟩ := bnd H
  refine HQ.op [] [] (OT.call (us := [_]) (Pre := []) [.tmp 15] Try.call35 rfl rfl fun w F hs hF hp => laws_big_c h2) ⟨rfl, rfl, trivial⟩ trivial rfl rfl rfl rfl (fun _ => rfl) fun _ => ?_
  refine HQ.done ?_
  refine HQ.keep [(0, _), (2, _), (16, _)] ⟨rfl, rfl, rfl, trivial⟩ ?_
  rcases brk H with ⟨hc, H⟩ | ⟨hc, H⟩
  · refine HQ.condT rfl hc ?_
    clear hc
    refine HQ.rseq ?_
    refine HQ.pu Pu.assign ⟨rfl, trivial⟩ rfl rfl rfl ?_
    refine HQ.done ?_
    refine HQ.keep [(0, _), (2, _)] ⟨rfl, rfl, trivial⟩ ?_
    refine HQ.ret ?_
    refine HQ.thenR ?_
    obtain rfl := Option.some.inj H
    exact HQ.fin (vs := [_]) Try.results8 () ⟨rfl, trivial⟩ rfl [] trivial rfl
  · refine HQ.condF rfl hc ?_
    clear hc
    refine HQ.skipThen ?_
    refine HQ.rseq ?_
    refine HQ.pu Pu.move ⟨rfl, trivial⟩ rfl rfl rfl ?_
    obtain ⟨t3, h4, H⟩ := bnd H
    refine HQ.op [] [1, 2, 3] (OT.call (us := [_]) (Pre := []) [.tmp 18] Try.call36 rfl rfl fun w F hs hF hp => spec_DrawCrash_c (hb_0.pass hp) h4) ⟨rfl, rfl, trivial⟩ trivial rfl rfl rfl rfl (fun _ => rfl) fun ⟨⟨a5, c6⟩, ⟨a7, c8⟩, ⟨a9, c10⟩⟩ => ?_
    refine HQ.pu Pu.move ⟨rfl, trivial⟩ rfl rfl rfl ?_
    refine HQ.pu (Pu.extract rfl) ⟨rfl, trivial⟩ rfl rfl rfl ?_
    refine HQ.pu (Pu.extract rfl) ⟨rfl, trivial⟩ rfl rfl rfl ?_
    refine HQ.pu (Pu.extract rfl) ⟨rfl, trivial⟩ rfl rfl rfl ?_
    refine HQ.op [] [4] (OT.alloc zc30) trivial trivial rfl rfl rfl rfl (fun _ => rfl) fun b11 => ?_
    refine HQ.opN [4] [4] [] (OT.storeC (cs' := [.slice a5 (List.length t3.1.Cells) c6, .slice a7 (List.length t3.1.Wet) c8, .int .i64 t3.1.Fuse, .bool t3.1.Dead]) sz30 rfl rfl rfl rfl rfl) ⟨rfl, rfl, trivial⟩ ⟨rfl, trivial⟩ rfl rfl rfl (fun _ => rfl) fun _ => ?_
    refine HQ.pu Pu.assign ⟨rfl, trivial⟩ rfl rfl rfl ?_
    refine HQ.pu Pu.assign ⟨rfl, trivial⟩ rfl rfl rfl ?_
    refine HQ.done ?_
    refine HQ.keep [(2, _), (3, _), (4, _)] ⟨rfl, rfl, rfl, trivial⟩ ?_
    refine HQ.rseq ?_
    refine HQ.op [4] [4] (OT.loadBA (vs := [.slice a5 (List.length t3.1.Cells) c6, .slice a7 (List.length t3.1.Wet) c8, .int .i64 t3.1.Fuse, .bool t3.1.Dead]) ag30 sz30 rfl rfl) ⟨rfl, trivial⟩ ⟨rfl, trivial⟩ rfl rfl rfl rfl (fun _ => rfl) fun _ => ?_
    refine HQ.pu Pu.move ⟨rfl, trivial⟩ rfl rfl rfl ?_
    obtain ⟨t12, h13, H⟩ := bnd H
    refine HQ.op [1, 2, 3] [5, 6, 1, 2, 3] (OT.call (us := [_, _, _]) (Pre := [OwnS kTCell a5 c6 t3.1.Cells, OwnS kTWet a7 c8 t3.1.Wet, OwnS kI a9 c10 t3.2.1]) [.tmp 23, .tmp 24, .const (.int .i64 (-1))] Try.call18 rfl rfl fun w F hs hF hp => impl_Crash_c (hs.lend hF 0 rfl) (hs.lend hF 1 rfl) (hs.lend hF 2 rfl) h13) ⟨rfl, rfl, rfl, rfl, trivial⟩ ⟨rfl, rfl, rfl, trivial⟩ rfl rfl rfl rfl (fun _ => rfl) fun ⟨⟨a14, c15⟩, ⟨a16, c17⟩⟩ => ?_
    refine HQ.op [] [7] (OT.alloc zc30) trivial trivial rfl rfl rfl rfl (fun _ => rfl) fun b18 => ?_
    refine HQ.opN [7] [7] [] (OT.storeC (cs' := [.slice a14 (List.length t12.Cells) c15, .slice a16 (List.length t12.Wet) c17, .int .i64 t12.Fuse, .bool t12.Dead]) sz30 rfl rfl rfl rfl rfl) ⟨rfl, rfl, trivial⟩ ⟨rfl, trivial⟩ rfl rfl rfl (fun _ => rfl) fun _ => ?_
    refine HQ.done ?_
    refine HQ.keep [(2, _), (3, _), (4, _), (6, _)] ⟨rfl, rfl, rfl, rfl, trivial⟩ ?_
    refine HQ.seq ?_
    obtain ⟨t20, h21, H⟩ := bnd H
    refine HQ.drawS mixd [(2, .bool false), (3, BP b11 0), (4, .slice a9 (List.length t3.2.1) c10), (6, BP b18 0)] 4 [⟨[0], [0], []⟩, ⟨[1], [1], []⟩, ⟨[], [], []⟩, ⟨[2, 3, 4], [5, 6, 2, 3, 4], [1, 2]⟩] [⟨none, none⟩, ⟨none, none⟩, ⟨none, none⟩, ⟨none, none⟩, ⟨none, none⟩, ⟨some 3, none⟩, ⟨some 3, none⟩] (fun (g19 : ((Option Addr × Nat) × (Option Addr × Nat))) => [.agg #[.slice a14 (List.length t12.Cells) c15, .slice a16 (List.length t12.Wet) c17, .int .i64 t12.Fuse, .bool t12.Dead], .agg #[.slice a5 (List.length t3.1.Cells) c6, .slice a7 (List.length t3.1.Wet) c8, .int .i64 t3.1.Fuse, .bool t3.1.Dead], .slice a9 (List.length t3.2.1) c10, .agg #[.slice g19.1.1 (List.length t20.Cells) g19.1.2, .slice g19.2.1 (List.length t20.Wet) g19.2.2, .int .i64 t20.Fuse, .bool t20.Dead]]) (fun (g19 : ((Option Addr × Nat) × (Option Addr × Nat))) => [Box b18 [.slice a14 (List.length t12.Cells) c15, .slice a16 (List.length t12.Wet) c17, .int .i64 t12.Fuse, .bool t12.Dead], Box b11 [.slice a5 (List.length t3.1.Cells) c6, .slice a7 (List.length t3.1.Wet) c8, .int .i64 t3.1.Fuse, .bool t3.1.Dead], OwnS kTCell a5 c6 t3.1.Cells, OwnS kTWet a7 c8 t3.1.Wet, OwnS kI a9 c10 t3.2.1, OwnS kTCell g19.1.1 g19.1.2 t20.Cells, OwnS kTWet g19.2.1 g19.2.2 t20.Wet]) ((none, 0), (none, 0)) [7, 4, 1, 2, 3] [7, 4, 1, 2, 3, 8, 9] [] ⟨rfl, rfl, rfl, rfl, trivial⟩ ⟨rfl, rfl, rfl, rfl, rfl, trivial⟩ rfl (by kernel_rfl) (fun _ => rfl) (by kernel_rfl) (fun _ => rfl) ⟨?_, ?_, ?_, ?_, trivial⟩ fun g19 => ?_
    · exact OpOK.of (fun g19 => [(.tmp 6, BP b18 0)]) _ _ (fun g19 _ => g19) rfl rfl (fun _ => ⟨rfl, trivial⟩) (fun g19 => OT.loadBA (vs := [.slice a14 (List.length t12.Cells) c15, .slice a16 (List.length t12.Wet) c17, .int .i64 t12.Fuse, .bool t12.Dead]) ag30 sz30 rfl rfl) (fun _ _ => ⟨rfl, rfl, ⟨rfl, rfl, rfl, rfl, rfl, rfl, rfl, trivial⟩⟩)
    · exact OpOK.of (fun g19 => [(.tmp 3, BP b11 0)]) _ _ (fun g19 _ => g19) rfl rfl (fun _ => ⟨rfl, trivial⟩) (fun g19 => OT.loadBA (vs := [.slice a5 (List.length t3.1.Cells) c6, .slice a7 (List.length t3.1.Wet) c8, .int .i64 t3.1.Fuse, .bool t3.1.Dead]) ag30 sz30 rfl rfl) (fun _ _ => ⟨rfl, rfl, ⟨rfl, rfl, rfl, rfl, rfl, rfl, rfl, trivial⟩⟩)
    · exact OpOK.of (fun g19 => [(.tmp 4, .slice a9 (List.length t3.2.1) c10)]) _ _ (fun g19 _ => g19) rfl rfl (fun _ => ⟨rfl, trivial⟩) (fun g19 => Pu.toOT Pu.move) (fun _ _ => ⟨rfl, rfl, ⟨rfl, rfl, rfl, rfl, rfl, rfl, rfl, trivial⟩⟩)
    · exact OpOK.of (fun g19 => [(.func 16, .func (.func 16) #[] #[]), (.tmp 27, .agg #[.slice a5 (List.length t3.1.Cells) c6, .slice a7 (List.length t3.1.Wet) c8, .int .i64 t3.1.Fuse, .bool t3.1.Dead]), (.tmp 28, .slice a9 (List.length t3.2.1) c10), (.const (.int .i64 (-1)), .int .i64 (-1))]) _ _ (fun g19 x => x) rfl rfl (fun _ => ⟨rfl, rfl, rfl, rfl, trivial⟩) (fun g19 => OT.call (us := [_, _, _]) (Pre := [OwnS kTCell a5 c6 t3.1.Cells, OwnS kTWet a7 c8 t3.1.Wet, OwnS kI a9 c10 t3.2.1]) [.tmp 27, .tmp 28, .const (.int .i64 (-1))] Try.call16 rfl rfl fun w F hs hF hp => spec_Crash_c (hs.lend hF 0 rfl) (hs.lend hF 1 rfl) (hs.lend hF 2 rfl) h21) (fun _ _ => ⟨rfl, rfl, ⟨rfl, rfl, rfl, rfl, rfl, rfl, rfl, trivial⟩⟩)
    refine HQ.keep [(2, _), (3, _), (6, _), (26, _), (29, _)] ⟨rfl, rfl, rfl, rfl, rfl, trivial⟩ ?_
    refine HQ.keepR [(1, _), (2, _), (3, _), (4, _), (5, _), (6, _), (7, _), (8, _), (9, _)] ⟨rfl, rfl, rfl, rfl, rfl, rfl, rfl, rfl, rfl, trivial⟩ rfl ?_
    obtain ⟨t26, h27, H⟩ := bnd H
    refine HQ.op [5, 6, 8, 9] [5, 6, 8, 9] (OT.call (us := [_, _]) (Pre := [OwnS kTCell a14 c15 t12.Cells, OwnS kTWet a16 c17 t12.Wet, OwnS kTCell g19.1.1 g19.1.2 t20.Cells, OwnS kTWet g19.2.1 g19.2.2 t20.Wet]) [.tmp 26, .tmp 29] Try.call37 rfl rfl fun w F hs hF hp => laws_sameDisk_c (hs.lend hF 0 rfl) (hs.lend hF 1 rfl) (hs.lend hF 2 rfl) (hs.lend hF 3 rfl) h27) ⟨rfl, rfl, rfl, trivial⟩ ⟨rfl, rfl, rfl, rfl, trivial⟩ rfl rfl rfl rfl (fun _ => rfl) fun _ => ?_
    refine HQ.pu Pu.not ⟨rfl, trivial⟩ rfl rfl rfl ?_
    refine HQ.done ?_
    refine HQ.keep [(2, _), (3, _), (6, _), (31, _)] ⟨rfl, rfl, rfl, rfl, trivial⟩ ?_
    rcases brk H with ⟨hc, H⟩ | ⟨hc, H⟩
    · refine HQ.condT rfl hc ?_
      clear hc
      refine HQ.rseq ?_
      refine HQ.pu Pu.assign ⟨rfl, trivial⟩ rfl rfl rfl ?_
      refine HQ.done ?_
      refine HQ.keep [(2, _), (3, _), (6, _)] ⟨rfl, rfl, rfl, trivial⟩ ?_
      refine HQ.ret ?_
      refine HQ.thenR ?_
      obtain rfl := Option.some.inj H
      exact HQ.fin (vs := [_]) Try.results8 () ⟨rfl, trivial⟩ rfl [] trivial rfl
    · refine HQ.condF rfl hc ?_
      clear hc
      refine HQ.skipThen ?_
      refine HQ.seq ?_
      refine HQ.rseq ?_
      refine HQ.pu Pu.assign ⟨rfl, trivial⟩ rfl rfl rfl ?_
      refine HQ.done ?_
      refine HQ.keep [(2, _), (3, _), (6, _), (7, _)] ⟨rfl, rfl, rfl, rfl, trivial⟩ ?_
      refine HQ.block ?_
      obtain ⟨o215, h217, H⟩ := bnd H
      refine HQ.loop h217 0 (fun (s : Int) (g : Unit) => match s, g with | i90, () => [(2, .bool false), (3, BP b11 0), (6, BP b18 0), (7, .int .i64 i90)]) (fun (s : Int) (g : Unit) => match s, g with | i90, () => [(4, Box b11 [.slice a5 (List.length t3.1.Cells) c6, .slice a7 (List.length t3.1.Wet) c8, .int .i64 t3.1.Fuse, .bool t3.1.Dead]), (7, Box b18 [.slice a14 (List.length t12.Cells) c15, .slice a16 (List.length t12.Wet) c17, .int .i64 t12.Fuse, .bool t12.Dead]), (1, OwnS kTCell a5 c6 t3.1.Cells), (2, OwnS kTWet a7 c8 t3.1.Wet), (5, OwnS kTCell a14 c15 t12.Cells), (6, OwnS kTWet a16 c17 t12.Wet)]) (fun r => bodyPost Try.prog Try.f8 (Rt w Nil (fun _ : Unit => .bool r) (fun _ => [])) .ret) () ⟨rfl, rfl, rfl, rfl, trivial⟩ ⟨rfl, rfl, rfl, rfl, rfl, rfl, trivial⟩ rfl ?_ ?_ ?_
      · clear H h217
        rintro i90 _ o H
        rw [laws_FnLosses_b2] at H
        refine HQ.keep [(2, _), (3, _), (6, _), (7, _)] ⟨rfl, rfl, rfl, rfl, trivial⟩ ?_
        refine HQ.keepR [(4, _), (7, _), (1, _), (2, _), (5, _), (6, _)] ⟨rfl, rfl, rfl, rfl, rfl, rfl, trivial⟩ rfl ?_
        refine HQ.seq ?_
        refine HQ.rseq ?_
        refine HQ.pu Pu.move ⟨rfl, trivial⟩ rfl rfl rfl ?_
        refine HQ.pu Pu.lss ⟨rfl, rfl, trivial⟩ rfl rfl rfl ?_
        refine HQ.done ?_
        refine HQ.keep [(2, _), (3, _), (6, _), (7, _), (33, _)] ⟨rfl, rfl, rfl, rfl, rfl, trivial⟩ ?_
        rcases brk H with ⟨hc, H⟩ | ⟨hc, H⟩
        · refine HQ.condT rfl hc ?_
          clear hc
          refine HQ.skipThen ?_
          refine HQ.seq ?_
          refine HQ.block ?_
          refine HQ.rseq ?_
          refine HQ.op [7] [7] (OT.loadBA (vs := [.slice a14 (List.length t12.Cells) c15, .slice a16 (List.length t12.Wet) c17, .int .i64 t12.Fuse, .bool t12.Dead]) ag30 sz30 rfl rfl) ⟨rfl, trivial⟩ ⟨rfl, trivial⟩ rfl rfl rfl rfl (fun _ => rfl) fun _ => ?_
          refine HQ.pu Pu.move ⟨rfl, trivial⟩ rfl rfl rfl ?_
          obtain ⟨t153, h154, H⟩ := bnd H
          refine HQ.op [5, 6] [20, 5, 6] (OT.call (us := [_, _]) (Pre := [OwnS kTCell a14 c15 t12.Cells, OwnS kTWet a16 c17 t12.Wet]) [.tmp 37, .tmp 38] Try.call38 rfl rfl fun w F hs hF hp => impl_Read_c (hs.lend hF 0 rfl) (hs.lend hF 1 rfl) h154) ⟨rfl, rfl, rfl, trivial⟩ ⟨rfl, rfl, trivial⟩ rfl rfl rfl rfl (fun _ => rfl) fun ⟨a155, c156⟩ => ?_
          refine HQ.pu Pu.move ⟨rfl, trivial⟩ rfl rfl rfl ?_
          refine HQ.pu (Pu.extract rfl) ⟨rfl, trivial⟩ rfl rfl rfl ?_
          refine HQ.pu (Pu.extract rfl) ⟨rfl, trivial⟩ rfl rfl rfl ?_
          refine HQ.pu Pu.assign ⟨rfl, trivial⟩ rfl rfl rfl ?_
          refine HQ.pu Pu.assign ⟨rfl, trivial⟩ rfl rfl rfl ?_
          refine HQ.done ?_
          refine HQ.keep [(2, _), (3, _), (6, _), (7, _), (8, _), (9, _)] ⟨rfl, rfl, rfl, rfl, rfl, rfl, trivial⟩ ?_
          refine HQ.rseq ?_
          refine HQ.pu Pu.move ⟨rfl, trivial⟩ rfl rfl rfl ?_
          refine HQ.pu Pu.not ⟨rfl, trivial⟩ rfl rfl rfl ?_
          refine HQ.pu Pu.assign ⟨rfl, trivial⟩ rfl rfl rfl ?_
          refine HQ.done ?_
          refine HQ.keep [(2, _), (3, _), (6, _), (7, _), (8, _), (9, _), (10, _)] ⟨rfl, rfl, rfl, rfl, rfl, rfl, rfl, trivial⟩ ?_
          refine HQ.rseq ?_
          refine HQ.pu (Pu.fieldB fo30_0 rfl) ⟨rfl, trivial⟩ rfl rfl rfl ?_
          refine HQ.op [4] [4] (OT.loadB sc27 rfl) ⟨rfl, trivial⟩ ⟨rfl, trivial⟩ rfl rfl rfl rfl (fun _ => rfl) fun _ => ?_
          refine HQ.pu (Pu.build (us := [.slice a5 (List.length t3.1.Cells) c6]) (cs := [.slice a5 (List.length t3.1.Cells) c6, .slice none 0 0, .int .i64 0, .bool false]) [(0, .tmp 46)] st30 rfl rfl rfl) ⟨rfl, trivial⟩ rfl rfl rfl ?_
          refine HQ.pu Pu.move ⟨rfl, trivial⟩ rfl rfl rfl ?_
          obtain ⟨t157, h158, H⟩ := bnd H
          refine HQ.op [1] [21, 1] (OT.call (us := [_, _]) (Pre := [OwnS kTCell a5 c6 t3.1.Cells]) [.tmp 47, .tmp 48] Try.call38 rfl rfl fun w F hs hF hp => impl_Read_c (p0 := (⟨t3.1.Cells, ([] : (List TWet)), 0, false⟩ : TDisk)) (p1 := i90) (hs.lend hF 0 rfl) nilB h158) ⟨rfl, rfl, rfl, trivial⟩ ⟨rfl, trivial⟩ rfl rfl rfl rfl (fun _ => rfl) fun ⟨a159, c160⟩ => ?_
          refine HQ.pu Pu.move ⟨rfl, trivial⟩ rfl rfl rfl ?_
          refine HQ.pu (Pu.extract rfl) ⟨rfl, trivial⟩ rfl rfl rfl ?_
          refine HQ.pu (Pu.extract rfl) ⟨rfl, trivial⟩ rfl rfl rfl ?_
          refine HQ.pu Pu.assign ⟨rfl, trivial⟩ rfl rfl rfl ?_
          refine HQ.pu Pu.assign ⟨rfl, trivial⟩ rfl rfl rfl ?_
          refine HQ.done ?_
          refine HQ.keep [(2, _), (3, _), (6, _), (7, _), (8, _), (9, _), (10, _), (11, _), (12, _)] ⟨rfl, rfl, rfl, rfl, rfl, rfl, rfl, rfl, rfl, trivial⟩ ?_
          refine HQ.rseq ?_
          refine HQ.pu Pu.move ⟨rfl, trivial⟩ rfl rfl rfl ?_
          refine HQ.pu Pu.move ⟨rfl, trivial⟩ rfl rfl rfl ?_
          obtain ⟨c167, h168, H⟩ := bnd H
          refine HQ.cutAt 7 [(60, .bool c167), (2, .bool false), (3, BP b11 0), (6, BP b18 0), (7, .int .i64 i90), (8, .slice a155 (List.length t153.1) c156), (9, .bool t153.2), (10, .bool (!t153.2)), (11, .slice a159 (List.length t157.1) c160), (12, .bool t157.2)] [(4, Box b11 [.slice a5 (List.length t3.1.Cells) c6, .slice a7 (List.length t3.1.Wet) c8, .int .i64 t3.1.Fuse, .bool t3.1.Dead]), (7, Box b18 [.slice a14 (List.length t12.Cells) c15, .slice a16 (List.length t12.Wet) c17, .int .i64 t12.Fuse, .bool t12.Dead]), (1, OwnS kTCell a5 c6 t3.1.Cells), (2, OwnS kTWet a7 c8 t3.1.Wet), (5, OwnS kTCell a14 c15 t12.Cells), (6, OwnS kTWet a16 c17 t12.Wet), (20, OwnS kU8 a155 c156 t153.1), (21, OwnS kU8 a159 c160 t157.1)] ?_ ?_
          · clear H
            have H := h168
            rcases brk H with ⟨hg161, H⟩ | ⟨hg161, H⟩
            · obtain rfl := Option.some.inj H
              refine HQ.off rfl rfl hg161 rfl ?_
              refine HQ.off rfl rfl hg161 rfl ?_
              refine HQ.offU rfl rfl rfl ?_
              refine HQ.offU rfl rfl rfl ?_
              refine HQ.offU rfl rfl rfl ?_
              refine HQ.off rfl rfl hg161 rfl ?_
              refine HQ.pu (Pu.pickC1 hg161) ⟨rfl, rfl, trivial⟩ rfl rfl rfl ?_
              exact HQ.mid ⟨rfl, rfl, rfl, rfl, rfl, rfl, rfl, rfl, rfl, rfl, trivial⟩ ⟨rfl, rfl, rfl, rfl, rfl, rfl, rfl, rfl, trivial⟩ rfl
            · refine HQ.on rfl rfl hg161 ?_
              refine HQ.pu Pu.move ⟨rfl, trivial⟩ rfl rfl rfl ?_
              refine HQ.on rfl rfl hg161 ?_
              refine HQ.pu Pu.move ⟨rfl, trivial⟩ rfl rfl rfl ?_
              obtain ⟨c165, h166, H⟩ := bnd H
              refine HQ.cutAt 4 [(59, .bool c165), (2, .bool false), (3, BP b11 0), (6, BP b18 0), (7, .int .i64 i90), (8, .slice a155 (List.length t153.1) c156), (9, .bool t153.2), (10, .bool (!t153.2)), (11, .slice a159 (List.length t157.1) c160), (12, .bool t157.2), (53, .bool (!t153.2)), (54, .bool t157.2), (55, .bool t157.2)] [(4, Box b11 [.slice a5 (List.length t3.1.Cells) c6, .slice a7 (List.length t3.1.Wet) c8, .int .i64 t3.1.Fuse, .bool t3.1.Dead]), (7, Box b18 [.slice a14 (List.length t12.Cells) c15, .slice a16 (List.length t12.Wet) c17, .int .i64 t12.Fuse, .bool t12.Dead]), (1, OwnS kTCell a5 c6 t3.1.Cells), (2, OwnS kTWet a7 c8 t3.1.Wet), (5, OwnS kTCell a14 c15 t12.Cells), (6, OwnS kTWet a16 c17 t12.Wet), (20, OwnS kU8 a155 c156 t153.1), (21, OwnS kU8 a159 c160 t157.1)] ?_ ?_
              · clear H
                have H := h166
                rcases brk H with ⟨hg162, H⟩ | ⟨hg162, H⟩
                · refine HQ.on rfl rfl hg162 ?_
                  refine HQ.pu Pu.move ⟨rfl, trivial⟩ rfl rfl rfl ?_
                  refine HQ.on rfl rfl hg162 ?_
                  refine HQ.pu Pu.move ⟨rfl, trivial⟩ rfl rfl rfl ?_
                  refine HQ.on rfl rfl hg162 ?_
                  obtain ⟨t163, h164, H⟩ := bnd H
                  refine HQ.op [20, 21] [20, 21] (OT.call (us := [_, _]) (Pre := [OwnS kU8 a155 c156 t153.1, OwnS kU8 a159 c160 t157.1]) [.tmp 56, .tmp 57] Try.call39 rfl rfl fun w F hs hF hp => laws_same_c (hs.lend hF 0 rfl) (hs.lend hF 1 rfl) h164) ⟨rfl, rfl, rfl, trivial⟩ ⟨rfl, rfl, trivial⟩ rfl rfl rfl rfl (fun _ => rfl) fun _ => ?_
                  obtain rfl := Option.some.inj H
                  refine HQ.on rfl rfl hg161 ?_
                  refine HQ.pu (Pu.pickC1 hg162) ⟨rfl, rfl, trivial⟩ rfl rfl rfl ?_
                  exact HQ.mid ⟨rfl, rfl, rfl, rfl, rfl, rfl, rfl, rfl, rfl, rfl, rfl, rfl, rfl, trivial⟩ ⟨rfl, rfl, rfl, rfl, rfl, rfl, rfl, rfl, trivial⟩ rfl
                · obtain rfl := Option.some.inj H
                  refine HQ.off rfl rfl hg162 rfl ?_
                  refine HQ.off rfl rfl hg162 rfl ?_
                  refine HQ.off rfl rfl hg162 rfl ?_
                  refine HQ.on rfl rfl hg161 ?_
                  refine HQ.pu (Pu.pickC0 hg162) ⟨rfl, rfl, trivial⟩ rfl rfl rfl ?_
                  exact HQ.mid ⟨rfl, rfl, rfl, rfl, rfl, rfl, rfl, rfl, rfl, rfl, rfl, rfl, rfl, trivial⟩ ⟨rfl, rfl, rfl, rfl, rfl, rfl, rfl, rfl, trivial⟩ rfl
              obtain rfl := Option.some.inj H
              refine HQ.pu (Pu.pickC0 hg161) ⟨rfl, rfl, trivial⟩ rfl rfl rfl ?_
              exact HQ.mid ⟨rfl, rfl, rfl, rfl, rfl, rfl, rfl, rfl, rfl, rfl, trivial⟩ ⟨rfl, rfl, rfl, rfl, rfl, rfl, rfl, rfl, trivial⟩ rfl
          refine HQ.pu Pu.assign ⟨rfl, trivial⟩ rfl rfl rfl ?_
          refine HQ.done ?_
          refine HQ.keep [(2, _), (3, _), (6, _), (7, _), (8, _), (9, _), (10, _), (11, _), (12, _)] ⟨rfl, rfl, rfl, rfl, rfl, rfl, rfl, rfl, rfl, trivial⟩ ?_
          refine HQ.rseq ?_
          refine HQ.pu Pu.assign ⟨rfl, trivial⟩ rfl rfl rfl ?_
          refine HQ.done ?_
          refine HQ.keep [(2, _), (3, _), (6, _), (7, _), (8, _), (9, _), (10, _), (11, _), (12, _), (13, _)] ⟨rfl, rfl, rfl, rfl, rfl, rfl, rfl, rfl, rfl, rfl, trivial⟩ ?_
          refine HQ.seq ?_
          refine HQ.rseq ?_
          refine HQ.pu Pu.assign ⟨rfl, trivial⟩ rfl rfl rfl ?_
          refine HQ.done ?_
          refine HQ.keep [(2, _), (3, _), (6, _), (7, _), (8, _), (9, _), (10, _), (11, _), (12, _), (13, _), (14, _)] ⟨rfl, rfl, rfl, rfl, rfl, rfl, rfl, rfl, rfl, rfl, rfl, trivial⟩ ?_
          refine HQ.block ?_
          obtain ⟨o199, h214, H⟩ := bnd H
          refine HQ.loop h214 2 (fun (s : Bool × Bool × Int) (g : Unit) => match s, g with | (q178, q179, i180), () => [(2, .bool false), (3, BP b11 0), (6, BP b18 0), (7, .int .i64 i90), (8, .slice a155 (List.length t153.1) c156), (9, .bool t153.2), (10, .bool q178), (11, .slice a159 (List.length t157.1) c160), (12, .bool t157.2), (13, .bool q179), (14, .int .i64 i180)]) (fun (s : Bool × Bool × Int) (g : Unit) => match s, g with | (q178, q179, i180), () => [(4, Box b11 [.slice a5 (List.length t3.1.Cells) c6, .slice a7 (List.length t3.1.Wet) c8, .int .i64 t3.1.Fuse, .bool t3.1.Dead]), (7, Box b18 [.slice a14 (List.length t12.Cells) c15, .slice a16 (List.length t12.Wet) c17, .int .i64 t12.Fuse, .bool t12.Dead]), (20, OwnS kU8 a155 c156 t153.1), (21, OwnS kU8 a159 c160 t157.1), (1, OwnS kTCell a5 c6 t3.1.Cells), (2, OwnS kTWet a7 c8 t3.1.Wet), (5, OwnS kTCell a14 c15 t12.Cells), (6, OwnS kTWet a16 c17 t12.Wet)]) (fun _ _ _ => False) () ⟨rfl, rfl, rfl, rfl, rfl, rfl, rfl, rfl, rfl, rfl, rfl, trivial⟩ ⟨rfl, rfl, rfl, rfl, rfl, rfl, rfl, rfl, trivial⟩ rfl ?_ ?_ ?_
          · clear H h214
            rintro ⟨q178, q179, i180⟩ _ o H
            rw [laws_FnLosses_b3] at H
            refine HQ.keep [(2, _), (3, _), (6, _), (7, _), (8, _), (9, _), (10, _), (11, _), (12, _), (13, _), (14, _)] ⟨rfl, rfl, rfl, rfl, rfl, rfl, rfl, rfl, rfl, rfl, rfl, trivial⟩ ?_
            refine HQ.keepR [(4, _), (7, _), (20, _), (21, _), (1, _), (2, _), (5, _), (6, _)] ⟨rfl, rfl, rfl, rfl, rfl, rfl, rfl, rfl, trivial⟩ rfl ?_
            refine HQ.seq ?_
            refine HQ.rseq ?_
            refine HQ.pu Pu.move ⟨rfl, trivial⟩ rfl rfl rfl ?_
            refine HQ.pu (Pu.fieldB fo30_1 rfl) ⟨rfl, trivial⟩ rfl rfl rfl ?_
            refine HQ.op [4] [4] (OT.loadB sc28 rfl) ⟨rfl, trivial⟩ ⟨rfl, trivial⟩ rfl rfl rfl rfl (fun _ => rfl) fun _ => ?_
            refine HQ.pu (Pu.len ul28) ⟨rfl, trivial⟩ rfl rfl rfl ?_
            refine HQ.pu Pu.lss ⟨rfl, rfl, trivial⟩ rfl rfl rfl ?_
            refine HQ.done ?_
            refine HQ.keep [(2, _), (3, _), (6, _), (7, _), (8, _), (9, _), (10, _), (11, _), (12, _), (13, _), (14, _), (65, _)] ⟨rfl, rfl, rfl, rfl, rfl, rfl, rfl, rfl, rfl, rfl, rfl, rfl, trivial⟩ ?_
            rcases brk H with ⟨hc, H⟩ | ⟨hc, H⟩
            · refine HQ.condT rfl hc ?_
              clear hc
              refine HQ.skipThen ?_
              refine HQ.seq ?_
              refine HQ.block ?_
              refine HQ.rseq ?_
              refine HQ.pu (Pu.fieldB fo30_1 rfl) ⟨rfl, trivial⟩ rfl rfl rfl ?_
              refine HQ.op [4] [4] (OT.loadB sc28 rfl) ⟨rfl, trivial⟩ ⟨rfl, trivial⟩ rfl rfl rfl rfl (fun _ => rfl) fun _ => ?_
              refine HQ.pu Pu.move ⟨rfl, trivial⟩ rfl rfl rfl ?_
              obtain ⟨h190, H⟩ := asr H
              refine HQ.op [2] [2] (OT.indexO ul28 sz71 h190) ⟨rfl, rfl, trivial⟩ ⟨rfl, trivial⟩ rfl rfl rfl rfl (fun _ => rfl) fun _ => ?_
              refine HQ.pu (Pu.fieldE fo71_0 rfl) ⟨rfl, trivial⟩ rfl rfl rfl ?_
              refine HQ.op [2] [2] (OT.loadP sc3 h190 (fun _ => rfl)) ⟨rfl, trivial⟩ ⟨rfl, trivial⟩ rfl rfl rfl rfl (fun _ => rfl) fun _ => ?_
              refine HQ.pu Pu.move ⟨rfl, trivial⟩ rfl rfl rfl ?_
              refine HQ.pu Pu.eql ⟨rfl, rfl, trivial⟩ rfl rfl rfl ?_
              refine HQ.done ?_
              refine HQ.keep [(2, _), (3, _), (6, _), (7, _), (8, _), (9, _), (10, _), (11, _), (12, _), (13, _), (14, _), (75, _)] ⟨rfl, rfl, rfl, rfl, rfl, rfl, rfl, rfl, rfl, rfl, rfl, rfl, trivial⟩ ?_
              rcases brk H with ⟨hc, H⟩ | ⟨hc, H⟩
              · refine HQ.condT rfl hc ?_
                clear hc
                refine HQ.rseq ?_
                refine HQ.pu Pu.assign ⟨rfl, trivial⟩ rfl rfl rfl ?_
                refine HQ.done ?_
                refine HQ.keep [(2, _), (3, _), (6, _), (7, _), (8, _), (9, _), (10, _), (11, _), (12, _), (13, _), (14, _)] ⟨rfl, rfl, rfl, rfl, rfl, rfl, rfl, rfl, rfl, rfl, rfl, trivial⟩ ?_
                refine HQ.regionQ ?_
                refine HQ.pu Pu.move ⟨rfl, trivial⟩ rfl rfl rfl ?_
                refine HQ.pu Pu.move ⟨rfl, trivial⟩ rfl rfl rfl ?_
                obtain ⟨c197, h198, H⟩ := bnd H
                refine HQ.cutAt 9 [(86, .bool c197), (2, .bool false), (3, BP b11 0), (6, BP b18 0), (7, .int .i64 i90), (8, .slice a155 (List.length t153.1) c156), (9, .bool t153.2), (10, .bool q178), (11, .slice a159 (List.length t157.1) c160), (12, .bool t157.2), (13, .bool true), (14, .int .i64 i180)] [(4, Box b11 [.slice a5 (List.length t3.1.Cells) c6, .slice a7 (List.length t3.1.Wet) c8, .int .i64 t3.1.Fuse, .bool t3.1.Dead]), (7, Box b18 [.slice a14 (List.length t12.Cells) c15, .slice a16 (List.length t12.Wet) c17, .int .i64 t12.Fuse, .bool t12.Dead]), (20, OwnS kU8 a155 c156 t153.1), (21, OwnS kU8 a159 c160 t157.1), (1, OwnS kTCell a5 c6 t3.1.Cells), (2, OwnS kTWet a7 c8 t3.1.Wet), (5, OwnS kTCell a14 c15 t12.Cells), (6, OwnS kTWet a16 c17 t12.Wet)] ?_ ?_
                · clear H
                  have H := h198
                  rcases brk H with ⟨hg191, H⟩ | ⟨hg191, H⟩
                  · obtain rfl := Option.some.inj H
                    refine HQ.off rfl rfl hg191 rfl ?_
                    refine HQ.off rfl rfl hg191 rfl ?_
                    refine HQ.off rfl rfl hg191 rfl ?_
                    refine HQ.off rfl rfl hg191 rfl ?_
                    refine HQ.off rfl rfl hg191 rfl ?_
                    refine HQ.off rfl rfl hg191 rfl ?_
                    refine HQ.off rfl rfl hg191 rfl ?_
                    refine HQ.off rfl rfl hg191 rfl ?_
                    refine HQ.pu (Pu.pickC1 hg191) ⟨rfl, rfl, trivial⟩ rfl rfl rfl ?_
                    exact HQ.mid ⟨rfl, rfl, rfl, rfl, rfl, rfl, rfl, rfl, rfl, rfl, rfl, rfl, trivial⟩ ⟨rfl, rfl, rfl, rfl, rfl, rfl, rfl, rfl, trivial⟩ rfl
                  · refine HQ.on rfl rfl hg191 ?_
                    refine HQ.pu Pu.move ⟨rfl, trivial⟩ rfl rfl rfl ?_
                    refine HQ.on rfl rfl hg191 ?_
                    refine HQ.pu (Pu.fieldB fo30_1 rfl) ⟨rfl, trivial⟩ rfl rfl rfl ?_
                    refine HQ.on rfl rfl hg191 ?_
                    refine HQ.op [4] [4] (OT.loadB sc28 rfl) ⟨rfl, trivial⟩ ⟨rfl, trivial⟩ rfl rfl rfl rfl (fun _ => rfl) fun _ => ?_
                    refine HQ.on rfl rfl hg191 ?_
                    refine HQ.pu Pu.move ⟨rfl, trivial⟩ rfl rfl rfl ?_
                    refine HQ.on rfl rfl hg191 ?_
                    obtain ⟨h192, H⟩ := asr H
                    refine HQ.op [2] [2] (OT.indexO ul28 sz71 h192) ⟨rfl, rfl, trivial⟩ ⟨rfl, trivial⟩ rfl rfl rfl rfl (fun _ => rfl) fun _ => ?_
                    refine HQ.on rfl rfl hg191 ?_
                    refine HQ.pu (Pu.fieldE fo71_1 rfl) ⟨rfl, trivial⟩ rfl rfl rfl ?_
                    refine HQ.on rfl rfl hg191 ?_
                    refine HQ.op [2] [2, 24] (OT.focus (v := fun a193 c194 => .slice a193 (List.length ((gt t3.1.Wet i180).B)) c194) (fun x ys => (⟨x.At, ys⟩ : TWet)) sc63 h192 (fun _ _ => rfl) (fun _ _ _ => rfl) (fun _ _ => rfl)) ⟨rfl, trivial⟩ ⟨rfl, trivial⟩ rfl rfl rfl rfl (fun _ => rfl) fun ⟨a193, c194⟩ => ?_
                    refine HQ.on rfl rfl hg191 ?_
                    obtain ⟨t195, h196, H⟩ := bnd H
                    refine HQ.op [20, 24] [20, 24] (OT.call (us := [_, _]) (Pre := [OwnS kU8 a155 c156 t153.1, OwnS kU8 a193 c194 ((gt t3.1.Wet i180).B)]) [.tmp 78, .tmp 84] Try.call39 rfl rfl fun w F hs hF hp => laws_same_c (hs.lend hF 0 rfl) (hs.lend hF 1 rfl) h196) ⟨rfl, rfl, rfl, trivial⟩ ⟨rfl, rfl, trivial⟩ rfl rfl rfl rfl (fun _ => rfl) fun _ => ?_
                    refine HQ.unfocus (xs' := t3.1.Wet) 2 24 rfl rfl rfl rfl (set_put rfl h192) ?_
                    obtain rfl := Option.some.inj H
                    refine HQ.pu (Pu.pickC0 hg191) ⟨rfl, rfl, trivial⟩ rfl rfl rfl ?_
                    exact HQ.mid ⟨rfl, rfl, rfl, rfl, rfl, rfl, rfl, rfl, rfl, rfl, rfl, rfl, trivial⟩ ⟨rfl, rfl, rfl, rfl, rfl, rfl, rfl, rfl, trivial⟩ rfl
                refine HQ.pu Pu.assign ⟨rfl, trivial⟩ rfl rfl rfl ?_
                refine HQ.done ?_
                refine HQ.keep [(2, _), (3, _), (6, _), (7, _), (8, _), (9, _), (10, _), (11, _), (12, _), (13, _), (14, _)] ⟨rfl, rfl, rfl, rfl, rfl, rfl, rfl, rfl, rfl, rfl, rfl, trivial⟩ ?_
                refine HQ.blkN ?_
                refine HQ.thenN ?_
                refine HQ.regionQ ?_
                refine HQ.pu Pu.move ⟨rfl, trivial⟩ rfl rfl rfl ?_
                refine HQ.pu Pu.add ⟨rfl, rfl, trivial⟩ rfl rfl rfl ?_
                refine HQ.pu Pu.assign ⟨rfl, trivial⟩ rfl rfl rfl ?_
                refine HQ.done ?_
                refine HQ.keep [(2, _), (3, _), (6, _), (7, _), (8, _), (9, _), (10, _), (11, _), (12, _), (13, _), (14, _)] ⟨rfl, rfl, rfl, rfl, rfl, rfl, rfl, rfl, rfl, rfl, rfl, trivial⟩ ?_
                obtain rfl := Option.some.inj H
                exact HQ.next () ⟨rfl, rfl, rfl, rfl, rfl, rfl, rfl, rfl, rfl, rfl, rfl, trivial⟩ ⟨rfl, rfl, rfl, rfl, rfl, rfl, rfl, rfl, trivial⟩ rfl
              · refine HQ.condF rfl hc ?_
                clear hc
                refine HQ.skip ?_
                refine HQ.blkN ?_
                refine HQ.thenN ?_
                refine HQ.regionQ ?_
                refine HQ.pu Pu.move ⟨rfl, trivial⟩ rfl rfl rfl ?_
                refine HQ.pu Pu.add ⟨rfl, rfl, trivial⟩ rfl rfl rfl ?_
                refine HQ.pu Pu.assign ⟨rfl, trivial⟩ rfl rfl rfl ?_
                refine HQ.done ?_
                refine HQ.keep [(2, _), (3, _), (6, _), (7, _), (8, _), (9, _), (10, _), (11, _), (12, _), (13, _), (14, _)] ⟨rfl, rfl, rfl, rfl, rfl, rfl, rfl, rfl, rfl, rfl, rfl, trivial⟩ ?_
                obtain rfl := Option.some.inj H
                exact HQ.next () ⟨rfl, rfl, rfl, rfl, rfl, rfl, rfl, rfl, rfl, rfl, rfl, trivial⟩ ⟨rfl, rfl, rfl, rfl, rfl, rfl, rfl, rfl, trivial⟩ rfl
            · refine HQ.condF rfl hc ?_
              clear hc
              refine HQ.exit ?_
              refine HQ.thenE ?_
              obtain rfl := Option.some.inj H
              exact HQ.out () ⟨rfl, rfl, rfl, rfl, rfl, rfl, rfl, rfl, rfl, rfl, rfl, trivial⟩ ⟨rfl, rfl, rfl, rfl, rfl, rfl, rfl, rfl, trivial⟩ rfl
          · rintro ⟨q200, q201, i202⟩ rfl _
            clear h214
            replace H := H
            refine HQ.keep [(2, _), (3, _), (6, _), (7, _), (8, _), (9, _), (10, _), (11, _), (12, _), (13, _), (14, _)] ⟨rfl, rfl, rfl, rfl, rfl, rfl, rfl, rfl, rfl, rfl, rfl, trivial⟩ ?_
            refine HQ.keepR [(4, _), (7, _), (20, _), (21, _), (1, _), (2, _), (5, _), (6, _)] ⟨rfl, rfl, rfl, rfl, rfl, rfl, rfl, rfl, trivial⟩ rfl ?_
            refine HQ.blkE ?_
            refine HQ.thenN ?_
            refine HQ.rseq ?_
            refine HQ.pu Pu.move ⟨rfl, trivial⟩ rfl rfl rfl ?_
            refine HQ.pu Pu.not ⟨rfl, trivial⟩ rfl rfl rfl ?_
            refine HQ.pu Pu.move ⟨rfl, trivial⟩ rfl rfl rfl ?_
            obtain ⟨c212, h213, H⟩ := bnd H
            refine HQ.cutAt 14 [(103, .bool c212), (2, .bool false), (3, BP b11 0), (6, BP b18 0), (7, .int .i64 i90)] [(4, Box b11 [.slice a5 (List.length t3.1.Cells) c6, .slice a7 (List.length t3.1.Wet) c8, .int .i64 t3.1.Fuse, .bool t3.1.Dead]), (7, Box b18 [.slice a14 (List.length t12.Cells) c15, .slice a16 (List.length t12.Wet) c17, .int .i64 t12.Fuse, .bool t12.Dead]), (20, OwnS kU8 a155 c156 t153.1), (21, OwnS kU8 a159 c160 t157.1), (1, OwnS kTCell a5 c6 t3.1.Cells), (2, OwnS kTWet a7 c8 t3.1.Wet), (5, OwnS kTCell a14 c15 t12.Cells), (6, OwnS kTWet a16 c17 t12.Wet)] ?_ ?_
            · clear H
              have H := h213
              rcases brk H with ⟨hg203, H⟩ | ⟨hg203, H⟩
              · obtain rfl := Option.some.inj H
                refine HQ.off rfl rfl hg203 rfl ?_
                refine HQ.off rfl rfl hg203 rfl ?_
                refine HQ.off rfl rfl hg203 rfl ?_
                refine HQ.offU rfl rfl rfl ?_
                refine HQ.offU rfl rfl rfl ?_
                refine HQ.offU rfl rfl rfl ?_
                refine HQ.offU rfl rfl rfl ?_
                refine HQ.offU rfl rfl rfl ?_
                refine HQ.offU rfl rfl rfl ?_
                refine HQ.offU rfl rfl rfl ?_
                refine HQ.offU rfl rfl rfl ?_
                refine HQ.offU rfl rfl rfl ?_
                refine HQ.off rfl rfl hg203 rfl ?_
                refine HQ.pu (Pu.pickC1 hg203) ⟨rfl, rfl, trivial⟩ rfl rfl rfl ?_
                exact HQ.mid ⟨rfl, rfl, rfl, rfl, rfl, trivial⟩ ⟨rfl, rfl, rfl, rfl, rfl, rfl, rfl, rfl, trivial⟩ rfl
              · refine HQ.on rfl rfl hg203 ?_
                refine HQ.pu Pu.move ⟨rfl, trivial⟩ rfl rfl rfl ?_
                refine HQ.on rfl rfl hg203 ?_
                refine HQ.pu Pu.not ⟨rfl, trivial⟩ rfl rfl rfl ?_
                refine HQ.on rfl rfl hg203 ?_
                refine HQ.pu Pu.move ⟨rfl, trivial⟩ rfl rfl rfl ?_
                obtain ⟨c210, h211, H⟩ := bnd H
                refine HQ.cutAt 10 [(102, .bool c210), (2, .bool false), (3, BP b11 0), (6, BP b18 0), (7, .int .i64 i90), (89, .bool (!q200)), (90, .bool q201), (91, .bool (!q201)), (92, .bool (!q201))] [(4, Box b11 [.slice a5 (List.length t3.1.Cells) c6, .slice a7 (List.length t3.1.Wet) c8, .int .i64 t3.1.Fuse, .bool t3.1.Dead]), (7, Box b18 [.slice a14 (List.length t12.Cells) c15, .slice a16 (List.length t12.Wet) c17, .int .i64 t12.Fuse, .bool t12.Dead]), (20, OwnS kU8 a155 c156 t153.1), (21, OwnS kU8 a159 c160 t157.1), (1, OwnS kTCell a5 c6 t3.1.Cells), (2, OwnS kTWet a7 c8 t3.1.Wet), (5, OwnS kTCell a14 c15 t12.Cells), (6, OwnS kTWet a16 c17 t12.Wet)] ?_ ?_
                · clear H
                  have H := h211
                  rcases brk H with ⟨hg204, H⟩ | ⟨hg204, H⟩
                  · refine HQ.on rfl rfl hg204 ?_
                    refine HQ.pu Pu.move ⟨rfl, trivial⟩ rfl rfl rfl ?_
                    refine HQ.on rfl rfl hg204 ?_
                    refine HQ.pu Pu.move ⟨rfl, trivial⟩ rfl rfl rfl ?_
                    refine HQ.on rfl rfl hg204 ?_
                    refine HQ.pu (Pu.neqB ul4) ⟨rfl, rfl, trivial⟩ rfl rfl rfl ?_
                    refine HQ.on rfl rfl hg204 ?_
                    refine HQ.pu Pu.move ⟨rfl, trivial⟩ rfl rfl rfl ?_
                    obtain ⟨c208, h209, H⟩ := bnd H
                    refine HQ.cutAt 5 [(101, .bool c208), (2, .bool false), (3, BP b11 0), (6, BP b18 0), (7, .int .i64 i90), (89, .bool (!q200)), (90, .bool q201), (91, .bool (!q201)), (92, .bool (!q201)), (93, .bool t153.2), (94, .bool t157.2), (95, .bool (!(t153.2 == t157.2))), (96, .bool (!(t153.2 == t157.2)))] [(4, Box b11 [.slice a5 (List.length t3.1.Cells) c6, .slice a7 (List.length t3.1.Wet) c8, .int .i64 t3.1.Fuse, .bool t3.1.Dead]), (7, Box b18 [.slice a14 (List.length t12.Cells) c15, .slice a16 (List.length t12.Wet) c17, .int .i64 t12.Fuse, .bool t12.Dead]), (20, OwnS kU8 a155 c156 t153.1), (21, OwnS kU8 a159 c160 t157.1), (1, OwnS kTCell a5 c6 t3.1.Cells), (2, OwnS kTWet a7 c8 t3.1.Wet), (5, OwnS kTCell a14 c15 t12.Cells), (6, OwnS kTWet a16 c17 t12.Wet)] ?_ ?_
                    · clear H
                      have H := h209
                      rcases brk H with ⟨hg205, H⟩ | ⟨hg205, H⟩
                      · obtain rfl := Option.some.inj H
                        refine HQ.off rfl rfl hg205 rfl ?_
                        refine HQ.off rfl rfl hg205 rfl ?_
                        refine HQ.off rfl rfl hg205 rfl ?_
                        refine HQ.off rfl rfl hg205 rfl ?_
                        refine HQ.on rfl rfl hg204 ?_
                        refine HQ.pu (Pu.pickC1 hg205) ⟨rfl, rfl, trivial⟩ rfl rfl rfl ?_
                        exact HQ.mid ⟨rfl, rfl, rfl, rfl, rfl, rfl, rfl, rfl, rfl, rfl, rfl, rfl, rfl, trivial⟩ ⟨rfl, rfl, rfl, rfl, rfl, rfl, rfl, rfl, trivial⟩ rfl
                      · refine HQ.on rfl rfl hg205 ?_
                        refine HQ.pu Pu.move ⟨rfl, trivial⟩ rfl rfl rfl ?_
                        refine HQ.on rfl rfl hg205 ?_
                        refine HQ.pu Pu.move ⟨rfl, trivial⟩ rfl rfl rfl ?_
                        refine HQ.on rfl rfl hg205 ?_
                        obtain ⟨t206, h207, H⟩ := bnd H
                        refine HQ.op [20, 21] [20, 21] (OT.call (us := [_, _]) (Pre := [OwnS kU8 a155 c156 t153.1, OwnS kU8 a159 c160 t157.1]) [.tmp 97, .tmp 98] Try.call39 rfl rfl fun w F hs hF hp => laws_same_c (hs.lend hF 0 rfl) (hs.lend hF 1 rfl) h207) ⟨rfl, rfl, rfl, trivial⟩ ⟨rfl, rfl, trivial⟩ rfl rfl rfl rfl (fun _ => rfl) fun _ => ?_
                        refine HQ.on rfl rfl hg205 ?_
                        refine HQ.pu Pu.not ⟨rfl, trivial⟩ rfl rfl rfl ?_
                        obtain rfl := Option.some.inj H
                        refine HQ.on rfl rfl hg204 ?_
                        refine HQ.pu (Pu.pickC0 hg205) ⟨rfl, rfl, trivial⟩ rfl rfl rfl ?_
                        exact HQ.mid ⟨rfl, rfl, rfl, rfl, rfl, rfl, rfl, rfl, rfl, rfl, rfl, rfl, rfl, trivial⟩ ⟨rfl, rfl, rfl, rfl, rfl, rfl, rfl, rfl, trivial⟩ rfl
                    obtain rfl := Option.some.inj H
                    refine HQ.on rfl rfl hg203 ?_
                    refine HQ.pu (Pu.pickC1 hg204) ⟨rfl, rfl, trivial⟩ rfl rfl rfl ?_
                    exact HQ.mid ⟨rfl, rfl, rfl, rfl, rfl, rfl, rfl, rfl, rfl, trivial⟩ ⟨rfl, rfl, rfl, rfl, rfl, rfl, rfl, rfl, trivial⟩ rfl
                  · obtain rfl := Option.some.inj H
                    refine HQ.off rfl rfl hg204 rfl ?_
                    refine HQ.off rfl rfl hg204 rfl ?_
                    refine HQ.off rfl rfl hg204 rfl ?_
                    refine HQ.off rfl rfl hg204 rfl ?_
                    refine HQ.offU rfl rfl rfl ?_
                    refine HQ.offU rfl rfl rfl ?_
                    refine HQ.offU rfl rfl rfl ?_
                    refine HQ.offU rfl rfl rfl ?_
                    refine HQ.off rfl rfl hg204 rfl ?_
                    refine HQ.on rfl rfl hg203 ?_
                    refine HQ.pu (Pu.pickC0 hg204) ⟨rfl, rfl, trivial⟩ rfl rfl rfl ?_
                    exact HQ.mid ⟨rfl, rfl, rfl, rfl, rfl, rfl, rfl, rfl, rfl, trivial⟩ ⟨rfl, rfl, rfl, rfl, rfl, rfl, rfl, rfl, trivial⟩ rfl
                obtain rfl := Option.some.inj H
                refine HQ.pu (Pu.pickC0 hg203) ⟨rfl, rfl, trivial⟩ rfl rfl rfl ?_
                exact HQ.mid ⟨rfl, rfl, rfl, rfl, rfl, trivial⟩ ⟨rfl, rfl, rfl, rfl, rfl, rfl, rfl, rfl, trivial⟩ rfl
            refine HQ.done ?_
            refine HQ.keep [(103, _), (2, _), (3, _), (6, _), (7, _)] ⟨rfl, rfl, rfl, rfl, rfl, trivial⟩ ?_
            rcases brk H with ⟨hc, H⟩ | ⟨hc, H⟩
            · refine HQ.condT rfl hc ?_
              clear hc
              refine HQ.rseq ?_
              refine HQ.pu Pu.assign ⟨rfl, trivial⟩ rfl rfl rfl ?_
              refine HQ.done ?_
              refine HQ.keep [(2, _), (3, _), (6, _), (7, _)] ⟨rfl, rfl, rfl, rfl, trivial⟩ ?_
              refine HQ.ret ?_
              refine HQ.blkR ?_
              refine HQ.thenR ?_
              obtain rfl := Option.some.inj H
              refine HQ.retL ?_
              exact HQ.fin (vs := [_]) Try.results8 () ⟨rfl, trivial⟩ rfl [] trivial rfl
            · refine HQ.condF rfl hc ?_
              clear hc
              refine HQ.skip ?_
              refine HQ.blkN ?_
              refine HQ.thenN ?_
              refine HQ.regionQ ?_
              refine HQ.pu Pu.move ⟨rfl, trivial⟩ rfl rfl rfl ?_
              refine HQ.pu Pu.add ⟨rfl, rfl, trivial⟩ rfl rfl rfl ?_
              refine HQ.pu Pu.assign ⟨rfl, trivial⟩ rfl rfl rfl ?_
              refine HQ.done ?_
              refine HQ.keep [(2, _), (3, _), (6, _), (7, _)] ⟨rfl, rfl, rfl, rfl, trivial⟩ ?_
              obtain rfl := Option.some.inj H
              exact HQ.next () ⟨rfl, rfl, rfl, rfl, trivial⟩ ⟨rfl, rfl, rfl, rfl, rfl, rfl, trivial⟩ rfl
          · exact fun r h a w hf => hf.elim
        · refine HQ.condF rfl hc ?_
          clear hc
          refine HQ.exit ?_
          refine HQ.thenE ?_
          obtain rfl := Option.some.inj H
          exact HQ.out () ⟨rfl, rfl, rfl, rfl, trivial⟩ ⟨rfl, rfl, rfl, rfl, rfl, rfl, trivial⟩ rfl
      · rintro i216 rfl _
        clear h217
        replace H := H
        refine HQ.keep [(2, _), (3, _), (6, _), (7, _)] ⟨rfl, rfl, rfl, rfl, trivial⟩ ?_
        refine HQ.keepR [(4, _), (7, _), (1, _), (2, _), (5, _), (6, _)] ⟨rfl, rfl, rfl, rfl, rfl, rfl, trivial⟩ rfl ?_
        refine HQ.blkE ?_
        refine HQ.thenN ?_
        refine HQ.rseq ?_
        refine HQ.pu Pu.assign ⟨rfl, trivial⟩ rfl rfl rfl ?_
        refine HQ.done ?_
        refine HQ.keep [(2, _)] ⟨rfl, trivial⟩ ?_
        refine HQ.ret ?_
        obtain rfl := Option.some.inj H
        exact HQ.fin (vs := [_]) Try.results8 () ⟨rfl, trivial⟩ rfl [] trivial rfl
      · rintro r rfl a w hr
        obtain rfl := Option.some.inj H
        exact hr

end Go.Proofs.Sx
