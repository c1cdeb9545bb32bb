import Derived.Test.YtgfhnepkpbmbcaaBF12
import Derived.KernelRfl
namespace Go.Proofs.Sx
open Go.RowKit
set_option linter.unusedVariables false
set_option linter.unusedSimpArgs false
set_option maxRecDepth 20000
set_option maxHeartbeats 1000000
/-! laws.FnExactAppend -/
theorem laws_FnExactAppend_c {w : World} {k : Nat} {p0 : TDisk} {p1 : Int} {p2 : Int} {p3 : TTx} {a_0 : Option Addr} {c_0 : Nat} {a_1 : Option Addr} {c_1 : Nat} {a_2 : Option Addr} {c_2 : Nat} (hb_0 : BorS kTCell a_0 c_0 p0.Cells w.heap (Lt w Nil)) (hb_1 : BorS kTWet a_1 c_1 p0.Wet w.heap (Lt w Nil)) (hb_2 : BorS kTChange a_2 c_2 p3.Puts w.heap (Lt w Nil)) {r : Bool} (H : laws_FnExactAppend k p0 p1 p2 p3 = some r) :
    Calls Try.prog 13 #[.agg #[.slice a_0 (List.length p0.Cells) c_0, .slice a_1 (List.length p0.Wet) c_1, .int .i64 p0.Fuse, .bool p0.Dead], .int .i64 p1, .int .i64 p2, .agg #[.int .i64 p3.Seq, .int .i64 p3.Root, .int .i64 p3.Size, .slice a_2 (List.length p3.Puts) c_2]] w (Rt w Nil (fun _ : Unit => .bool r) (fun _ => [])) := by
  rw [laws_FnExactAppend] at H
  refine Calls.enter0 (N := 129) (us := [_, _, _, _]) Try.func13 rfl rfl rfl ?_
  refine HQ.rseq ?_
  refine HQ.op [] [1] (OT.box (cs := [.slice a_0 (List.length p0.Cells) c_0, .slice a_1 (List.length p0.Wet) c_1, .int .i64 p0.Fuse, .bool p0.Dead]) rfl) ⟨rfl, trivial⟩ trivial rfl rfl rfl rfl (fun _ => rfl) fun b1 => ?_
  refine HQ.op [] [2] (OT.box (cs := [.int .i64 p3.Seq, .int .i64 p3.Root, .int .i64 p3.Size, .slice a_2 (List.length p3.Puts) c_2]) rfl) ⟨rfl, trivial⟩ trivial rfl rfl rfl rfl (fun _ => rfl) fun b2 => ?_
  refine HQ.pu Pu.assign ⟨rfl, trivial⟩ rfl rfl rfl ?_
  refine HQ.done ?_
  refine HQ.keep [(1, _), (2, _), (4, _), (7, _), (8, _)] ⟨rfl, rfl, rfl, rfl, rfl, trivial⟩ ?_
  refine HQ.rseq ?_
  refine HQ.pu Pu.assign ⟨rfl, trivial⟩ rfl rfl rfl ?_
  refine HQ.done ?_
  refine HQ.keep [(1, _), (2, _), (4, _), (7, _), (8, _), (9, _)] ⟨rfl, rfl, rfl, rfl, rfl, rfl, trivial⟩ ?_
  refine HQ.rseq ?_
  refine HQ.op [1] [1] (OT.loadBA (vs := [.slice a_0 (List.length p0.Cells) c_0, .slice a_1 (List.length p0.Wet) c_1, .int .i64 p0.Fuse, .bool p0.Dead]) ag36 sz36 rfl rfl) ⟨rfl, trivial⟩ ⟨rfl, trivial⟩ rfl rfl rfl rfl (fun _ => rfl) fun _ => ?_
  refine HQ.pu Pu.move ⟨rfl, trivial⟩ rfl rfl rfl ?_
  obtain ⟨t3, h4, H⟩ := bnd H
  refine HQ.op [] [] (OT.call (us := [_, _]) (Pre := []) [.tmp 21, .tmp 22] Try.call24 rfl rfl fun w F hs hF hp => laws_szDisk_c (hb_0.pass hp) (hb_1.pass hp) h4) ⟨rfl, rfl, rfl, trivial⟩ trivial rfl rfl rfl rfl (fun _ => rfl) fun _ => ?_
  refine HQ.pu Pu.assign ⟨rfl, trivial⟩ rfl rfl rfl ?_
  refine HQ.done ?_
  refine HQ.keep [(1, _), (2, _), (4, _), (7, _), (8, _), (9, _)] ⟨rfl, rfl, rfl, rfl, rfl, rfl, trivial⟩ ?_
  refine HQ.seq ?_
  refine HQ.rseq ?_
  refine HQ.pu Pu.move ⟨rfl, trivial⟩ rfl rfl rfl ?_
  refine HQ.pu Pu.lss ⟨rfl, rfl, trivial⟩ rfl rfl rfl ?_
  refine HQ.done ?_
  refine HQ.keep [(1, _), (2, _), (4, _), (7, _), (8, _), (9, _), (25, _)] ⟨rfl, rfl, rfl, rfl, rfl, rfl, rfl, trivial⟩ ?_
  rcases brk H with ⟨hc, H⟩ | ⟨hc, H⟩
  · refine HQ.condT rfl hc ?_
    clear hc
    refine HQ.rseq ?_
    refine HQ.pu Pu.assign ⟨rfl, trivial⟩ rfl rfl rfl ?_
    refine HQ.done ?_
    refine HQ.keep [(1, _), (2, _), (4, _), (7, _), (8, _), (9, _)] ⟨rfl, rfl, rfl, rfl, rfl, rfl, trivial⟩ ?_
    refine HQ.ret ?_
    refine HQ.thenR ?_
    obtain rfl := Option.some.inj H
    exact HQ.fin (vs := [_]) Try.results13 () ⟨rfl, trivial⟩ rfl [] trivial rfl
  · refine HQ.condF rfl hc ?_
    clear hc
    refine HQ.skipThen ?_
    refine HQ.rseq ?_
    refine HQ.op [2] [2] (OT.loadBA (vs := [.int .i64 p3.Seq, .int .i64 p3.Root, .int .i64 p3.Size, .slice a_2 (List.length p3.Puts) c_2]) ag55 sz55 rfl rfl) ⟨rfl, trivial⟩ ⟨rfl, trivial⟩ rfl rfl rfl rfl (fun _ => rfl) fun _ => ?_
    refine HQ.pu Pu.move ⟨rfl, trivial⟩ rfl rfl rfl ?_
    obtain ⟨t5, h6, H⟩ := bnd H
    refine HQ.op [] [] (OT.call (us := [_, _]) (Pre := []) [.tmp 26, .tmp 27] Try.call36 rfl rfl fun w F hs hF hp => laws_szTx_c (hb_2.pass hp) h6) ⟨rfl, rfl, rfl, trivial⟩ trivial rfl rfl rfl rfl (fun _ => rfl) fun _ => ?_
    refine HQ.pu Pu.assign ⟨rfl, trivial⟩ rfl rfl rfl ?_
    refine HQ.done ?_
    refine HQ.keep [(1, _), (2, _), (4, _), (7, _), (8, _), (9, _)] ⟨rfl, rfl, rfl, rfl, rfl, rfl, trivial⟩ ?_
    refine HQ.seq ?_
    refine HQ.rseq ?_
    refine HQ.pu Pu.move ⟨rfl, trivial⟩ rfl rfl rfl ?_
    refine HQ.pu Pu.lss ⟨rfl, rfl, trivial⟩ rfl rfl rfl ?_
    refine HQ.done ?_
    refine HQ.keep [(1, _), (2, _), (4, _), (7, _), (8, _), (30, _)] ⟨rfl, rfl, rfl, rfl, rfl, rfl, trivial⟩ ?_
    rcases brk H with ⟨hc, H⟩ | ⟨hc, H⟩
    · refine HQ.condT rfl hc ?_
      clear hc
      refine HQ.rseq ?_
      refine HQ.pu Pu.assign ⟨rfl, trivial⟩ rfl rfl rfl ?_
      refine HQ.done ?_
      refine HQ.keep [(1, _), (2, _), (4, _), (7, _), (8, _)] ⟨rfl, rfl, rfl, rfl, rfl, trivial⟩ ?_
      refine HQ.ret ?_
      refine HQ.thenR ?_
      obtain rfl := Option.some.inj H
      exact HQ.fin (vs := [_]) Try.results13 () ⟨rfl, trivial⟩ rfl [] trivial rfl
    · refine HQ.condF rfl hc ?_
      clear hc
      refine HQ.skipThen ?_
      refine HQ.seq ?_
      refine HQ.dStart mixd ?_
      obtain ⟨t8, h9, H⟩ := bnd H
      obtain ⟨t14, h15, H⟩ := bnd H
      obtain ⟨t18, h19, H⟩ := bnd H
      refine HQ.dPart [(1, .int .i64 p1), (2, .int .i64 p2), (4, BP b1 0), (7, BP b2 0), (8, .bool false)] 12 [⟨[0], [0], []⟩, ⟨[], [1, 2], [0]⟩, ⟨[], [], []⟩, ⟨[], [], []⟩, ⟨[3], [3], []⟩, ⟨[], [4], [4]⟩, ⟨[1, 2, 4], [5, 6, 1, 2, 4], [1, 2, 3, 5]⟩, ⟨[], [], [6]⟩, ⟨[], [], [7]⟩, ⟨[], [], [7]⟩, ⟨[], [7], []⟩, ⟨[7], [8], [8, 10]⟩] [⟨none, none⟩, ⟨some 1, none⟩, ⟨some 1, none⟩, ⟨none, none⟩, ⟨some 5, none⟩, ⟨some 6, none⟩, ⟨some 6, none⟩, ⟨some 10, some 11⟩, ⟨some 11, none⟩] (fun (g7 : ((Option Addr × Nat) × (Option Addr × Nat)) × (Option Addr × Nat) × ((Option Addr × Nat) × (Option Addr × Nat)) × Nat) => [.agg #[.slice a_0 (List.length p0.Cells) c_0, .slice a_1 (List.length p0.Wet) c_1, .int .i64 p0.Fuse, .bool p0.Dead], .agg #[.slice g7.1.1.1 (List.length t8.Cells) g7.1.1.2, .slice g7.1.2.1 (List.length t8.Wet) g7.1.2.2, .int .i64 t8.Fuse, .bool t8.Dead], .int .i64 p1, .int .i64 p2, .agg #[.int .i64 p3.Seq, .int .i64 p3.Root, .int .i64 p3.Size, .slice a_2 (List.length p3.Puts) c_2], .agg #[.int .i64 t14.Seq, .int .i64 t14.Root, .int .i64 t14.Size, .slice g7.2.1.1 (List.length t14.Puts) g7.2.1.2], .tuple #[.agg #[.slice g7.2.2.1.1.1 (List.length t18.1.Cells) g7.2.2.1.1.2, .slice g7.2.2.1.2.1 (List.length t18.1.Wet) g7.2.2.1.2.2, .int .i64 t18.1.Fuse, .bool t18.1.Dead], .int .i64 t18.2], .tuple #[.agg #[.slice g7.2.2.1.1.1 (List.length t18.1.Cells) g7.2.2.1.1.2, .slice g7.2.2.1.2.1 (List.length t18.1.Wet) g7.2.2.1.2.2, .int .i64 t18.1.Fuse, .bool t18.1.Dead], .int .i64 t18.2], .agg #[.slice g7.2.2.1.1.1 (List.length t18.1.Cells) g7.2.2.1.1.2, .slice g7.2.2.1.2.1 (List.length t18.1.Wet) g7.2.2.1.2.2, .int .i64 t18.1.Fuse, .bool t18.1.Dead], .int .i64 t18.2, BP g7.2.2.2 0, undef]) (fun (g7 : ((Option Addr × Nat) × (Option Addr × Nat)) × (Option Addr × Nat) × ((Option Addr × Nat) × (Option Addr × Nat)) × Nat) => [Box b1 [.slice a_0 (List.length p0.Cells) c_0, .slice a_1 (List.length p0.Wet) c_1, .int .i64 p0.Fuse, .bool p0.Dead], OwnS kTCell g7.1.1.1 g7.1.1.2 t8.Cells, OwnS kTWet g7.1.2.1 g7.1.2.2 t8.Wet, Box b2 [.int .i64 p3.Seq, .int .i64 p3.Root, .int .i64 p3.Size, .slice a_2 (List.length p3.Puts) c_2], OwnS kTChange g7.2.1.1 g7.2.1.2 t14.Puts, OwnS kTCell g7.2.2.1.1.1 g7.2.2.1.1.2 t18.1.Cells, OwnS kTWet g7.2.2.1.2.1 g7.2.2.1.2.2 t18.1.Wet, Box g7.2.2.2 [.slice none 0 0, .slice none 0 0, .int .i64 0, .bool false], Box g7.2.2.2 [.slice g7.2.2.1.1.1 (List.length t18.1.Cells) g7.2.2.1.1.2, .slice g7.2.2.1.2.1 (List.length t18.1.Wet) g7.2.2.1.2.2, .int .i64 t18.1.Fuse, .bool t18.1.Dead]]) (((none, 0), (none, 0)), (none, 0), ((none, 0), (none, 0)), 0) [1, 2] [1, 3, 4, 2, 5, 6, 7, 8] [] ⟨rfl, rfl, rfl, rfl, rfl, trivial⟩ ⟨rfl, rfl, trivial⟩ rfl (by kernel_rfl) (by kernel_rfl) (fun _ => rfl) (by kernel_rfl) (fun _ => rfl) rfl ⟨?_, ?_, ?_, ?_, ?_, ?_, ?_, ?_, ?_, ?_, ?_, ?_, trivial⟩ fun g7 => ?_
      · exact OpOK2.of (fun g7 => [(.tmp 4, BP b1 0)]) _ _ (fun g7 _ => g7) rfl rfl (fun _ => ⟨rfl, trivial⟩) (fun g7 => OT.loadBA (vs := [.slice a_0 (List.length p0.Cells) c_0, .slice a_1 (List.length p0.Wet) c_1, .int .i64 p0.Fuse, .bool p0.Dead]) ag36 sz36 rfl rfl) (fun _ _ => ⟨rfl, rfl, ⟨rfl, rfl, rfl, rfl, rfl, rfl, rfl, rfl, rfl, trivial⟩⟩)
      · exact OpOK2.of (fun g7 => [(.func 26, .func (.func 26) #[] #[]), (.tmp 32, .agg #[.slice a_0 (List.length p0.Cells) c_0, .slice a_1 (List.length p0.Wet) c_1, .int .i64 p0.Fuse, .bool p0.Dead])]) _ _ (fun g7 x => (x, g7.2.1, g7.2.2.1, g7.2.2.2)) rfl rfl (fun _ => ⟨rfl, rfl, trivial⟩) (fun g7 => OT.call (us := [_]) (Pre := []) [.tmp 32] Try.call26 rfl rfl fun w F hs hF hp => laws_toDisk_c (hb_0.pass hp) (hb_1.pass hp) h9) (fun _ _ => ⟨rfl, rfl, ⟨rfl, rfl, rfl, rfl, rfl, rfl, rfl, rfl, rfl, trivial⟩⟩)
      · exact OpOK2.of (fun g7 => [(.tmp 1, .int .i64 p1)]) _ _ (fun g7 _ => g7) rfl rfl (fun _ => ⟨rfl, trivial⟩) (fun g7 => Pu.toOT Pu.move) (fun _ _ => ⟨rfl, rfl, ⟨rfl, rfl, rfl, rfl, rfl, rfl, rfl, rfl, rfl, trivial⟩⟩)
      · exact OpOK2.of (fun g7 => [(.tmp 2, .int .i64 p2)]) _ _ (fun g7 _ => g7) rfl rfl (fun _ => ⟨rfl, trivial⟩) (fun g7 => Pu.toOT Pu.move) (fun _ _ => ⟨rfl, rfl, ⟨rfl, rfl, rfl, rfl, rfl, rfl, rfl, rfl, rfl, trivial⟩⟩)
      · exact OpOK2.of (fun g7 => [(.tmp 7, BP b2 0)]) _ _ (fun g7 _ => g7) rfl rfl (fun _ => ⟨rfl, trivial⟩) (fun g7 => OT.loadBA (vs := [.int .i64 p3.Seq, .int .i64 p3.Root, .int .i64 p3.Size, .slice a_2 (List.length p3.Puts) c_2]) ag55 sz55 rfl rfl) (fun _ _ => ⟨rfl, rfl, ⟨rfl, rfl, rfl, rfl, rfl, rfl, rfl, rfl, rfl, trivial⟩⟩)
      · exact OpOK2.of (fun g7 => [(.func 38, .func (.func 38) #[] #[]), (.tmp 36, .agg #[.int .i64 p3.Seq, .int .i64 p3.Root, .int .i64 p3.Size, .slice a_2 (List.length p3.Puts) c_2])]) _ _ (fun g7 x => (g7.1, x, g7.2.2.1, g7.2.2.2)) rfl rfl (fun _ => ⟨rfl, rfl, trivial⟩) (fun g7 => OT.call (us := [_]) (Pre := []) [.tmp 36] Try.call38 rfl rfl fun w F hs hF hp => laws_toTx_c (hb_2.pass hp) h15) (fun _ _ => ⟨rfl, rfl, ⟨rfl, rfl, rfl, rfl, rfl, rfl, rfl, rfl, rfl, trivial⟩⟩)
      · exact OpOK2.ofD [7, 8, 11] (by kernel_rfl) (fun g7 => [(.func 73, .func (.func 73) #[] #[]), (.tmp 33, .agg #[.slice g7.1.1.1 (List.length t8.Cells) g7.1.1.2, .slice g7.1.2.1 (List.length t8.Wet) g7.1.2.2, .int .i64 t8.Fuse, .bool t8.Dead]), (.tmp 34, .int .i64 p1), (.tmp 35, .int .i64 p2), (.tmp 37, .agg #[.int .i64 t14.Seq, .int .i64 t14.Root, .int .i64 t14.Size, .slice g7.2.1.1 (List.length t14.Puts) g7.2.1.2])]) _ _ (fun g7 x => (g7.1, g7.2.1, x, g7.2.2.2)) rfl rfl (fun _ => ⟨rfl, rfl, rfl, rfl, rfl, trivial⟩) (fun g7 => OT.call (us := [_, _, _, _]) (Pre := [OwnS kTCell g7.1.1.1 g7.1.1.2 t8.Cells, OwnS kTWet g7.1.2.1 g7.1.2.2 t8.Wet, OwnS kTChange g7.2.1.1 g7.2.1.2 t14.Puts]) [.tmp 33, .tmp 34, .tmp 35, .tmp 37] Try.call73 rfl rfl fun w F hs hF hp => spec_Append_c (hs.lend hF 0 rfl) (hs.lend hF 1 rfl) (hs.lend hF 2 rfl) h19) (fun _ _ => ⟨⟨rfl, rfl, rfl, rfl, rfl, rfl, rfl, trivial, trivial, rfl, rfl, trivial, trivial⟩, rfl, ⟨rfl, rfl, rfl, rfl, rfl, rfl, rfl, rfl, rfl, trivial⟩⟩)
      · exact OpOK2.of (fun g7 => [(.tmp 38, .tuple #[.agg #[.slice g7.2.2.1.1.1 (List.length t18.1.Cells) g7.2.2.1.1.2, .slice g7.2.2.1.2.1 (List.length t18.1.Wet) g7.2.2.1.2.2, .int .i64 t18.1.Fuse, .bool t18.1.Dead], .int .i64 t18.2])]) _ _ (fun g7 _ => g7) rfl rfl (fun _ => ⟨rfl, trivial⟩) (fun g7 => Pu.toOT Pu.move) (fun _ _ => ⟨rfl, rfl, ⟨rfl, rfl, rfl, rfl, rfl, rfl, rfl, rfl, rfl, trivial⟩⟩)
      · exact OpOK2.of (fun g7 => [(.tmp 31, .tuple #[.agg #[.slice g7.2.2.1.1.1 (List.length t18.1.Cells) g7.2.2.1.1.2, .slice g7.2.2.1.2.1 (List.length t18.1.Wet) g7.2.2.1.2.2, .int .i64 t18.1.Fuse, .bool t18.1.Dead], .int .i64 t18.2])]) _ _ (fun g7 _ => g7) rfl rfl (fun _ => ⟨rfl, trivial⟩) (fun g7 => Pu.toOT (Pu.extract rfl)) (fun _ _ => ⟨rfl, rfl, ⟨rfl, rfl, rfl, rfl, rfl, rfl, rfl, rfl, rfl, trivial⟩⟩)
      · exact OpOK2.of (fun g7 => [(.tmp 31, .tuple #[.agg #[.slice g7.2.2.1.1.1 (List.length t18.1.Cells) g7.2.2.1.1.2, .slice g7.2.2.1.2.1 (List.length t18.1.Wet) g7.2.2.1.2.2, .int .i64 t18.1.Fuse, .bool t18.1.Dead], .int .i64 t18.2])]) _ _ (fun g7 _ => g7) rfl rfl (fun _ => ⟨rfl, trivial⟩) (fun g7 => Pu.toOT (Pu.extract rfl)) (fun _ _ => ⟨rfl, rfl, ⟨rfl, rfl, rfl, rfl, rfl, rfl, rfl, rfl, rfl, trivial⟩⟩)
      · exact OpOK2.ofD [11] (by kernel_rfl) (fun g7 => []) _ _ (fun g7 x => (g7.1, g7.2.1, g7.2.2.1, x)) rfl rfl (fun _ => trivial) (fun g7 => OT.alloc zc42) (fun _ _ => ⟨⟨rfl, rfl, rfl, rfl, rfl, rfl, rfl, rfl, rfl, rfl, rfl, trivial, trivial⟩, rfl, ⟨rfl, rfl, rfl, rfl, rfl, rfl, rfl, rfl, rfl, trivial⟩⟩)
      · exact OpOK2.of (fun g7 => [(.tmp 10, BP g7.2.2.2 0), (.tmp 39, .agg #[.slice g7.2.2.1.1.1 (List.length t18.1.Cells) g7.2.2.1.1.2, .slice g7.2.2.1.2.1 (List.length t18.1.Wet) g7.2.2.1.2.2, .int .i64 t18.1.Fuse, .bool t18.1.Dead])]) _ _ (fun g7 _ => g7) rfl rfl (fun _ => ⟨rfl, rfl, trivial⟩) (fun g7 => OT.storeC (cs' := [.slice g7.2.2.1.1.1 (List.length t18.1.Cells) g7.2.2.1.1.2, .slice g7.2.2.1.2.1 (List.length t18.1.Wet) g7.2.2.1.2.2, .int .i64 t18.1.Fuse, .bool t18.1.Dead]) sz42 rfl rfl rfl rfl rfl) (fun _ _ => ⟨rfl, rfl, ⟨rfl, rfl, rfl, rfl, rfl, rfl, rfl, rfl, rfl, trivial⟩⟩)
      refine HQ.keep [(1, _), (2, _), (4, _), (7, _), (8, _), (40, _), (10, _)] ⟨rfl, rfl, rfl, rfl, rfl, rfl, rfl, trivial⟩ ?_
      refine HQ.keepR [(1, _), (2, _), (3, _), (4, _), (5, _), (6, _), (7, _), (8, _)] ⟨rfl, rfl, rfl, rfl, rfl, rfl, rfl, rfl, trivial⟩ rfl ?_
      refine HQ.dRun 1 rfl rfl (by kernel_rfl) (by kernel_rfl) ?_
      refine HQ.pu Pu.assign ⟨rfl, trivial⟩ rfl rfl rfl ?_
      refine HQ.done ?_
      refine HQ.dEnd rfl ?_
      refine HQ.thenN ?_
      refine HQ.keep [(1, _), (2, _), (4, _), (7, _), (8, _), (10, _), (11, _)] ⟨rfl, rfl, rfl, rfl, rfl, rfl, rfl, trivial⟩ ?_
      refine HQ.rseq ?_
      refine HQ.op [1] [1] (OT.loadBA (vs := [.slice a_0 (List.length p0.Cells) c_0, .slice a_1 (List.length p0.Wet) c_1, .int .i64 p0.Fuse, .bool p0.Dead]) ag36 sz36 rfl rfl) ⟨rfl, trivial⟩ ⟨rfl, trivial⟩ rfl rfl rfl rfl (fun _ => rfl) fun _ => ?_
      obtain ⟨t25, h26, H⟩ := bnd H
      refine HQ.op [] [9, 10] (OT.call (us := [_]) (Pre := []) [.tmp 41] Try.call26 rfl rfl fun w F hs hF hp => laws_toDisk_c (hb_0.pass hp) (hb_1.pass hp) h26) ⟨rfl, rfl, trivial⟩ trivial rfl rfl rfl rfl (fun _ => rfl) fun ⟨⟨a27, c28⟩, ⟨a29, c30⟩⟩ => ?_
      refine HQ.op [] [11] (OT.alloc zc42) trivial trivial rfl rfl rfl rfl (fun _ => rfl) fun b31 => ?_
      refine HQ.opN [11] [11] [] (OT.storeC (cs' := [.slice a27 (List.length t25.Cells) c28, .slice a29 (List.length t25.Wet) c30, .int .i64 t25.Fuse, .bool t25.Dead]) sz42 rfl rfl rfl rfl rfl) ⟨rfl, rfl, trivial⟩ ⟨rfl, trivial⟩ rfl rfl rfl (fun _ => rfl) fun _ => ?_
      refine HQ.done ?_
      refine HQ.keep [(1, _), (2, _), (4, _), (7, _), (8, _), (10, _), (11, _), (12, _)] ⟨rfl, rfl, rfl, rfl, rfl, rfl, rfl, rfl, trivial⟩ ?_
      refine HQ.rseq ?_
      refine HQ.op [2] [2] (OT.loadBA (vs := [.int .i64 p3.Seq, .int .i64 p3.Root, .int .i64 p3.Size, .slice a_2 (List.length p3.Puts) c_2]) ag55 sz55 rfl rfl) ⟨rfl, trivial⟩ ⟨rfl, trivial⟩ rfl rfl rfl rfl (fun _ => rfl) fun _ => ?_
      obtain ⟨t32, h33, H⟩ := bnd H
      refine HQ.op [] [12] (OT.call (us := [_]) (Pre := []) [.tmp 43] Try.call38 rfl rfl fun w F hs hF hp => laws_toTx_c (hb_2.pass hp) h33) ⟨rfl, rfl, trivial⟩ trivial rfl rfl rfl rfl (fun _ => rfl) fun ⟨a34, c35⟩ => ?_
      refine HQ.op [] [13] (OT.alloc zc60) trivial trivial rfl rfl rfl rfl (fun _ => rfl) fun b36 => ?_
      refine HQ.opN [13] [13] [] (OT.storeC (cs' := [.int .i64 t32.Seq, .int .i64 t32.Root, .int .i64 t32.Size, .slice a34 (List.length t32.Puts) c35]) sz60 rfl rfl rfl rfl rfl) ⟨rfl, rfl, trivial⟩ ⟨rfl, trivial⟩ rfl rfl rfl (fun _ => rfl) fun _ => ?_
      refine HQ.done ?_
      refine HQ.keep [(1, _), (2, _), (4, _), (7, _), (8, _), (10, _), (11, _), (12, _), (13, _)] ⟨rfl, rfl, rfl, rfl, rfl, rfl, rfl, rfl, rfl, trivial⟩ ?_
      refine HQ.rseq ?_
      refine HQ.op [11] [11] (OT.loadBA (vs := [.slice a27 (List.length t25.Cells) c28, .slice a29 (List.length t25.Wet) c30, .int .i64 t25.Fuse, .bool t25.Dead]) ag42 sz42 rfl rfl) ⟨rfl, trivial⟩ ⟨rfl, trivial⟩ rfl rfl rfl rfl (fun _ => rfl) fun _ => ?_
      refine HQ.pu Pu.move ⟨rfl, trivial⟩ rfl rfl rfl ?_
      refine HQ.pu Pu.move ⟨rfl, trivial⟩ rfl rfl rfl ?_
      refine HQ.op [13] [13] (OT.loadBA (vs := [.int .i64 t32.Seq, .int .i64 t32.Root, .int .i64 t32.Size, .slice a34 (List.length t32.Puts) c35]) ag60 sz60 rfl rfl) ⟨rfl, trivial⟩ ⟨rfl, trivial⟩ rfl rfl rfl rfl (fun _ => rfl) fun _ => ?_
      obtain ⟨t37, h38, H⟩ := bnd H
      refine HQ.op [9, 10, 12] [14, 15, 9, 10, 12] (OT.call (us := [_, _, _, _]) (Pre := [OwnS kTCell a27 c28 t25.Cells, OwnS kTWet a29 c30 t25.Wet, OwnS kTChange a34 c35 t32.Puts]) [.tmp 46, .tmp 47, .tmp 48, .tmp 49] Try.call74 rfl rfl fun w F hs hF hp => impl_Append_c (hs.lend hF 0 rfl) (hs.lend hF 1 rfl) (hs.lend hF 2 rfl) h38) ⟨rfl, rfl, rfl, rfl, rfl, trivial⟩ ⟨rfl, rfl, rfl, trivial⟩ rfl rfl rfl rfl (fun _ => rfl) fun ⟨⟨a39, c40⟩, ⟨a41, c42⟩⟩ => ?_
      refine HQ.pu Pu.move ⟨rfl, trivial⟩ rfl rfl rfl ?_
      refine HQ.pu (Pu.extract rfl) ⟨rfl, trivial⟩ rfl rfl rfl ?_
      refine HQ.pu (Pu.extract rfl) ⟨rfl, trivial⟩ rfl rfl rfl ?_
      refine HQ.op [] [16] (OT.alloc zc42) trivial trivial rfl rfl rfl rfl (fun _ => rfl) fun b43 => ?_
      refine HQ.opN [16] [16] [] (OT.storeC (cs' := [.slice a39 (List.length t37.1.Cells) c40, .slice a41 (List.length t37.1.Wet) c42, .int .i64 t37.1.Fuse, .bool t37.1.Dead]) sz42 rfl rfl rfl rfl rfl) ⟨rfl, rfl, trivial⟩ ⟨rfl, trivial⟩ rfl rfl rfl (fun _ => rfl) fun _ => ?_
      refine HQ.pu Pu.assign ⟨rfl, trivial⟩ rfl rfl rfl ?_
      refine HQ.done ?_
      refine HQ.keep [(1, _), (2, _), (4, _), (7, _), (8, _), (10, _), (11, _), (12, _), (13, _), (14, _), (15, _)] ⟨rfl, rfl, rfl, rfl, rfl, rfl, rfl, rfl, rfl, rfl, rfl, trivial⟩ ?_
      refine HQ.seq ?_
      refine HQ.rseq ?_
      refine HQ.op [16] [16] (OT.loadBA (vs := [.slice a39 (List.length t37.1.Cells) c40, .slice a41 (List.length t37.1.Wet) c42, .int .i64 t37.1.Fuse, .bool t37.1.Dead]) ag42 sz42 rfl rfl) ⟨rfl, trivial⟩ ⟨rfl, trivial⟩ rfl rfl rfl rfl (fun _ => rfl) fun _ => ?_
      refine HQ.op [8] [8] (OT.loadBA (vs := [.slice g7.2.2.1.1.1 (List.length t18.1.Cells) g7.2.2.1.1.2, .slice g7.2.2.1.2.1 (List.length t18.1.Wet) g7.2.2.1.2.2, .int .i64 t18.1.Fuse, .bool t18.1.Dead]) ag42 sz42 rfl rfl) ⟨rfl, trivial⟩ ⟨rfl, trivial⟩ rfl rfl rfl rfl (fun _ => rfl) fun _ => ?_
      obtain ⟨t44, h45, H⟩ := bnd H
      refine HQ.op [14, 15, 6, 7] [14, 15, 6, 7] (OT.call (us := [_, _]) (Pre := [OwnS kTCell a39 c40 t37.1.Cells, OwnS kTWet a41 c42 t37.1.Wet, OwnS kTCell g7.2.2.1.1.1 g7.2.2.1.1.2 t18.1.Cells, OwnS kTWet g7.2.2.1.2.1 g7.2.2.1.2.2 t18.1.Wet]) [.tmp 53, .tmp 54] Try.call29 rfl rfl fun w F hs hF hp => laws_eqDisk_c (hs.lend hF 0 rfl) (hs.lend hF 1 rfl) (hs.lend hF 2 rfl) (hs.lend hF 3 rfl) h45) ⟨rfl, rfl, rfl, trivial⟩ ⟨rfl, rfl, rfl, rfl, trivial⟩ rfl rfl rfl rfl (fun _ => rfl) fun _ => ?_
      refine HQ.pu Pu.not ⟨rfl, trivial⟩ rfl rfl rfl ?_
      refine HQ.pu Pu.move ⟨rfl, trivial⟩ rfl rfl rfl ?_
      refine HQ.cutAt 4 [(61, .bool ((!t44) || (!decide (t37.2 = t18.2)))), (1, .int .i64 p1), (2, .int .i64 p2), (4, BP b1 0), (7, BP b2 0), (8, .bool false), (10, BP g7.2.2.2 0), (11, .int .i64 t18.2), (12, BP b31 0), (13, BP b36 0), (14, BP b43 0), (15, .int .i64 t37.2)] [(1, Box b1 [.slice a_0 (List.length p0.Cells) c_0, .slice a_1 (List.length p0.Wet) c_1, .int .i64 p0.Fuse, .bool p0.Dead]), (2, Box b2 [.int .i64 p3.Seq, .int .i64 p3.Root, .int .i64 p3.Size, .slice a_2 (List.length p3.Puts) c_2]), (3, OwnS kTCell g7.1.1.1 g7.1.1.2 t8.Cells), (4, OwnS kTWet g7.1.2.1 g7.1.2.2 t8.Wet), (5, OwnS kTChange g7.2.1.1 g7.2.1.2 t14.Puts), (6, OwnS kTCell g7.2.2.1.1.1 g7.2.2.1.1.2 t18.1.Cells), (7, OwnS kTWet g7.2.2.1.2.1 g7.2.2.1.2.2 t18.1.Wet), (8, Box g7.2.2.2 [.slice g7.2.2.1.1.1 (List.length t18.1.Cells) g7.2.2.1.1.2, .slice g7.2.2.1.2.1 (List.length t18.1.Wet) g7.2.2.1.2.2, .int .i64 t18.1.Fuse, .bool t18.1.Dead]), (9, OwnS kTCell a27 c28 t25.Cells), (10, OwnS kTWet a29 c30 t25.Wet), (11, Box b31 [.slice a27 (List.length t25.Cells) c28, .slice a29 (List.length t25.Wet) c30, .int .i64 t25.Fuse, .bool t25.Dead]), (12, OwnS kTChange a34 c35 t32.Puts), (13, Box b36 [.int .i64 t32.Seq, .int .i64 t32.Root, .int .i64 t32.Size, .slice a34 (List.length t32.Puts) c35]), (14, OwnS kTCell a39 c40 t37.1.Cells), (15, OwnS kTWet a41 c42 t37.1.Wet), (16, Box b43 [.slice a39 (List.length t37.1.Cells) c40, .slice a41 (List.length t37.1.Wet) c42, .int .i64 t37.1.Fuse, .bool t37.1.Dead])] ?_ ?_
      · rcases Bool.eq_false_or_eq_true (!t44) with hg46 | hg46
        · refine HQ.off rfl rfl hg46 rfl ?_
          refine HQ.off rfl rfl hg46 rfl ?_
          refine HQ.off rfl rfl hg46 rfl ?_
          refine HQ.pu (Pu.pickOT (u := (!decide (t37.2 = t18.2))) hg46) ⟨rfl, rfl, trivial⟩ rfl rfl rfl ?_
          exact HQ.mid ⟨rfl, rfl, rfl, rfl, rfl, rfl, rfl, rfl, rfl, rfl, rfl, rfl, trivial⟩ ⟨rfl, rfl, rfl, rfl, rfl, rfl, rfl, rfl, rfl, rfl, rfl, rfl, rfl, rfl, rfl, rfl, trivial⟩ rfl
        · refine HQ.on rfl rfl hg46 ?_
          refine HQ.pu Pu.move ⟨rfl, trivial⟩ rfl rfl rfl ?_
          refine HQ.on rfl rfl hg46 ?_
          refine HQ.pu Pu.move ⟨rfl, trivial⟩ rfl rfl rfl ?_
          refine HQ.on rfl rfl hg46 ?_
          refine HQ.pu Pu.neq ⟨rfl, rfl, trivial⟩ rfl rfl rfl ?_
          refine HQ.pu (Pu.pickOF hg46) ⟨rfl, rfl, trivial⟩ rfl rfl rfl ?_
          exact HQ.mid ⟨rfl, rfl, rfl, rfl, rfl, rfl, rfl, rfl, rfl, rfl, rfl, rfl, trivial⟩ ⟨rfl, rfl, rfl, rfl, rfl, rfl, rfl, rfl, rfl, rfl, rfl, rfl, rfl, rfl, rfl, rfl, trivial⟩ rfl
      refine HQ.done ?_
      refine HQ.keep [(61, _), (1, _), (2, _), (4, _), (7, _), (8, _), (10, _), (11, _), (12, _), (13, _), (14, _), (15, _)] ⟨rfl, rfl, rfl, rfl, rfl, rfl, rfl, rfl, rfl, rfl, rfl, rfl, trivial⟩ ?_
      rcases brk H with ⟨hc, H⟩ | ⟨hc, H⟩
      · refine HQ.condT rfl hc ?_
        clear hc
        refine HQ.rseq ?_
        refine HQ.pu Pu.assign ⟨rfl, trivial⟩ rfl rfl rfl ?_
        refine HQ.done ?_
        refine HQ.keep [(1, _), (2, _), (4, _), (7, _), (8, _), (10, _), (11, _), (12, _), (13, _), (14, _), (15, _)] ⟨rfl, rfl, rfl, rfl, rfl, rfl, rfl, rfl, rfl, rfl, rfl, trivial⟩ ?_
        refine HQ.ret ?_
        refine HQ.thenR ?_
        obtain rfl := Option.some.inj H
        exact HQ.fin (vs := [_]) Try.results13 () ⟨rfl, trivial⟩ rfl [] trivial rfl
      · refine HQ.condF rfl hc ?_
        clear hc
        refine HQ.skipThen ?_
        refine HQ.seq ?_
        obtain ⟨t48, h49, H⟩ := bnd H
        refine HQ.drawS mixd [(1, .int .i64 p1), (2, .int .i64 p2), (4, BP b1 0), (7, BP b2 0), (8, .bool false), (10, BP g7.2.2.2 0), (11, .int .i64 t18.2), (12, BP b31 0), (13, BP b36 0), (14, BP b43 0), (15, .int .i64 t37.2)] 3 [⟨[0], [0], []⟩, ⟨[1], [1], []⟩, ⟨[], [2, 3], [1]⟩] [⟨none, none⟩, ⟨none, none⟩, ⟨some 2, none⟩, ⟨some 2, none⟩] (fun (g47 : ((Option Addr × Nat) × (Option Addr × Nat))) => [.agg #[.slice a27 (List.length t25.Cells) c28, .slice a29 (List.length t25.Wet) c30, .int .i64 t25.Fuse, .bool t25.Dead], .agg #[.slice a_0 (List.length p0.Cells) c_0, .slice a_1 (List.length p0.Wet) c_1, .int .i64 p0.Fuse, .bool p0.Dead], .agg #[.slice g47.1.1 (List.length t48.Cells) g47.1.2, .slice g47.2.1 (List.length t48.Wet) g47.2.2, .int .i64 t48.Fuse, .bool t48.Dead]]) (fun (g47 : ((Option Addr × Nat) × (Option Addr × Nat))) => [Box b31 [.slice a27 (List.length t25.Cells) c28, .slice a29 (List.length t25.Wet) c30, .int .i64 t25.Fuse, .bool t25.Dead], Box b1 [.slice a_0 (List.length p0.Cells) c_0, .slice a_1 (List.length p0.Wet) c_1, .int .i64 p0.Fuse, .bool p0.Dead], OwnS kTCell g47.1.1 g47.1.2 t48.Cells, OwnS kTWet g47.2.1 g47.2.2 t48.Wet]) ((none, 0), (none, 0)) [11, 1] [11, 1, 17, 18] [] ⟨rfl, rfl, rfl, rfl, rfl, rfl, rfl, rfl, rfl, rfl, rfl, trivial⟩ ⟨rfl, rfl, trivial⟩ rfl (by kernel_rfl) (fun _ => rfl) (by kernel_rfl) (fun _ => rfl) ⟨?_, ?_, ?_, trivial⟩ fun g47 => ?_
        · exact OpOK.of (fun g47 => [(.tmp 12, BP b31 0)]) _ _ (fun g47 _ => g47) rfl rfl (fun _ => ⟨rfl, trivial⟩) (fun g47 => OT.loadBA (vs := [.slice a27 (List.length t25.Cells) c28, .slice a29 (List.length t25.Wet) c30, .int .i64 t25.Fuse, .bool t25.Dead]) ag42 sz42 rfl rfl) (fun _ _ => ⟨rfl, rfl, ⟨rfl, rfl, rfl, rfl, trivial⟩⟩)
        · exact OpOK.of (fun g47 => [(.tmp 4, BP b1 0)]) _ _ (fun g47 _ => g47) rfl rfl (fun _ => ⟨rfl, trivial⟩) (fun g47 => OT.loadBA (vs := [.slice a_0 (List.length p0.Cells) c_0, .slice a_1 (List.length p0.Wet) c_1, .int .i64 p0.Fuse, .bool p0.Dead]) ag36 sz36 rfl rfl) (fun _ _ => ⟨rfl, rfl, ⟨rfl, rfl, rfl, rfl, trivial⟩⟩)
        · exact OpOK.of (fun g47 => [(.func 26, .func (.func 26) #[] #[]), (.tmp 63, .agg #[.slice a_0 (List.length p0.Cells) c_0, .slice a_1 (List.length p0.Wet) c_1, .int .i64 p0.Fuse, .bool p0.Dead])]) _ _ (fun g47 x => x) rfl rfl (fun _ => ⟨rfl, rfl, trivial⟩) (fun g47 => OT.call (us := [_]) (Pre := []) [.tmp 63] Try.call26 rfl rfl fun w F hs hF hp => laws_toDisk_c (hb_0.pass hp) (hb_1.pass hp) h49) (fun _ _ => ⟨rfl, rfl, ⟨rfl, rfl, rfl, rfl, trivial⟩⟩)
        refine HQ.keep [(1, _), (2, _), (4, _), (7, _), (8, _), (10, _), (11, _), (12, _), (13, _), (14, _), (15, _), (62, _), (64, _)] ⟨rfl, rfl, rfl, rfl, rfl, rfl, rfl, rfl, rfl, rfl, rfl, rfl, rfl, trivial⟩ ?_
        refine HQ.keepR [(1, _), (2, _), (3, _), (4, _), (5, _), (6, _), (7, _), (8, _), (9, _), (10, _), (11, _), (12, _), (13, _), (14, _), (15, _), (16, _), (17, _), (18, _)] ⟨rfl, rfl, rfl, rfl, rfl, rfl, rfl, rfl, rfl, rfl, rfl, rfl, rfl, rfl, rfl, rfl, rfl, rfl, trivial⟩ rfl ?_
        obtain ⟨t54, h55, H⟩ := bnd H
        refine HQ.op [9, 10, 17, 18] [9, 10, 17, 18] (OT.call (us := [_, _]) (Pre := [OwnS kTCell a27 c28 t25.Cells, OwnS kTWet a29 c30 t25.Wet, OwnS kTCell g47.1.1 g47.1.2 t48.Cells, OwnS kTWet g47.2.1 g47.2.2 t48.Wet]) [.tmp 62, .tmp 64] Try.call29 rfl rfl fun w F hs hF hp => laws_eqDisk_c (hs.lend hF 0 rfl) (hs.lend hF 1 rfl) (hs.lend hF 2 rfl) (hs.lend hF 3 rfl) h55) ⟨rfl, rfl, rfl, trivial⟩ ⟨rfl, rfl, rfl, rfl, trivial⟩ rfl rfl rfl rfl (fun _ => rfl) fun _ => ?_
        refine HQ.pu Pu.not ⟨rfl, trivial⟩ rfl rfl rfl ?_
        refine HQ.done ?_
        refine HQ.keep [(1, _), (2, _), (4, _), (7, _), (8, _), (10, _), (11, _), (12, _), (13, _), (14, _), (15, _), (66, _)] ⟨rfl, rfl, rfl, rfl, rfl, rfl, rfl, rfl, rfl, rfl, rfl, rfl, trivial⟩ ?_
        rcases brk H with ⟨hc, H⟩ | ⟨hc, H⟩
        · refine HQ.condT rfl hc ?_
          clear hc
          refine HQ.rseq ?_
          refine HQ.pu Pu.assign ⟨rfl, trivial⟩ rfl rfl rfl ?_
          refine HQ.done ?_
          refine HQ.keep [(1, _), (2, _), (4, _), (7, _), (8, _), (10, _), (11, _), (12, _), (13, _), (14, _), (15, _)] ⟨rfl, rfl, rfl, rfl, rfl, rfl, rfl, rfl, rfl, rfl, rfl, trivial⟩ ?_
          refine HQ.ret ?_
          refine HQ.thenR ?_
          obtain rfl := Option.some.inj H
          exact HQ.fin (vs := [_]) Try.results13 () ⟨rfl, trivial⟩ rfl [] trivial rfl
        · refine HQ.condF rfl hc ?_
          clear hc
          refine HQ.skipThen ?_
          refine HQ.seq ?_
          obtain ⟨t57, h58, H⟩ := bnd H
          refine HQ.drawS mixd [(1, .int .i64 p1), (2, .int .i64 p2), (4, BP b1 0), (7, BP b2 0), (8, .bool false), (10, BP g7.2.2.2 0), (11, .int .i64 t18.2), (12, BP b31 0), (13, BP b36 0), (14, BP b43 0), (15, .int .i64 t37.2)] 3 [⟨[0], [0], []⟩, ⟨[1], [1], []⟩, ⟨[], [2], [1]⟩] [⟨none, none⟩, ⟨none, none⟩, ⟨some 2, none⟩] (fun (g56 : (Option Addr × Nat)) => [.agg #[.int .i64 t32.Seq, .int .i64 t32.Root, .int .i64 t32.Size, .slice a34 (List.length t32.Puts) c35], .agg #[.int .i64 p3.Seq, .int .i64 p3.Root, .int .i64 p3.Size, .slice a_2 (List.length p3.Puts) c_2], .agg #[.int .i64 t57.Seq, .int .i64 t57.Root, .int .i64 t57.Size, .slice g56.1 (List.length t57.Puts) g56.2]]) (fun (g56 : (Option Addr × Nat)) => [Box b36 [.int .i64 t32.Seq, .int .i64 t32.Root, .int .i64 t32.Size, .slice a34 (List.length t32.Puts) c35], Box b2 [.int .i64 p3.Seq, .int .i64 p3.Root, .int .i64 p3.Size, .slice a_2 (List.length p3.Puts) c_2], OwnS kTChange g56.1 g56.2 t57.Puts]) (none, 0) [13, 2] [13, 2, 19] [] ⟨rfl, rfl, rfl, rfl, rfl, rfl, rfl, rfl, rfl, rfl, rfl, trivial⟩ ⟨rfl, rfl, trivial⟩ rfl (by kernel_rfl) (fun _ => rfl) (by kernel_rfl) (fun _ => rfl) ⟨?_, ?_, ?_, trivial⟩ fun g56 => ?_
          · exact OpOK.of (fun g56 => [(.tmp 13, BP b36 0)]) _ _ (fun g56 _ => g56) rfl rfl (fun _ => ⟨rfl, trivial⟩) (fun g56 => OT.loadBA (vs := [.int .i64 t32.Seq, .int .i64 t32.Root, .int .i64 t32.Size, .slice a34 (List.length t32.Puts) c35]) ag60 sz60 rfl rfl) (fun _ _ => ⟨rfl, rfl, ⟨rfl, rfl, rfl, trivial⟩⟩)
          · exact OpOK.of (fun g56 => [(.tmp 7, BP b2 0)]) _ _ (fun g56 _ => g56) rfl rfl (fun _ => ⟨rfl, trivial⟩) (fun g56 => OT.loadBA (vs := [.int .i64 p3.Seq, .int .i64 p3.Root, .int .i64 p3.Size, .slice a_2 (List.length p3.Puts) c_2]) ag55 sz55 rfl rfl) (fun _ _ => ⟨rfl, rfl, ⟨rfl, rfl, rfl, trivial⟩⟩)
          · exact OpOK.of (fun g56 => [(.func 38, .func (.func 38) #[] #[]), (.tmp 68, .agg #[.int .i64 p3.Seq, .int .i64 p3.Root, .int .i64 p3.Size, .slice a_2 (List.length p3.Puts) c_2])]) _ _ (fun g56 x => x) rfl rfl (fun _ => ⟨rfl, rfl, trivial⟩) (fun g56 => OT.call (us := [_]) (Pre := []) [.tmp 68] Try.call38 rfl rfl fun w F hs hF hp => laws_toTx_c (hb_2.pass hp) h58) (fun _ _ => ⟨rfl, rfl, ⟨rfl, rfl, rfl, trivial⟩⟩)
          refine HQ.keep [(1, _), (2, _), (4, _), (7, _), (8, _), (10, _), (11, _), (12, _), (13, _), (14, _), (15, _), (67, _), (69, _)] ⟨rfl, rfl, rfl, rfl, rfl, rfl, rfl, rfl, rfl, rfl, rfl, rfl, rfl, trivial⟩ ?_
          refine HQ.keepR [(1, _), (2, _), (3, _), (4, _), (5, _), (6, _), (7, _), (8, _), (9, _), (10, _), (11, _), (12, _), (13, _), (14, _), (15, _), (16, _), (17, _), (18, _), (19, _)] ⟨rfl, rfl, rfl, rfl, rfl, rfl, rfl, rfl, rfl, rfl, rfl, rfl, rfl, rfl, rfl, rfl, rfl, rfl, rfl, trivial⟩ rfl ?_
          obtain ⟨t61, h62, H⟩ := bnd H
          refine HQ.op [12, 19] [12, 19] (OT.call (us := [_, _]) (Pre := [OwnS kTChange a34 c35 t32.Puts, OwnS kTChange g56.1 g56.2 t57.Puts]) [.tmp 67, .tmp 69] Try.call40 rfl rfl fun w F hs hF hp => laws_eqTx_c (hs.lend hF 0 rfl) (hs.lend hF 1 rfl) h62) ⟨rfl, rfl, rfl, trivial⟩ ⟨rfl, rfl, trivial⟩ rfl rfl rfl rfl (fun _ => rfl) fun _ => ?_
          refine HQ.pu Pu.not ⟨rfl, trivial⟩ rfl rfl rfl ?_
          refine HQ.done ?_
          refine HQ.keep [(1, _), (2, _), (4, _), (7, _), (8, _), (10, _), (11, _), (12, _), (13, _), (14, _), (15, _), (71, _)] ⟨rfl, rfl, rfl, rfl, rfl, rfl, rfl, rfl, rfl, rfl, rfl, rfl, trivial⟩ ?_
          rcases brk H with ⟨hc, H⟩ | ⟨hc, H⟩
          · refine HQ.condT rfl hc ?_
            clear hc
            refine HQ.rseq ?_
            refine HQ.pu Pu.assign ⟨rfl, trivial⟩ rfl rfl rfl ?_
            refine HQ.done ?_
            refine HQ.keep [(1, _), (2, _), (4, _), (7, _), (8, _), (10, _), (11, _), (12, _), (13, _), (14, _), (15, _)] ⟨rfl, rfl, rfl, rfl, rfl, rfl, rfl, rfl, rfl, rfl, rfl, trivial⟩ ?_
            refine HQ.ret ?_
            refine HQ.thenR ?_
            obtain rfl := Option.some.inj H
            exact HQ.fin (vs := [_]) Try.results13 () ⟨rfl, trivial⟩ rfl [] trivial rfl
          · refine HQ.condF rfl hc ?_
            clear hc
            refine HQ.skipThen ?_
            refine HQ.rseq ?_
            refine HQ.pu Pu.assign ⟨rfl, trivial⟩ rfl rfl rfl ?_
            refine HQ.done ?_
            refine HQ.keep [(1, _), (2, _), (4, _), (7, _), (8, _), (10, _), (11, _), (12, _), (13, _), (14, _), (15, _), (16, _)] ⟨rfl, rfl, rfl, rfl, rfl, rfl, rfl, rfl, rfl, rfl, rfl, rfl, trivial⟩ ?_
            refine HQ.rseq ?_
            refine HQ.op [11] [11] (OT.loadBA (vs := [.slice a27 (List.length t25.Cells) c28, .slice a29 (List.length t25.Wet) c30, .int .i64 t25.Fuse, .bool t25.Dead]) ag42 sz42 rfl rfl) ⟨rfl, trivial⟩ ⟨rfl, trivial⟩ rfl rfl rfl rfl (fun _ => rfl) fun _ => ?_
            refine HQ.pu Pu.move ⟨rfl, trivial⟩ rfl rfl rfl ?_
            obtain ⟨t63, h64, H⟩ := bnd H
            obtain ⟨h65, H⟩ := asr H
            obtain ⟨h66, H⟩ := asr H
            refine HQ.op [9, 10] [9, 10] (OT.callM (us := [_, _]) (PreX := [OwnS kTCell a27 c28 t25.Cells, OwnS kTWet a29 c30 t25.Wet]) (PreL := []) [.tmp 72, .tmp 73] Try.call31 rfl rfl fun w FX FL hs1 hF1 hs2 hF2 hp => laws_markDisk_c hs1 hF1 h64) ⟨rfl, rfl, rfl, trivial⟩ ⟨rfl, rfl, trivial⟩ rfl rfl rfl rfl (fun _ => rfl) fun _ => ?_
            refine HQ.re (v' := .agg #[.slice a27 (List.length t63.2.1) c28, .slice a29 (List.length t63.2.2) c30, .int .i64 t25.Fuse, .bool t25.Dead]) 72 rfl (by simp [h65, h66]) ?_
            refine HQ.reR (B := Box b31 [.slice a27 (List.length t63.2.1) c28, .slice a29 (List.length t63.2.2) c30, .int .i64 t25.Fuse, .bool t25.Dead]) 11 rfl (fun _ _ hb => by rw [show List.length t63.2.1 = List.length t25.Cells from (by simp [h65, h66]), show List.length t63.2.2 = List.length t25.Wet from (by simp [h65, h66])]; exact hb) ?_
            refine HQ.pu Pu.assign ⟨rfl, trivial⟩ rfl rfl rfl ?_
            refine HQ.done ?_
            refine HQ.keep [(1, _), (2, _), (4, _), (7, _), (8, _), (10, _), (11, _), (13, _), (14, _), (15, _), (16, _)] ⟨rfl, rfl, rfl, rfl, rfl, rfl, rfl, rfl, rfl, rfl, rfl, trivial⟩ ?_
            refine HQ.rseq ?_
            refine HQ.op [13] [13] (OT.loadBA (vs := [.int .i64 t32.Seq, .int .i64 t32.Root, .int .i64 t32.Size, .slice a34 (List.length t32.Puts) c35]) ag60 sz60 rfl rfl) ⟨rfl, trivial⟩ ⟨rfl, trivial⟩ rfl rfl rfl rfl (fun _ => rfl) fun _ => ?_
            refine HQ.pu Pu.move ⟨rfl, trivial⟩ rfl rfl rfl ?_
            obtain ⟨t67, h68, H⟩ := bnd H
            obtain ⟨h69, H⟩ := asr H
            refine HQ.op [12] [12] (OT.callM (us := [_, _]) (PreX := [OwnS kTChange a34 c35 t32.Puts]) (PreL := []) [.tmp 75, .tmp 76] Try.call41 rfl rfl fun w FX FL hs1 hF1 hs2 hF2 hp => laws_markTx_c hs1 hF1 h68) ⟨rfl, rfl, rfl, trivial⟩ ⟨rfl, trivial⟩ rfl rfl rfl rfl (fun _ => rfl) fun _ => ?_
            refine HQ.re (v' := .agg #[.int .i64 t32.Seq, .int .i64 t32.Root, .int .i64 t32.Size, .slice a34 (List.length t67.2) c35]) 75 rfl (by simp [h65, h66, h69]) ?_
            refine HQ.reR (B := Box b36 [.int .i64 t32.Seq, .int .i64 t32.Root, .int .i64 t32.Size, .slice a34 (List.length t67.2) c35]) 13 rfl (fun _ _ hb => by rw [show List.length t67.2 = List.length t32.Puts from (by simp [h65, h66, h69])]; exact hb) ?_
            refine HQ.pu Pu.assign ⟨rfl, trivial⟩ rfl rfl rfl ?_
            refine HQ.done ?_
            refine HQ.keep [(1, _), (2, _), (4, _), (7, _), (8, _), (10, _), (11, _), (14, _), (15, _), (16, _)] ⟨rfl, rfl, rfl, rfl, rfl, rfl, rfl, rfl, rfl, rfl, trivial⟩ ?_
            refine HQ.seq ?_
            refine HQ.rseq ?_
            refine HQ.pu Pu.move ⟨rfl, trivial⟩ rfl rfl rfl ?_
            refine HQ.pu Pu.lss ⟨rfl, rfl, trivial⟩ rfl rfl rfl ?_
            refine HQ.pu Pu.move ⟨rfl, trivial⟩ rfl rfl rfl ?_
            obtain ⟨c73, h74, H⟩ := bnd H
            refine HQ.cutAt 5 [(85, .bool c73), (1, .int .i64 p1), (2, .int .i64 p2), (4, BP b1 0), (7, BP b2 0), (8, .bool false), (10, BP g7.2.2.2 0), (11, .int .i64 t18.2), (14, BP b43 0), (15, .int .i64 t37.2)] [(1, Box b1 [.slice a_0 (List.length p0.Cells) c_0, .slice a_1 (List.length p0.Wet) c_1, .int .i64 p0.Fuse, .bool p0.Dead]), (2, Box b2 [.int .i64 p3.Seq, .int .i64 p3.Root, .int .i64 p3.Size, .slice a_2 (List.length p3.Puts) c_2]), (3, OwnS kTCell g7.1.1.1 g7.1.1.2 t8.Cells), (4, OwnS kTWet g7.1.2.1 g7.1.2.2 t8.Wet), (5, OwnS kTChange g7.2.1.1 g7.2.1.2 t14.Puts), (6, OwnS kTCell g7.2.2.1.1.1 g7.2.2.1.1.2 t18.1.Cells), (7, OwnS kTWet g7.2.2.1.2.1 g7.2.2.1.2.2 t18.1.Wet), (8, Box g7.2.2.2 [.slice g7.2.2.1.1.1 (List.length t18.1.Cells) g7.2.2.1.1.2, .slice g7.2.2.1.2.1 (List.length t18.1.Wet) g7.2.2.1.2.2, .int .i64 t18.1.Fuse, .bool t18.1.Dead]), (9, OwnS kTCell a27 c28 t63.2.1), (10, OwnS kTWet a29 c30 t63.2.2), (11, Box b31 [.slice a27 (List.length t63.2.1) c28, .slice a29 (List.length t63.2.2) c30, .int .i64 t25.Fuse, .bool t25.Dead]), (12, OwnS kTChange a34 c35 t67.2), (13, Box b36 [.int .i64 t32.Seq, .int .i64 t32.Root, .int .i64 t32.Size, .slice a34 (List.length t67.2) c35]), (14, OwnS kTCell a39 c40 t37.1.Cells), (15, OwnS kTWet a41 c42 t37.1.Wet), (16, Box b43 [.slice a39 (List.length t37.1.Cells) c40, .slice a41 (List.length t37.1.Wet) c42, .int .i64 t37.1.Fuse, .bool t37.1.Dead]), (17, OwnS kTCell g47.1.1 g47.1.2 t48.Cells), (18, OwnS kTWet g47.2.1 g47.2.2 t48.Wet), (19, OwnS kTChange g56.1 g56.2 t57.Puts)] ?_ ?_
            · clear H
              have H := h74
              rcases brk H with ⟨hg70, H⟩ | ⟨hg70, H⟩
              · obtain rfl := Option.some.inj H
                refine HQ.off rfl rfl hg70 rfl ?_
                refine HQ.off rfl rfl hg70 rfl ?_
                refine HQ.off rfl rfl hg70 rfl ?_
                refine HQ.off rfl rfl hg70 rfl ?_
                refine HQ.pu (Pu.pickC1 hg70) ⟨rfl, rfl, trivial⟩ rfl rfl rfl ?_
                exact HQ.mid ⟨rfl, rfl, rfl, rfl, rfl, rfl, rfl, rfl, rfl, rfl, trivial⟩ ⟨rfl, rfl, rfl, rfl, rfl, rfl, rfl, rfl, rfl, rfl, rfl, rfl, rfl, rfl, rfl, rfl, rfl, rfl, rfl, trivial⟩ rfl
              · refine HQ.on rfl rfl hg70 ?_
                refine HQ.op [16] [16] (OT.loadBA (vs := [.slice a39 (List.length t37.1.Cells) c40, .slice a41 (List.length t37.1.Wet) c42, .int .i64 t37.1.Fuse, .bool t37.1.Dead]) ag42 sz42 rfl rfl) ⟨rfl, trivial⟩ ⟨rfl, trivial⟩ rfl rfl rfl rfl (fun _ => rfl) fun _ => ?_
                refine HQ.on rfl rfl hg70 ?_
                refine HQ.op [8] [8] (OT.loadBA (vs := [.slice g7.2.2.1.1.1 (List.length t18.1.Cells) g7.2.2.1.1.2, .slice g7.2.2.1.2.1 (List.length t18.1.Wet) g7.2.2.1.2.2, .int .i64 t18.1.Fuse, .bool t18.1.Dead]) ag42 sz42 rfl rfl) ⟨rfl, trivial⟩ ⟨rfl, trivial⟩ rfl rfl rfl rfl (fun _ => rfl) fun _ => ?_
                refine HQ.on rfl rfl hg70 ?_
                obtain ⟨t71, h72, H⟩ := bnd H
                refine HQ.op [14, 15, 6, 7] [14, 15, 6, 7] (OT.call (us := [_, _]) (Pre := [OwnS kTCell a39 c40 t37.1.Cells, OwnS kTWet a41 c42 t37.1.Wet, OwnS kTCell g7.2.2.1.1.1 g7.2.2.1.1.2 t18.1.Cells, OwnS kTWet g7.2.2.1.2.1 g7.2.2.1.2.2 t18.1.Wet]) [.tmp 81, .tmp 82] Try.call29 rfl rfl fun w F hs hF hp => laws_eqDisk_c (hs.lend hF 0 rfl) (hs.lend hF 1 rfl) (hs.lend hF 2 rfl) (hs.lend hF 3 rfl) h72) ⟨rfl, rfl, rfl, trivial⟩ ⟨rfl, rfl, rfl, rfl, trivial⟩ rfl rfl rfl rfl (fun _ => rfl) fun _ => ?_
                refine HQ.on rfl rfl hg70 ?_
                refine HQ.pu Pu.not ⟨rfl, trivial⟩ rfl rfl rfl ?_
                obtain rfl := Option.some.inj H
                refine HQ.pu (Pu.pickC0 hg70) ⟨rfl, rfl, trivial⟩ rfl rfl rfl ?_
                exact HQ.mid ⟨rfl, rfl, rfl, rfl, rfl, rfl, rfl, rfl, rfl, rfl, trivial⟩ ⟨rfl, rfl, rfl, rfl, rfl, rfl, rfl, rfl, rfl, rfl, rfl, rfl, rfl, rfl, rfl, rfl, rfl, rfl, rfl, trivial⟩ rfl
            refine HQ.pu Pu.move ⟨rfl, trivial⟩ rfl rfl rfl ?_
            refine HQ.cutAt 4 [(90, .bool (c73 || (!decide (t37.2 = t18.2)))), (1, .int .i64 p1), (2, .int .i64 p2), (4, BP b1 0), (7, BP b2 0), (8, .bool false), (10, BP g7.2.2.2 0), (11, .int .i64 t18.2), (14, BP b43 0)] [(1, Box b1 [.slice a_0 (List.length p0.Cells) c_0, .slice a_1 (List.length p0.Wet) c_1, .int .i64 p0.Fuse, .bool p0.Dead]), (2, Box b2 [.int .i64 p3.Seq, .int .i64 p3.Root, .int .i64 p3.Size, .slice a_2 (List.length p3.Puts) c_2]), (3, OwnS kTCell g7.1.1.1 g7.1.1.2 t8.Cells), (4, OwnS kTWet g7.1.2.1 g7.1.2.2 t8.Wet), (5, OwnS kTChange g7.2.1.1 g7.2.1.2 t14.Puts), (6, OwnS kTCell g7.2.2.1.1.1 g7.2.2.1.1.2 t18.1.Cells), (7, OwnS kTWet g7.2.2.1.2.1 g7.2.2.1.2.2 t18.1.Wet), (8, Box g7.2.2.2 [.slice g7.2.2.1.1.1 (List.length t18.1.Cells) g7.2.2.1.1.2, .slice g7.2.2.1.2.1 (List.length t18.1.Wet) g7.2.2.1.2.2, .int .i64 t18.1.Fuse, .bool t18.1.Dead]), (9, OwnS kTCell a27 c28 t63.2.1), (10, OwnS kTWet a29 c30 t63.2.2), (11, Box b31 [.slice a27 (List.length t63.2.1) c28, .slice a29 (List.length t63.2.2) c30, .int .i64 t25.Fuse, .bool t25.Dead]), (12, OwnS kTChange a34 c35 t67.2), (13, Box b36 [.int .i64 t32.Seq, .int .i64 t32.Root, .int .i64 t32.Size, .slice a34 (List.length t67.2) c35]), (14, OwnS kTCell a39 c40 t37.1.Cells), (15, OwnS kTWet a41 c42 t37.1.Wet), (16, Box b43 [.slice a39 (List.length t37.1.Cells) c40, .slice a41 (List.length t37.1.Wet) c42, .int .i64 t37.1.Fuse, .bool t37.1.Dead]), (17, OwnS kTCell g47.1.1 g47.1.2 t48.Cells), (18, OwnS kTWet g47.2.1 g47.2.2 t48.Wet), (19, OwnS kTChange g56.1 g56.2 t57.Puts)] ?_ ?_
            · rcases Bool.eq_false_or_eq_true c73 with hg75 | hg75
              · refine HQ.off rfl rfl hg75 rfl ?_
                refine HQ.off rfl rfl hg75 rfl ?_
                refine HQ.off rfl rfl hg75 rfl ?_
                refine HQ.pu (Pu.pickOT (u := (!decide (t37.2 = t18.2))) hg75) ⟨rfl, rfl, trivial⟩ rfl rfl rfl ?_
                exact HQ.mid ⟨rfl, rfl, rfl, rfl, rfl, rfl, rfl, rfl, rfl, trivial⟩ ⟨rfl, rfl, rfl, rfl, rfl, rfl, rfl, rfl, rfl, rfl, rfl, rfl, rfl, rfl, rfl, rfl, rfl, rfl, rfl, trivial⟩ rfl
              · refine HQ.on rfl rfl hg75 ?_
                refine HQ.pu Pu.move ⟨rfl, trivial⟩ rfl rfl rfl ?_
                refine HQ.on rfl rfl hg75 ?_
                refine HQ.pu Pu.move ⟨rfl, trivial⟩ rfl rfl rfl ?_
                refine HQ.on rfl rfl hg75 ?_
                refine HQ.pu Pu.neq ⟨rfl, rfl, trivial⟩ rfl rfl rfl ?_
                refine HQ.pu (Pu.pickOF hg75) ⟨rfl, rfl, trivial⟩ rfl rfl rfl ?_
                exact HQ.mid ⟨rfl, rfl, rfl, rfl, rfl, rfl, rfl, rfl, rfl, trivial⟩ ⟨rfl, rfl, rfl, rfl, rfl, rfl, rfl, rfl, rfl, rfl, rfl, rfl, rfl, rfl, rfl, rfl, rfl, rfl, rfl, trivial⟩ rfl
            refine HQ.done ?_
            refine HQ.keep [(90, _), (1, _), (2, _), (4, _), (7, _), (8, _), (10, _), (11, _), (14, _)] ⟨rfl, rfl, rfl, rfl, rfl, rfl, rfl, rfl, rfl, trivial⟩ ?_
            rcases brk H with ⟨hc, H⟩ | ⟨hc, H⟩
            · refine HQ.condT rfl hc ?_
              clear hc
              refine HQ.rseq ?_
              refine HQ.pu Pu.assign ⟨rfl, trivial⟩ rfl rfl rfl ?_
              refine HQ.done ?_
              refine HQ.keep [(1, _), (2, _), (4, _), (7, _), (8, _), (10, _), (11, _), (14, _)] ⟨rfl, rfl, rfl, rfl, rfl, rfl, rfl, rfl, trivial⟩ ?_
              refine HQ.ret ?_
              refine HQ.thenR ?_
              obtain rfl := Option.some.inj H
              exact HQ.fin (vs := [_]) Try.results13 () ⟨rfl, trivial⟩ rfl [] trivial rfl
            · refine HQ.condF rfl hc ?_
              clear hc
              refine HQ.skipThen ?_
              refine HQ.rseq ?_
              refine HQ.pu Pu.assign ⟨rfl, trivial⟩ rfl rfl rfl ?_
              refine HQ.done ?_
              refine HQ.keep [(1, _), (2, _), (4, _), (7, _), (8, _), (10, _), (11, _), (14, _), (17, _)] ⟨rfl, rfl, rfl, rfl, rfl, rfl, rfl, rfl, rfl, trivial⟩ ?_
              refine HQ.rseq ?_
              refine HQ.op [16] [16] (OT.loadBA (vs := [.slice a39 (List.length t37.1.Cells) c40, .slice a41 (List.length t37.1.Wet) c42, .int .i64 t37.1.Fuse, .bool t37.1.Dead]) ag42 sz42 rfl rfl) ⟨rfl, trivial⟩ ⟨rfl, trivial⟩ rfl rfl rfl rfl (fun _ => rfl) fun _ => ?_
              refine HQ.pu Pu.move ⟨rfl, trivial⟩ rfl rfl rfl ?_
              obtain ⟨t76, h77, H⟩ := bnd H
              obtain ⟨h78, H⟩ := asr H
              obtain ⟨h79, H⟩ := asr H
              refine HQ.op [14, 15] [14, 15] (OT.callM (us := [_, _]) (PreX := [OwnS kTCell a39 c40 t37.1.Cells, OwnS kTWet a41 c42 t37.1.Wet]) (PreL := []) [.tmp 91, .tmp 92] Try.call31 rfl rfl fun w FX FL hs1 hF1 hs2 hF2 hp => laws_markDisk_c hs1 hF1 h77) ⟨rfl, rfl, rfl, trivial⟩ ⟨rfl, rfl, trivial⟩ rfl rfl rfl rfl (fun _ => rfl) fun _ => ?_
              refine HQ.re (v' := .agg #[.slice a39 (List.length t76.2.1) c40, .slice a41 (List.length t76.2.2) c42, .int .i64 t37.1.Fuse, .bool t37.1.Dead]) 91 rfl (by simp [h65, h66, h69, h78, h79]) ?_
              refine HQ.reR (B := Box b43 [.slice a39 (List.length t76.2.1) c40, .slice a41 (List.length t76.2.2) c42, .int .i64 t37.1.Fuse, .bool t37.1.Dead]) 16 rfl (fun _ _ hb => by rw [show List.length t76.2.1 = List.length t37.1.Cells from (by simp [h65, h66, h69, h78, h79]), show List.length t76.2.2 = List.length t37.1.Wet from (by simp [h65, h66, h69, h78, h79])]; exact hb) ?_
              refine HQ.pu Pu.assign ⟨rfl, trivial⟩ rfl rfl rfl ?_
              refine HQ.done ?_
              refine HQ.keep [(1, _), (2, _), (4, _), (7, _), (8, _), (10, _), (11, _), (14, _), (17, _)] ⟨rfl, rfl, rfl, rfl, rfl, rfl, rfl, rfl, rfl, trivial⟩ ?_
              refine HQ.rseq ?_
              refine HQ.pu Pu.assign ⟨rfl, trivial⟩ rfl rfl rfl ?_
              refine HQ.done ?_
              refine HQ.keep [(1, _), (2, _), (4, _), (7, _), (8, _), (10, _), (11, _), (14, _), (17, _), (18, _)] ⟨rfl, rfl, rfl, rfl, rfl, rfl, rfl, rfl, rfl, rfl, trivial⟩ ?_
              refine HQ.rseq ?_
              refine HQ.op [16] [16] (OT.loadBA (vs := [.slice a39 (List.length t76.2.1) c40, .slice a41 (List.length t76.2.2) c42, .int .i64 t37.1.Fuse, .bool t37.1.Dead]) ag42 sz42 rfl rfl) ⟨rfl, trivial⟩ ⟨rfl, trivial⟩ rfl rfl rfl rfl (fun _ => rfl) fun _ => ?_
              refine HQ.pu Pu.move ⟨rfl, trivial⟩ rfl rfl rfl ?_
              obtain ⟨t80, h81, H⟩ := bnd H
              refine HQ.op [14, 15] [14, 15] (OT.call (us := [_, _]) (Pre := [OwnS kTCell a39 c40 t76.2.1, OwnS kTWet a41 c42 t76.2.2]) [.tmp 94, .tmp 95] Try.call33 rfl rfl fun w F hs hF hp => laws_heldDisk_c (hs.lend hF 0 rfl) (hs.lend hF 1 rfl) h81) ⟨rfl, rfl, rfl, trivial⟩ ⟨rfl, rfl, trivial⟩ rfl rfl rfl rfl (fun _ => rfl) fun _ => ?_
              refine HQ.pu Pu.assign ⟨rfl, trivial⟩ rfl rfl rfl ?_
              refine HQ.done ?_
              refine HQ.keep [(1, _), (2, _), (4, _), (7, _), (8, _), (10, _), (11, _), (14, _), (17, _), (18, _)] ⟨rfl, rfl, rfl, rfl, rfl, rfl, rfl, rfl, rfl, rfl, trivial⟩ ?_
              refine HQ.seq ?_
              refine HQ.rseq ?_
              refine HQ.pu Pu.move ⟨rfl, trivial⟩ rfl rfl rfl ?_
              refine HQ.pu Pu.lss ⟨rfl, rfl, trivial⟩ rfl rfl rfl ?_
              refine HQ.done ?_
              refine HQ.keep [(1, _), (2, _), (4, _), (7, _), (8, _), (10, _), (11, _), (14, _), (17, _), (18, _), (98, _)] ⟨rfl, rfl, rfl, rfl, rfl, rfl, rfl, rfl, rfl, rfl, rfl, trivial⟩ ?_
              rcases brk H with ⟨hc, H⟩ | ⟨hc, H⟩
              · refine HQ.condT rfl hc ?_
                clear hc
                refine HQ.rseq ?_
                refine HQ.pu Pu.assign ⟨rfl, trivial⟩ rfl rfl rfl ?_
                refine HQ.done ?_
                refine HQ.keep [(1, _), (2, _), (4, _), (7, _), (8, _), (10, _), (11, _), (14, _), (17, _), (18, _)] ⟨rfl, rfl, rfl, rfl, rfl, rfl, rfl, rfl, rfl, rfl, trivial⟩ ?_
                refine HQ.ret ?_
                refine HQ.thenR ?_
                obtain rfl := Option.some.inj H
                exact HQ.fin (vs := [_]) Try.results13 () ⟨rfl, trivial⟩ rfl [] trivial rfl
              · refine HQ.condF rfl hc ?_
                clear hc
                refine HQ.skipThen ?_
                refine HQ.seq ?_
                refine HQ.rseq ?_
                refine HQ.pu Pu.move ⟨rfl, trivial⟩ rfl rfl rfl ?_
                refine HQ.pu Pu.move ⟨rfl, trivial⟩ rfl rfl rfl ?_
                refine HQ.pu Pu.neq ⟨rfl, rfl, trivial⟩ rfl rfl rfl ?_
                refine HQ.done ?_
                refine HQ.keep [(1, _), (2, _), (4, _), (7, _), (8, _), (10, _), (11, _), (14, _), (17, _), (101, _)] ⟨rfl, rfl, rfl, rfl, rfl, rfl, rfl, rfl, rfl, rfl, trivial⟩ ?_
                rcases brk H with ⟨hc, H⟩ | ⟨hc, H⟩
                · refine HQ.condT rfl hc ?_
                  clear hc
                  refine HQ.rseq ?_
                  refine HQ.pu Pu.assign ⟨rfl, trivial⟩ rfl rfl rfl ?_
                  refine HQ.done ?_
                  refine HQ.keep [(1, _), (2, _), (4, _), (7, _), (8, _), (10, _), (11, _), (14, _), (17, _)] ⟨rfl, rfl, rfl, rfl, rfl, rfl, rfl, rfl, rfl, trivial⟩ ?_
                  refine HQ.ret ?_
                  refine HQ.thenR ?_
                  obtain rfl := Option.some.inj H
                  exact HQ.fin (vs := [_]) Try.results13 () ⟨rfl, trivial⟩ rfl [] trivial rfl
                · refine HQ.condF rfl hc ?_
                  clear hc
                  refine HQ.skipThen ?_
                  refine HQ.seq ?_
                  refine HQ.dStart mixd ?_
                  obtain ⟨t83, h84, H⟩ := bnd H
                  obtain ⟨t89, h90, H⟩ := bnd H
                  obtain ⟨t93, h94, H⟩ := bnd H
                  refine HQ.dPart [(1, .int .i64 p1), (2, .int .i64 p2), (4, BP b1 0), (7, BP b2 0), (8, .bool false), (10, BP g7.2.2.2 0), (11, .int .i64 t18.2), (14, BP b43 0), (17, .int .i64 t76.1)] 12 [⟨[0], [0], []⟩, ⟨[], [1, 2], [0]⟩, ⟨[], [], []⟩, ⟨[], [], []⟩, ⟨[3], [3], []⟩, ⟨[], [4], [4]⟩, ⟨[1, 2, 4], [5, 6, 1, 2, 4], [1, 2, 3, 5]⟩, ⟨[], [], [6]⟩, ⟨[], [], [7]⟩, ⟨[], [], [7]⟩, ⟨[], [7], []⟩, ⟨[7], [8], [8, 10]⟩] [⟨none, none⟩, ⟨some 1, none⟩, ⟨some 1, none⟩, ⟨none, none⟩, ⟨some 5, none⟩, ⟨some 6, none⟩, ⟨some 6, none⟩, ⟨some 10, some 11⟩, ⟨some 11, none⟩] (fun (g82 : ((Option Addr × Nat) × (Option Addr × Nat)) × (Option Addr × Nat) × ((Option Addr × Nat) × (Option Addr × Nat)) × Nat) => [.agg #[.slice a_0 (List.length p0.Cells) c_0, .slice a_1 (List.length p0.Wet) c_1, .int .i64 p0.Fuse, .bool p0.Dead], .agg #[.slice g82.1.1.1 (List.length t83.Cells) g82.1.1.2, .slice g82.1.2.1 (List.length t83.Wet) g82.1.2.2, .int .i64 t83.Fuse, .bool t83.Dead], .int .i64 p1, .int .i64 p2, .agg #[.int .i64 p3.Seq, .int .i64 p3.Root, .int .i64 p3.Size, .slice a_2 (List.length p3.Puts) c_2], .agg #[.int .i64 t89.Seq, .int .i64 t89.Root, .int .i64 t89.Size, .slice g82.2.1.1 (List.length t89.Puts) g82.2.1.2], .tuple #[.agg #[.slice g82.2.2.1.1.1 (List.length t93.1.Cells) g82.2.2.1.1.2, .slice g82.2.2.1.2.1 (List.length t93.1.Wet) g82.2.2.1.2.2, .int .i64 t93.1.Fuse, .bool t93.1.Dead], .int .i64 t93.2], .tuple #[.agg #[.slice g82.2.2.1.1.1 (List.length t93.1.Cells) g82.2.2.1.1.2, .slice g82.2.2.1.2.1 (List.length t93.1.Wet) g82.2.2.1.2.2, .int .i64 t93.1.Fuse, .bool t93.1.Dead], .int .i64 t93.2], .agg #[.slice g82.2.2.1.1.1 (List.length t93.1.Cells) g82.2.2.1.1.2, .slice g82.2.2.1.2.1 (List.length t93.1.Wet) g82.2.2.1.2.2, .int .i64 t93.1.Fuse, .bool t93.1.Dead], .int .i64 t93.2, BP g82.2.2.2 0, undef]) (fun (g82 : ((Option Addr × Nat) × (Option Addr × Nat)) × (Option Addr × Nat) × ((Option Addr × Nat) × (Option Addr × Nat)) × Nat) => [Box b1 [.slice a_0 (List.length p0.Cells) c_0, .slice a_1 (List.length p0.Wet) c_1, .int .i64 p0.Fuse, .bool p0.Dead], OwnS kTCell g82.1.1.1 g82.1.1.2 t83.Cells, OwnS kTWet g82.1.2.1 g82.1.2.2 t83.Wet, Box b2 [.int .i64 p3.Seq, .int .i64 p3.Root, .int .i64 p3.Size, .slice a_2 (List.length p3.Puts) c_2], OwnS kTChange g82.2.1.1 g82.2.1.2 t89.Puts, OwnS kTCell g82.2.2.1.1.1 g82.2.2.1.1.2 t93.1.Cells, OwnS kTWet g82.2.2.1.2.1 g82.2.2.1.2.2 t93.1.Wet, Box g82.2.2.2 [.slice none 0 0, .slice none 0 0, .int .i64 0, .bool false], Box g82.2.2.2 [.slice g82.2.2.1.1.1 (List.length t93.1.Cells) g82.2.2.1.1.2, .slice g82.2.2.1.2.1 (List.length t93.1.Wet) g82.2.2.1.2.2, .int .i64 t93.1.Fuse, .bool t93.1.Dead]]) (((none, 0), (none, 0)), (none, 0), ((none, 0), (none, 0)), 0) [1, 2] [1, 20, 21, 2, 22, 23, 24, 25] [] ⟨rfl, rfl, rfl, rfl, rfl, rfl, rfl, rfl, rfl, trivial⟩ ⟨rfl, rfl, trivial⟩ rfl (by kernel_rfl) (by kernel_rfl) (fun _ => rfl) (by kernel_rfl) (fun _ => rfl) rfl ⟨?_, ?_, ?_, ?_, ?_, ?_, ?_, ?_, ?_, ?_, ?_, ?_, trivial⟩ fun g82 => ?_
                  · exact OpOK2.of (fun g82 => [(.tmp 4, BP b1 0)]) _ _ (fun g82 _ => g82) rfl rfl (fun _ => ⟨rfl, trivial⟩) (fun g82 => OT.loadBA (vs := [.slice a_0 (List.length p0.Cells) c_0, .slice a_1 (List.length p0.Wet) c_1, .int .i64 p0.Fuse, .bool p0.Dead]) ag36 sz36 rfl rfl) (fun _ _ => ⟨rfl, rfl, ⟨rfl, rfl, rfl, rfl, rfl, rfl, rfl, rfl, rfl, trivial⟩⟩)
                  · exact OpOK2.of (fun g82 => [(.func 26, .func (.func 26) #[] #[]), (.tmp 103, .agg #[.slice a_0 (List.length p0.Cells) c_0, .slice a_1 (List.length p0.Wet) c_1, .int .i64 p0.Fuse, .bool p0.Dead])]) _ _ (fun g82 x => (x, g82.2.1, g82.2.2.1, g82.2.2.2)) rfl rfl (fun _ => ⟨rfl, rfl, trivial⟩) (fun g82 => OT.call (us := [_]) (Pre := []) [.tmp 103] Try.call26 rfl rfl fun w F hs hF hp => laws_toDisk_c (hb_0.pass hp) (hb_1.pass hp) h84) (fun _ _ => ⟨rfl, rfl, ⟨rfl, rfl, rfl, rfl, rfl, rfl, rfl, rfl, rfl, trivial⟩⟩)
                  · exact OpOK2.of (fun g82 => [(.tmp 1, .int .i64 p1)]) _ _ (fun g82 _ => g82) rfl rfl (fun _ => ⟨rfl, trivial⟩) (fun g82 => Pu.toOT Pu.move) (fun _ _ => ⟨rfl, rfl, ⟨rfl, rfl, rfl, rfl, rfl, rfl, rfl, rfl, rfl, trivial⟩⟩)
                  · exact OpOK2.of (fun g82 => [(.tmp 2, .int .i64 p2)]) _ _ (fun g82 _ => g82) rfl rfl (fun _ => ⟨rfl, trivial⟩) (fun g82 => Pu.toOT Pu.move) (fun _ _ => ⟨rfl, rfl, ⟨rfl, rfl, rfl, rfl, rfl, rfl, rfl, rfl, rfl, trivial⟩⟩)
                  · exact OpOK2.of (fun g82 => [(.tmp 7, BP b2 0)]) _ _ (fun g82 _ => g82) rfl rfl (fun _ => ⟨rfl, trivial⟩) (fun g82 => OT.loadBA (vs := [.int .i64 p3.Seq, .int .i64 p3.Root, .int .i64 p3.Size, .slice a_2 (List.length p3.Puts) c_2]) ag55 sz55 rfl rfl) (fun _ _ => ⟨rfl, rfl, ⟨rfl, rfl, rfl, rfl, rfl, rfl, rfl, rfl, rfl, trivial⟩⟩)
                  · exact OpOK2.of (fun g82 => [(.func 38, .func (.func 38) #[] #[]), (.tmp 107, .agg #[.int .i64 p3.Seq, .int .i64 p3.Root, .int .i64 p3.Size, .slice a_2 (List.length p3.Puts) c_2])]) _ _ (fun g82 x => (g82.1, x, g82.2.2.1, g82.2.2.2)) rfl rfl (fun _ => ⟨rfl, rfl, trivial⟩) (fun g82 => OT.call (us := [_]) (Pre := []) [.tmp 107] Try.call38 rfl rfl fun w F hs hF hp => laws_toTx_c (hb_2.pass hp) h90) (fun _ _ => ⟨rfl, rfl, ⟨rfl, rfl, rfl, rfl, rfl, rfl, rfl, rfl, rfl, trivial⟩⟩)
                  · exact OpOK2.ofD [7, 8, 11] (by kernel_rfl) (fun g82 => [(.func 74, .func (.func 74) #[] #[]), (.tmp 104, .agg #[.slice g82.1.1.1 (List.length t83.Cells) g82.1.1.2, .slice g82.1.2.1 (List.length t83.Wet) g82.1.2.2, .int .i64 t83.Fuse, .bool t83.Dead]), (.tmp 105, .int .i64 p1), (.tmp 106, .int .i64 p2), (.tmp 108, .agg #[.int .i64 t89.Seq, .int .i64 t89.Root, .int .i64 t89.Size, .slice g82.2.1.1 (List.length t89.Puts) g82.2.1.2])]) _ _ (fun g82 x => (g82.1, g82.2.1, x, g82.2.2.2)) rfl rfl (fun _ => ⟨rfl, rfl, rfl, rfl, rfl, trivial⟩) (fun g82 => OT.call (us := [_, _, _, _]) (Pre := [OwnS kTCell g82.1.1.1 g82.1.1.2 t83.Cells, OwnS kTWet g82.1.2.1 g82.1.2.2 t83.Wet, OwnS kTChange g82.2.1.1 g82.2.1.2 t89.Puts]) [.tmp 104, .tmp 105, .tmp 106, .tmp 108] Try.call74 rfl rfl fun w F hs hF hp => impl_Append_c (hs.lend hF 0 rfl) (hs.lend hF 1 rfl) (hs.lend hF 2 rfl) h94) (fun _ _ => ⟨⟨rfl, rfl, rfl, rfl, rfl, rfl, rfl, trivial, trivial, rfl, rfl, trivial, trivial⟩, rfl, ⟨rfl, rfl, rfl, rfl, rfl, rfl, rfl, rfl, rfl, trivial⟩⟩)
                  · exact OpOK2.of (fun g82 => [(.tmp 109, .tuple #[.agg #[.slice g82.2.2.1.1.1 (List.length t93.1.Cells) g82.2.2.1.1.2, .slice g82.2.2.1.2.1 (List.length t93.1.Wet) g82.2.2.1.2.2, .int .i64 t93.1.Fuse, .bool t93.1.Dead], .int .i64 t93.2])]) _ _ (fun g82 _ => g82) rfl rfl (fun _ => ⟨rfl, trivial⟩) (fun g82 => Pu.toOT Pu.move) (fun _ _ => ⟨rfl, rfl, ⟨rfl, rfl, rfl, rfl, rfl, rfl, rfl, rfl, rfl, trivial⟩⟩)
                  · exact OpOK2.of (fun g82 => [(.tmp 102, .tuple #[.agg #[.slice g82.2.2.1.1.1 (List.length t93.1.Cells) g82.2.2.1.1.2, .slice g82.2.2.1.2.1 (List.length t93.1.Wet) g82.2.2.1.2.2, .int .i64 t93.1.Fuse, .bool t93.1.Dead], .int .i64 t93.2])]) _ _ (fun g82 _ => g82) rfl rfl (fun _ => ⟨rfl, trivial⟩) (fun g82 => Pu.toOT (Pu.extract rfl)) (fun _ _ => ⟨rfl, rfl, ⟨rfl, rfl, rfl, rfl, rfl, rfl, rfl, rfl, rfl, trivial⟩⟩)
                  · exact OpOK2.of (fun g82 => [(.tmp 102, .tuple #[.agg #[.slice g82.2.2.1.1.1 (List.length t93.1.Cells) g82.2.2.1.1.2, .slice g82.2.2.1.2.1 (List.length t93.1.Wet) g82.2.2.1.2.2, .int .i64 t93.1.Fuse, .bool t93.1.Dead], .int .i64 t93.2])]) _ _ (fun g82 _ => g82) rfl rfl (fun _ => ⟨rfl, trivial⟩) (fun g82 => Pu.toOT (Pu.extract rfl)) (fun _ _ => ⟨rfl, rfl, ⟨rfl, rfl, rfl, rfl, rfl, rfl, rfl, rfl, rfl, trivial⟩⟩)
                  · exact OpOK2.ofD [11] (by kernel_rfl) (fun g82 => []) _ _ (fun g82 x => (g82.1, g82.2.1, g82.2.2.1, x)) rfl rfl (fun _ => trivial) (fun g82 => OT.alloc zc42) (fun _ _ => ⟨⟨rfl, rfl, rfl, rfl, rfl, rfl, rfl, rfl, rfl, rfl, rfl, trivial, trivial⟩, rfl, ⟨rfl, rfl, rfl, rfl, rfl, rfl, rfl, rfl, rfl, trivial⟩⟩)
                  · exact OpOK2.of (fun g82 => [(.tmp 19, BP g82.2.2.2 0), (.tmp 110, .agg #[.slice g82.2.2.1.1.1 (List.length t93.1.Cells) g82.2.2.1.1.2, .slice g82.2.2.1.2.1 (List.length t93.1.Wet) g82.2.2.1.2.2, .int .i64 t93.1.Fuse, .bool t93.1.Dead])]) _ _ (fun g82 _ => g82) rfl rfl (fun _ => ⟨rfl, rfl, trivial⟩) (fun g82 => OT.storeC (cs' := [.slice g82.2.2.1.1.1 (List.length t93.1.Cells) g82.2.2.1.1.2, .slice g82.2.2.1.2.1 (List.length t93.1.Wet) g82.2.2.1.2.2, .int .i64 t93.1.Fuse, .bool t93.1.Dead]) sz42 rfl rfl rfl rfl rfl) (fun _ _ => ⟨rfl, rfl, ⟨rfl, rfl, rfl, rfl, rfl, rfl, rfl, rfl, rfl, trivial⟩⟩)
                  refine HQ.keep [(8, _), (10, _), (11, _), (14, _), (17, _), (111, _), (19, _)] ⟨rfl, rfl, rfl, rfl, rfl, rfl, rfl, trivial⟩ ?_
                  refine HQ.keepR [(1, _), (2, _), (3, _), (4, _), (5, _), (6, _), (7, _), (8, _), (9, _), (10, _), (11, _), (12, _), (13, _), (14, _), (15, _), (16, _), (17, _), (18, _), (19, _), (20, _), (21, _), (22, _), (23, _), (24, _), (25, _)] ⟨rfl, rfl, rfl, rfl, rfl, rfl, rfl, rfl, rfl, rfl, rfl, rfl, rfl, rfl, rfl, rfl, rfl, rfl, rfl, rfl, rfl, rfl, rfl, rfl, rfl, trivial⟩ rfl ?_
                  refine HQ.dRun 1 rfl rfl (by kernel_rfl) (by kernel_rfl) ?_
                  refine HQ.pu Pu.assign ⟨rfl, trivial⟩ rfl rfl rfl ?_
                  refine HQ.done ?_
                  refine HQ.dEnd rfl ?_
                  refine HQ.thenN ?_
                  refine HQ.keep [(8, _), (10, _), (11, _), (14, _), (17, _), (19, _), (20, _)] ⟨rfl, rfl, rfl, rfl, rfl, rfl, rfl, trivial⟩ ?_
                  refine HQ.seq ?_
                  refine HQ.rseq ?_
                  refine HQ.op [25] [25] (OT.loadBA (vs := [.slice g82.2.2.1.1.1 (List.length t93.1.Cells) g82.2.2.1.1.2, .slice g82.2.2.1.2.1 (List.length t93.1.Wet) g82.2.2.1.2.2, .int .i64 t93.1.Fuse, .bool t93.1.Dead]) ag42 sz42 rfl rfl) ⟨rfl, trivial⟩ ⟨rfl, trivial⟩ rfl rfl rfl rfl (fun _ => rfl) fun _ => ?_
                  refine HQ.op [8] [8] (OT.loadBA (vs := [.slice g7.2.2.1.1.1 (List.length t18.1.Cells) g7.2.2.1.1.2, .slice g7.2.2.1.2.1 (List.length t18.1.Wet) g7.2.2.1.2.2, .int .i64 t18.1.Fuse, .bool t18.1.Dead]) ag42 sz42 rfl rfl) ⟨rfl, trivial⟩ ⟨rfl, trivial⟩ rfl rfl rfl rfl (fun _ => rfl) fun _ => ?_
                  obtain ⟨t100, h101, H⟩ := bnd H
                  refine HQ.op [23, 24, 6, 7] [23, 24, 6, 7] (OT.call (us := [_, _]) (Pre := [OwnS kTCell g82.2.2.1.1.1 g82.2.2.1.1.2 t93.1.Cells, OwnS kTWet g82.2.2.1.2.1 g82.2.2.1.2.2 t93.1.Wet, OwnS kTCell g7.2.2.1.1.1 g7.2.2.1.1.2 t18.1.Cells, OwnS kTWet g7.2.2.1.2.1 g7.2.2.1.2.2 t18.1.Wet]) [.tmp 112, .tmp 113] Try.call29 rfl rfl fun w F hs hF hp => laws_eqDisk_c (hs.lend hF 0 rfl) (hs.lend hF 1 rfl) (hs.lend hF 2 rfl) (hs.lend hF 3 rfl) h101) ⟨rfl, rfl, rfl, trivial⟩ ⟨rfl, rfl, rfl, rfl, trivial⟩ rfl rfl rfl rfl (fun _ => rfl) fun _ => ?_
                  refine HQ.pu Pu.not ⟨rfl, trivial⟩ rfl rfl rfl ?_
                  refine HQ.pu Pu.move ⟨rfl, trivial⟩ rfl rfl rfl ?_
                  refine HQ.cutAt 4 [(120, .bool ((!t100) || (!decide (t93.2 = t18.2)))), (8, .bool false), (14, BP b43 0), (17, .int .i64 t76.1)] [(1, Box b1 [.slice a_0 (List.length p0.Cells) c_0, .slice a_1 (List.length p0.Wet) c_1, .int .i64 p0.Fuse, .bool p0.Dead]), (2, Box b2 [.int .i64 p3.Seq, .int .i64 p3.Root, .int .i64 p3.Size, .slice a_2 (List.length p3.Puts) c_2]), (3, OwnS kTCell g7.1.1.1 g7.1.1.2 t8.Cells), (4, OwnS kTWet g7.1.2.1 g7.1.2.2 t8.Wet), (5, OwnS kTChange g7.2.1.1 g7.2.1.2 t14.Puts), (6, OwnS kTCell g7.2.2.1.1.1 g7.2.2.1.1.2 t18.1.Cells), (7, OwnS kTWet g7.2.2.1.2.1 g7.2.2.1.2.2 t18.1.Wet), (8, Box g7.2.2.2 [.slice g7.2.2.1.1.1 (List.length t18.1.Cells) g7.2.2.1.1.2, .slice g7.2.2.1.2.1 (List.length t18.1.Wet) g7.2.2.1.2.2, .int .i64 t18.1.Fuse, .bool t18.1.Dead]), (9, OwnS kTCell a27 c28 t63.2.1), (10, OwnS kTWet a29 c30 t63.2.2), (11, Box b31 [.slice a27 (List.length t63.2.1) c28, .slice a29 (List.length t63.2.2) c30, .int .i64 t25.Fuse, .bool t25.Dead]), (12, OwnS kTChange a34 c35 t67.2), (13, Box b36 [.int .i64 t32.Seq, .int .i64 t32.Root, .int .i64 t32.Size, .slice a34 (List.length t67.2) c35]), (14, OwnS kTCell a39 c40 t76.2.1), (15, OwnS kTWet a41 c42 t76.2.2), (16, Box b43 [.slice a39 (List.length t76.2.1) c40, .slice a41 (List.length t76.2.2) c42, .int .i64 t37.1.Fuse, .bool t37.1.Dead]), (17, OwnS kTCell g47.1.1 g47.1.2 t48.Cells), (18, OwnS kTWet g47.2.1 g47.2.2 t48.Wet), (19, OwnS kTChange g56.1 g56.2 t57.Puts), (20, OwnS kTCell g82.1.1.1 g82.1.1.2 t83.Cells), (21, OwnS kTWet g82.1.2.1 g82.1.2.2 t83.Wet), (22, OwnS kTChange g82.2.1.1 g82.2.1.2 t89.Puts), (23, OwnS kTCell g82.2.2.1.1.1 g82.2.2.1.1.2 t93.1.Cells), (24, OwnS kTWet g82.2.2.1.2.1 g82.2.2.1.2.2 t93.1.Wet), (25, Box g82.2.2.2 [.slice g82.2.2.1.1.1 (List.length t93.1.Cells) g82.2.2.1.1.2, .slice g82.2.2.1.2.1 (List.length t93.1.Wet) g82.2.2.1.2.2, .int .i64 t93.1.Fuse, .bool t93.1.Dead])] ?_ ?_
                  · rcases Bool.eq_false_or_eq_true (!t100) with hg102 | hg102
                    · refine HQ.off rfl rfl hg102 rfl ?_
                      refine HQ.off rfl rfl hg102 rfl ?_
                      refine HQ.off rfl rfl hg102 rfl ?_
                      refine HQ.pu (Pu.pickOT (u := (!decide (t93.2 = t18.2))) hg102) ⟨rfl, rfl, trivial⟩ rfl rfl rfl ?_
                      exact HQ.mid ⟨rfl, rfl, rfl, rfl, trivial⟩ ⟨rfl, rfl, rfl, rfl, rfl, rfl, rfl, rfl, rfl, rfl, rfl, rfl, rfl, rfl, rfl, rfl, rfl, rfl, rfl, rfl, rfl, rfl, rfl, rfl, rfl, trivial⟩ rfl
                    · refine HQ.on rfl rfl hg102 ?_
                      refine HQ.pu Pu.move ⟨rfl, trivial⟩ rfl rfl rfl ?_
                      refine HQ.on rfl rfl hg102 ?_
                      refine HQ.pu Pu.move ⟨rfl, trivial⟩ rfl rfl rfl ?_
                      refine HQ.on rfl rfl hg102 ?_
                      refine HQ.pu Pu.neq ⟨rfl, rfl, trivial⟩ rfl rfl rfl ?_
                      refine HQ.pu (Pu.pickOF hg102) ⟨rfl, rfl, trivial⟩ rfl rfl rfl ?_
                      exact HQ.mid ⟨rfl, rfl, rfl, rfl, trivial⟩ ⟨rfl, rfl, rfl, rfl, rfl, rfl, rfl, rfl, rfl, rfl, rfl, rfl, rfl, rfl, rfl, rfl, rfl, rfl, rfl, rfl, rfl, rfl, rfl, rfl, rfl, trivial⟩ rfl
                  refine HQ.done ?_
                  refine HQ.keep [(120, _), (8, _), (14, _), (17, _)] ⟨rfl, rfl, rfl, rfl, trivial⟩ ?_
                  rcases brk H with ⟨hc, H⟩ | ⟨hc, H⟩
                  · refine HQ.condT rfl hc ?_
                    clear hc
                    refine HQ.rseq ?_
                    refine HQ.pu Pu.assign ⟨rfl, trivial⟩ rfl rfl rfl ?_
                    refine HQ.done ?_
                    refine HQ.keep [(8, _), (14, _), (17, _)] ⟨rfl, rfl, rfl, trivial⟩ ?_
                    refine HQ.ret ?_
                    refine HQ.thenR ?_
                    obtain rfl := Option.some.inj H
                    exact HQ.fin (vs := [_]) Try.results13 () ⟨rfl, trivial⟩ rfl [] trivial rfl
                  · refine HQ.condF rfl hc ?_
                    clear hc
                    refine HQ.skipThen ?_
                    refine HQ.rseq ?_
                    refine HQ.pu Pu.assign ⟨rfl, trivial⟩ rfl rfl rfl ?_
                    refine HQ.done ?_
                    refine HQ.keep [(8, _), (14, _), (17, _), (18, _)] ⟨rfl, rfl, rfl, rfl, trivial⟩ ?_
                    refine HQ.rseq ?_
                    refine HQ.op [16] [16] (OT.loadBA (vs := [.slice a39 (List.length t76.2.1) c40, .slice a41 (List.length t76.2.2) c42, .int .i64 t37.1.Fuse, .bool t37.1.Dead]) ag42 sz42 rfl rfl) ⟨rfl, trivial⟩ ⟨rfl, trivial⟩ rfl rfl rfl rfl (fun _ => rfl) fun _ => ?_
                    refine HQ.pu Pu.move ⟨rfl, trivial⟩ rfl rfl rfl ?_
                    obtain ⟨t103, h104, H⟩ := bnd H
                    refine HQ.op [14, 15] [14, 15] (OT.call (us := [_, _]) (Pre := [OwnS kTCell a39 c40 t76.2.1, OwnS kTWet a41 c42 t76.2.2]) [.tmp 121, .tmp 122] Try.call33 rfl rfl fun w F hs hF hp => laws_heldDisk_c (hs.lend hF 0 rfl) (hs.lend hF 1 rfl) h104) ⟨rfl, rfl, rfl, trivial⟩ ⟨rfl, rfl, trivial⟩ rfl rfl rfl rfl (fun _ => rfl) fun _ => ?_
                    refine HQ.pu Pu.assign ⟨rfl, trivial⟩ rfl rfl rfl ?_
                    refine HQ.done ?_
                    refine HQ.keep [(8, _), (17, _), (18, _)] ⟨rfl, rfl, rfl, trivial⟩ ?_
                    refine HQ.seq ?_
                    refine HQ.rseq ?_
                    refine HQ.pu Pu.move ⟨rfl, trivial⟩ rfl rfl rfl ?_
                    refine HQ.pu Pu.lss ⟨rfl, rfl, trivial⟩ rfl rfl rfl ?_
                    refine HQ.done ?_
                    refine HQ.keep [(8, _), (17, _), (18, _), (125, _)] ⟨rfl, rfl, rfl, rfl, trivial⟩ ?_
                    rcases brk H with ⟨hc, H⟩ | ⟨hc, H⟩
                    · refine HQ.condT rfl hc ?_
                      clear hc
                      refine HQ.rseq ?_
                      refine HQ.pu Pu.assign ⟨rfl, trivial⟩ rfl rfl rfl ?_
                      refine HQ.done ?_
                      refine HQ.keep [(8, _), (17, _), (18, _)] ⟨rfl, rfl, rfl, trivial⟩ ?_
                      refine HQ.ret ?_
                      refine HQ.thenR ?_
                      obtain rfl := Option.some.inj H
                      exact HQ.fin (vs := [_]) Try.results13 () ⟨rfl, trivial⟩ rfl [] trivial rfl
                    · refine HQ.condF rfl hc ?_
                      clear hc
                      refine HQ.skipThen ?_
                      refine HQ.seq ?_
                      refine HQ.rseq ?_
                      refine HQ.pu Pu.move ⟨rfl, trivial⟩ rfl rfl rfl ?_
                      refine HQ.pu Pu.move ⟨rfl, trivial⟩ rfl rfl rfl ?_
                      refine HQ.pu Pu.neq ⟨rfl, rfl, trivial⟩ rfl rfl rfl ?_
                      refine HQ.done ?_
                      refine HQ.keep [(8, _), (128, _)] ⟨rfl, rfl, trivial⟩ ?_
                      rcases brk H with ⟨hc, H⟩ | ⟨hc, H⟩
                      · refine HQ.condT rfl hc ?_
                        clear hc
                        refine HQ.rseq ?_
                        refine HQ.pu Pu.assign ⟨rfl, trivial⟩ rfl rfl rfl ?_
                        refine HQ.done ?_
                        refine HQ.keep [(8, _)] ⟨rfl, trivial⟩ ?_
                        refine HQ.ret ?_
                        refine HQ.thenR ?_
                        obtain rfl := Option.some.inj H
                        exact HQ.fin (vs := [_]) Try.results13 () ⟨rfl, trivial⟩ rfl [] trivial rfl
                      · refine HQ.condF rfl hc ?_
                        clear hc
                        refine HQ.skipThen ?_
                        refine HQ.rseq ?_
                        refine HQ.pu Pu.assign ⟨rfl, trivial⟩ rfl rfl rfl ?_
                        refine HQ.done ?_
                        refine HQ.keep [(8, _)] ⟨rfl, trivial⟩ ?_
                        refine HQ.ret ?_
                        obtain rfl := Option.some.inj H
                        exact HQ.fin (vs := [_]) Try.results13 () ⟨rfl, trivial⟩ rfl [] trivial rfl

end Go.Proofs.Sx
