import Derived.Test.YtgfhnepkpbmbcaaCF13
import Derived.KernelRfl
namespace Go.Proofs.Sx
open Go.RowKit
set_option linter.unusedVariables false
set_option linter.unusedSimpArgs false
set_option maxRecDepth 20000
set_option maxHeartbeats 1000000
/-! laws.FnExactReadLog -/
theorem laws_FnExactReadLog_c {w : World} {k : Nat} {p0 : TDisk} {p1 : Int} {p2 : Int} {a_0 : Option Addr} {c_0 : Nat} {a_1 : Option Addr} {c_1 : Nat} (hb_0 : BorS kTCell a_0 c_0 p0.Cells w.heap (Lt w Nil)) (hb_1 : BorS kTWet a_1 c_1 p0.Wet w.heap (Lt w Nil)) {r : Bool} (H : laws_FnExactReadLog k p0 p1 p2 = some r) :
    Calls Try.prog 14 #[.agg #[.slice a_0 (List.length p0.Cells) c_0, .slice a_1 (List.length p0.Wet) c_1, .int .i64 p0.Fuse, .bool p0.Dead], .int .i64 p1, .int .i64 p2] w (Rt w Nil (fun _ : Unit => .bool r) (fun _ => [])) := by
  rw [laws_FnExactReadLog] at H
  refine Calls.enter0 (N := 106) (us := [_, _, _]) Try.func14 rfl rfl rfl ?_
  refine HQ.rseq ?_
  refine HQ.op [] [1] (OT.box (cs := [.slice a_0 (List.length p0.Cells) c_0, .slice a_1 (List.length p0.Wet) c_1, .int .i64 p0.Fuse, .bool p0.Dead]) rfl) ⟨rfl, trivial⟩ trivial rfl rfl rfl rfl (fun _ => rfl) fun b1 => ?_
  refine HQ.pu Pu.assign ⟨rfl, trivial⟩ rfl rfl rfl ?_
  refine HQ.done ?_
  refine HQ.keep [(1, _), (2, _), (3, _), (6, _)] ⟨rfl, rfl, rfl, rfl, trivial⟩ ?_
  refine HQ.rseq ?_
  refine HQ.pu Pu.assign ⟨rfl, trivial⟩ rfl rfl rfl ?_
  refine HQ.done ?_
  refine HQ.keep [(1, _), (2, _), (3, _), (6, _), (7, _)] ⟨rfl, rfl, rfl, rfl, rfl, trivial⟩ ?_
  refine HQ.rseq ?_
  refine HQ.op [1] [1] (OT.loadBA (vs := [.slice a_0 (List.length p0.Cells) c_0, .slice a_1 (List.length p0.Wet) c_1, .int .i64 p0.Fuse, .bool p0.Dead]) ag36 sz36 rfl rfl) ⟨rfl, trivial⟩ ⟨rfl, trivial⟩ rfl rfl rfl rfl (fun _ => rfl) fun _ => ?_
  refine HQ.pu Pu.move ⟨rfl, trivial⟩ rfl rfl rfl ?_
  obtain ⟨t2, h3, H⟩ := bnd H
  refine HQ.op [] [] (OT.call (us := [_, _]) (Pre := []) [.tmp 18, .tmp 19] Try.call24 rfl rfl fun w F hs hF hp => laws_szDisk_c (hb_0.pass hp) (hb_1.pass hp) h3) ⟨rfl, rfl, rfl, trivial⟩ trivial rfl rfl rfl rfl (fun _ => rfl) fun _ => ?_
  refine HQ.pu Pu.assign ⟨rfl, trivial⟩ rfl rfl rfl ?_
  refine HQ.done ?_
  refine HQ.keep [(1, _), (2, _), (3, _), (6, _), (7, _)] ⟨rfl, rfl, rfl, rfl, rfl, trivial⟩ ?_
  refine HQ.seq ?_
  refine HQ.rseq ?_
  refine HQ.pu Pu.move ⟨rfl, trivial⟩ rfl rfl rfl ?_
  refine HQ.pu Pu.lss ⟨rfl, rfl, trivial⟩ rfl rfl rfl ?_
  refine HQ.done ?_
  refine HQ.keep [(1, _), (2, _), (3, _), (6, _), (22, _)] ⟨rfl, rfl, rfl, rfl, rfl, trivial⟩ ?_
  rcases brk H with ⟨hc, H⟩ | ⟨hc, H⟩
  · refine HQ.condT rfl hc ?_
    clear hc
    refine HQ.rseq ?_
    refine HQ.pu Pu.assign ⟨rfl, trivial⟩ rfl rfl rfl ?_
    refine HQ.done ?_
    refine HQ.keep [(1, _), (2, _), (3, _), (6, _)] ⟨rfl, rfl, rfl, rfl, trivial⟩ ?_
    refine HQ.ret ?_
    refine HQ.thenR ?_
    obtain rfl := Option.some.inj H
    exact HQ.fin (vs := [_]) Try.results14 () ⟨rfl, trivial⟩ rfl [] trivial rfl
  · refine HQ.condF rfl hc ?_
    clear hc
    refine HQ.skipThen ?_
    refine HQ.rseq ?_
    refine HQ.op [1] [1] (OT.loadBA (vs := [.slice a_0 (List.length p0.Cells) c_0, .slice a_1 (List.length p0.Wet) c_1, .int .i64 p0.Fuse, .bool p0.Dead]) ag36 sz36 rfl rfl) ⟨rfl, trivial⟩ ⟨rfl, trivial⟩ rfl rfl rfl rfl (fun _ => rfl) fun _ => ?_
    obtain ⟨t4, h5, H⟩ := bnd H
    refine HQ.op [] [2, 3] (OT.call (us := [_]) (Pre := []) [.tmp 24] Try.call26 rfl rfl fun w F hs hF hp => laws_toDisk_c (hb_0.pass hp) (hb_1.pass hp) h5) ⟨rfl, rfl, trivial⟩ trivial rfl rfl rfl rfl (fun _ => rfl) fun ⟨⟨a6, c7⟩, ⟨a8, c9⟩⟩ => ?_
    refine HQ.pu Pu.move ⟨rfl, trivial⟩ rfl rfl rfl ?_
    refine HQ.pu Pu.move ⟨rfl, trivial⟩ rfl rfl rfl ?_
    obtain ⟨t10, h11, H⟩ := bnd H
    refine HQ.op [2, 3] [4, 2, 3] (OT.call (us := [_, _, _]) (Pre := [OwnS kTCell a6 c7 t4.Cells, OwnS kTWet a8 c9 t4.Wet]) [.tmp 25, .tmp 26, .tmp 27] Try.call75 rfl rfl fun w F hs hF hp => spec_ReadLog_c (hs.lend hF 0 rfl) (hs.lend hF 1 rfl) h11) ⟨rfl, rfl, rfl, rfl, trivial⟩ ⟨rfl, rfl, trivial⟩ rfl rfl rfl rfl (fun _ => rfl) fun ⟨a12, c13⟩ => ?_
    refine HQ.pu Pu.move ⟨rfl, trivial⟩ rfl rfl rfl ?_
    refine HQ.pu (Pu.extract rfl) ⟨rfl, trivial⟩ rfl rfl rfl ?_
    refine HQ.pu (Pu.extract rfl) ⟨rfl, trivial⟩ rfl rfl rfl ?_
    refine HQ.pu Pu.assign ⟨rfl, trivial⟩ rfl rfl rfl ?_
    refine HQ.pu Pu.assign ⟨rfl, trivial⟩ rfl rfl rfl ?_
    refine HQ.done ?_
    refine HQ.keep [(1, _), (2, _), (3, _), (6, _), (8, _), (9, _)] ⟨rfl, rfl, rfl, rfl, rfl, rfl, trivial⟩ ?_
    refine HQ.rseq ?_
    refine HQ.op [1] [1] (OT.loadBA (vs := [.slice a_0 (List.length p0.Cells) c_0, .slice a_1 (List.length p0.Wet) c_1, .int .i64 p0.Fuse, .bool p0.Dead]) ag36 sz36 rfl rfl) ⟨rfl, trivial⟩ ⟨rfl, trivial⟩ rfl rfl rfl rfl (fun _ => rfl) fun _ => ?_
    obtain ⟨t14, h15, H⟩ := bnd H
    refine HQ.op [] [5, 6] (OT.call (us := [_]) (Pre := []) [.tmp 31] Try.call26 rfl rfl fun w F hs hF hp => laws_toDisk_c (hb_0.pass hp) (hb_1.pass hp) h15) ⟨rfl, rfl, trivial⟩ trivial rfl rfl rfl rfl (fun _ => rfl) fun ⟨⟨a16, c17⟩, ⟨a18, c19⟩⟩ => ?_
    refine HQ.op [] [7] (OT.alloc zc42) trivial trivial rfl rfl rfl rfl (fun _ => rfl) fun b20 => ?_
    refine HQ.opN [7] [7] [] (OT.storeC (cs' := [.slice a16 (List.length t14.Cells) c17, .slice a18 (List.length t14.Wet) c19, .int .i64 t14.Fuse, .bool t14.Dead]) sz42 rfl rfl rfl rfl rfl) ⟨rfl, rfl, trivial⟩ ⟨rfl, trivial⟩ rfl rfl rfl (fun _ => rfl) fun _ => ?_
    refine HQ.done ?_
    refine HQ.keep [(1, _), (2, _), (3, _), (6, _), (8, _), (9, _), (10, _)] ⟨rfl, rfl, rfl, rfl, rfl, rfl, rfl, trivial⟩ ?_
    refine HQ.rseq ?_
    refine HQ.op [7] [7] (OT.loadBA (vs := [.slice a16 (List.length t14.Cells) c17, .slice a18 (List.length t14.Wet) c19, .int .i64 t14.Fuse, .bool t14.Dead]) ag42 sz42 rfl rfl) ⟨rfl, trivial⟩ ⟨rfl, trivial⟩ rfl rfl rfl rfl (fun _ => rfl) fun _ => ?_
    refine HQ.pu Pu.move ⟨rfl, trivial⟩ rfl rfl rfl ?_
    refine HQ.pu Pu.move ⟨rfl, trivial⟩ rfl rfl rfl ?_
    obtain ⟨t21, h22, H⟩ := bnd H
    refine HQ.op [5, 6] [8, 5, 6] (OT.call (us := [_, _, _]) (Pre := [OwnS kTCell a16 c17 t14.Cells, OwnS kTWet a18 c19 t14.Wet]) [.tmp 34, .tmp 35, .tmp 36] Try.call76 rfl rfl fun w F hs hF hp => impl_ReadLog_c (hs.lend hF 0 rfl) (hs.lend hF 1 rfl) h22) ⟨rfl, rfl, rfl, rfl, trivial⟩ ⟨rfl, rfl, trivial⟩ rfl rfl rfl rfl (fun _ => rfl) fun ⟨a23, c24⟩ => ?_
    refine HQ.pu Pu.move ⟨rfl, trivial⟩ rfl rfl rfl ?_
    refine HQ.pu (Pu.extract rfl) ⟨rfl, trivial⟩ rfl rfl rfl ?_
    refine HQ.pu (Pu.extract rfl) ⟨rfl, trivial⟩ rfl rfl rfl ?_
    refine HQ.pu Pu.assign ⟨rfl, trivial⟩ rfl rfl rfl ?_
    refine HQ.pu Pu.assign ⟨rfl, trivial⟩ rfl rfl rfl ?_
    refine HQ.done ?_
    refine HQ.keep [(1, _), (2, _), (3, _), (6, _), (8, _), (9, _), (10, _), (11, _), (12, _)] ⟨rfl, rfl, rfl, rfl, rfl, rfl, rfl, rfl, rfl, trivial⟩ ?_
    refine HQ.seq ?_
    refine HQ.rseq ?_
    refine HQ.pu Pu.move ⟨rfl, trivial⟩ rfl rfl rfl ?_
    refine HQ.pu Pu.move ⟨rfl, trivial⟩ rfl rfl rfl ?_
    obtain ⟨t25, h26, H⟩ := bnd H
    refine HQ.op [8, 4] [8, 4] (OT.call (us := [_, _]) (Pre := [OwnS kTTx a23 c24 t21.1, OwnS kTTx a12 c13 t10.1]) [.tmp 40, .tmp 41] Try.call20 rfl rfl fun w F hs hF hp => laws_eqTxS_c (hs.lend hF 0 rfl) (hs.lend hF 1 rfl) h26) ⟨rfl, rfl, rfl, trivial⟩ ⟨rfl, rfl, trivial⟩ rfl rfl rfl rfl (fun _ => rfl) fun _ => ?_
    refine HQ.pu Pu.not ⟨rfl, trivial⟩ rfl rfl rfl ?_
    refine HQ.pu Pu.move ⟨rfl, trivial⟩ rfl rfl rfl ?_
    refine HQ.cutAt 4 [(48, .bool ((!t25) || (!decide (t21.2 = t10.2)))), (1, .int .i64 p1), (2, .int .i64 p2), (3, BP b1 0), (6, .bool false), (8, .slice a12 (List.length t10.1) c13), (9, .int .i64 t10.2), (10, BP b20 0), (11, .slice a23 (List.length t21.1) c24), (12, .int .i64 t21.2)] [(1, Box b1 [.slice a_0 (List.length p0.Cells) c_0, .slice a_1 (List.length p0.Wet) c_1, .int .i64 p0.Fuse, .bool p0.Dead]), (2, OwnS kTCell a6 c7 t4.Cells), (3, OwnS kTWet a8 c9 t4.Wet), (4, OwnS kTTx a12 c13 t10.1), (5, OwnS kTCell a16 c17 t14.Cells), (6, OwnS kTWet a18 c19 t14.Wet), (7, Box b20 [.slice a16 (List.length t14.Cells) c17, .slice a18 (List.length t14.Wet) c19, .int .i64 t14.Fuse, .bool t14.Dead]), (8, OwnS kTTx a23 c24 t21.1)] ?_ ?_
    · rcases Bool.eq_false_or_eq_true (!t25) with hg27 | hg27
      · refine HQ.off rfl rfl hg27 rfl ?_
        refine HQ.off rfl rfl hg27 rfl ?_
        refine HQ.off rfl rfl hg27 rfl ?_
        refine HQ.pu (Pu.pickOT (u := (!decide (t21.2 = t10.2))) hg27) ⟨rfl, rfl, trivial⟩ rfl rfl rfl ?_
        exact HQ.mid ⟨rfl, rfl, rfl, rfl, rfl, rfl, rfl, rfl, rfl, rfl, trivial⟩ ⟨rfl, rfl, rfl, rfl, rfl, rfl, rfl, rfl, trivial⟩ rfl
      · refine HQ.on rfl rfl hg27 ?_
        refine HQ.pu Pu.move ⟨rfl, trivial⟩ rfl rfl rfl ?_
        refine HQ.on rfl rfl hg27 ?_
        refine HQ.pu Pu.move ⟨rfl, trivial⟩ rfl rfl rfl ?_
        refine HQ.on rfl rfl hg27 ?_
        refine HQ.pu Pu.neq ⟨rfl, rfl, trivial⟩ rfl rfl rfl ?_
        refine HQ.pu (Pu.pickOF hg27) ⟨rfl, rfl, trivial⟩ rfl rfl rfl ?_
        exact HQ.mid ⟨rfl, rfl, rfl, rfl, rfl, rfl, rfl, rfl, rfl, rfl, trivial⟩ ⟨rfl, rfl, rfl, rfl, rfl, rfl, rfl, rfl, trivial⟩ rfl
    refine HQ.done ?_
    refine HQ.keep [(48, _), (1, _), (2, _), (3, _), (6, _), (8, _), (9, _), (10, _), (11, _), (12, _)] ⟨rfl, rfl, rfl, rfl, rfl, rfl, rfl, rfl, rfl, rfl, trivial⟩ ?_
    rcases brk H with ⟨hc, H⟩ | ⟨hc, H⟩
    · refine HQ.condT rfl hc ?_
      clear hc
      refine HQ.rseq ?_
      refine HQ.pu Pu.assign ⟨rfl, trivial⟩ rfl rfl rfl ?_
      refine HQ.done ?_
      refine HQ.keep [(1, _), (2, _), (3, _), (6, _), (8, _), (9, _), (10, _), (11, _), (12, _)] ⟨rfl, rfl, rfl, rfl, rfl, rfl, rfl, rfl, rfl, trivial⟩ ?_
      refine HQ.ret ?_
      refine HQ.thenR ?_
      obtain rfl := Option.some.inj H
      exact HQ.fin (vs := [_]) Try.results14 () ⟨rfl, trivial⟩ rfl [] trivial rfl
    · refine HQ.condF rfl hc ?_
      clear hc
      refine HQ.skipThen ?_
      refine HQ.seq ?_
      obtain ⟨t29, h30, H⟩ := bnd H
      refine HQ.drawS mixd [(1, .int .i64 p1), (2, .int .i64 p2), (3, BP b1 0), (6, .bool false), (8, .slice a12 (List.length t10.1) c13), (9, .int .i64 t10.2), (10, BP b20 0), (11, .slice a23 (List.length t21.1) c24), (12, .int .i64 t21.2)] 3 [⟨[0], [0], []⟩, ⟨[1], [1], []⟩, ⟨[], [2, 3], [1]⟩] [⟨none, none⟩, ⟨none, none⟩, ⟨some 2, none⟩, ⟨some 2, none⟩] (fun (g28 : ((Option Addr × Nat) × (Option Addr × Nat))) => [.agg #[.slice a16 (List.length t14.Cells) c17, .slice a18 (List.length t14.Wet) c19, .int .i64 t14.Fuse, .bool t14.Dead], .agg #[.slice a_0 (List.length p0.Cells) c_0, .slice a_1 (List.length p0.Wet) c_1, .int .i64 p0.Fuse, .bool p0.Dead], .agg #[.slice g28.1.1 (List.length t29.Cells) g28.1.2, .slice g28.2.1 (List.length t29.Wet) g28.2.2, .int .i64 t29.Fuse, .bool t29.Dead]]) (fun (g28 : ((Option Addr × Nat) × (Option Addr × Nat))) => [Box b20 [.slice a16 (List.length t14.Cells) c17, .slice a18 (List.length t14.Wet) c19, .int .i64 t14.Fuse, .bool t14.Dead], Box b1 [.slice a_0 (List.length p0.Cells) c_0, .slice a_1 (List.length p0.Wet) c_1, .int .i64 p0.Fuse, .bool p0.Dead], OwnS kTCell g28.1.1 g28.1.2 t29.Cells, OwnS kTWet g28.2.1 g28.2.2 t29.Wet]) ((none, 0), (none, 0)) [7, 1] [7, 1, 9, 10] [] ⟨rfl, rfl, rfl, rfl, rfl, rfl, rfl, rfl, rfl, trivial⟩ ⟨rfl, rfl, trivial⟩ rfl (by kernel_rfl) (fun _ => rfl) (by kernel_rfl) (fun _ => rfl) ⟨?_, ?_, ?_, trivial⟩ fun g28 => ?_
      · exact OpOK.of (fun g28 => [(.tmp 10, BP b20 0)]) _ _ (fun g28 _ => g28) rfl rfl (fun _ => ⟨rfl, trivial⟩) (fun g28 => OT.loadBA (vs := [.slice a16 (List.length t14.Cells) c17, .slice a18 (List.length t14.Wet) c19, .int .i64 t14.Fuse, .bool t14.Dead]) ag42 sz42 rfl rfl) (fun _ _ => ⟨rfl, rfl, ⟨rfl, rfl, rfl, rfl, trivial⟩⟩)
      · exact OpOK.of (fun g28 => [(.tmp 3, BP b1 0)]) _ _ (fun g28 _ => g28) rfl rfl (fun _ => ⟨rfl, trivial⟩) (fun g28 => OT.loadBA (vs := [.slice a_0 (List.length p0.Cells) c_0, .slice a_1 (List.length p0.Wet) c_1, .int .i64 p0.Fuse, .bool p0.Dead]) ag36 sz36 rfl rfl) (fun _ _ => ⟨rfl, rfl, ⟨rfl, rfl, rfl, rfl, trivial⟩⟩)
      · exact OpOK.of (fun g28 => [(.func 26, .func (.func 26) #[] #[]), (.tmp 50, .agg #[.slice a_0 (List.length p0.Cells) c_0, .slice a_1 (List.length p0.Wet) c_1, .int .i64 p0.Fuse, .bool p0.Dead])]) _ _ (fun g28 x => x) rfl rfl (fun _ => ⟨rfl, rfl, trivial⟩) (fun g28 => OT.call (us := [_]) (Pre := []) [.tmp 50] Try.call26 rfl rfl fun w F hs hF hp => laws_toDisk_c (hb_0.pass hp) (hb_1.pass hp) h30) (fun _ _ => ⟨rfl, rfl, ⟨rfl, rfl, rfl, rfl, trivial⟩⟩)
      refine HQ.keep [(1, _), (2, _), (3, _), (6, _), (8, _), (9, _), (10, _), (11, _), (12, _), (49, _), (51, _)] ⟨rfl, rfl, rfl, rfl, rfl, rfl, rfl, rfl, rfl, rfl, rfl, trivial⟩ ?_
      refine HQ.keepR [(1, _), (2, _), (3, _), (4, _), (5, _), (6, _), (7, _), (8, _), (9, _), (10, _)] ⟨rfl, rfl, rfl, rfl, rfl, rfl, rfl, rfl, rfl, rfl, trivial⟩ rfl ?_
      obtain ⟨t35, h36, H⟩ := bnd H
      refine HQ.op [5, 6, 9, 10] [5, 6, 9, 10] (OT.call (us := [_, _]) (Pre := [OwnS kTCell a16 c17 t14.Cells, OwnS kTWet a18 c19 t14.Wet, OwnS kTCell g28.1.1 g28.1.2 t29.Cells, OwnS kTWet g28.2.1 g28.2.2 t29.Wet]) [.tmp 49, .tmp 51] Try.call29 rfl rfl fun w F hs hF hp => laws_eqDisk_c (hs.lend hF 0 rfl) (hs.lend hF 1 rfl) (hs.lend hF 2 rfl) (hs.lend hF 3 rfl) h36) ⟨rfl, rfl, rfl, trivial⟩ ⟨rfl, rfl, rfl, rfl, trivial⟩ rfl rfl rfl rfl (fun _ => rfl) fun _ => ?_
      refine HQ.pu Pu.not ⟨rfl, trivial⟩ rfl rfl rfl ?_
      refine HQ.done ?_
      refine HQ.keep [(1, _), (2, _), (3, _), (6, _), (8, _), (9, _), (10, _), (11, _), (12, _), (53, _)] ⟨rfl, rfl, rfl, rfl, rfl, rfl, rfl, rfl, rfl, rfl, trivial⟩ ?_
      rcases brk H with ⟨hc, H⟩ | ⟨hc, H⟩
      · refine HQ.condT rfl hc ?_
        clear hc
        refine HQ.rseq ?_
        refine HQ.pu Pu.assign ⟨rfl, trivial⟩ rfl rfl rfl ?_
        refine HQ.done ?_
        refine HQ.keep [(1, _), (2, _), (3, _), (6, _), (8, _), (9, _), (10, _), (11, _), (12, _)] ⟨rfl, rfl, rfl, rfl, rfl, rfl, rfl, rfl, rfl, trivial⟩ ?_
        refine HQ.ret ?_
        refine HQ.thenR ?_
        obtain rfl := Option.some.inj H
        exact HQ.fin (vs := [_]) Try.results14 () ⟨rfl, trivial⟩ rfl [] trivial rfl
      · refine HQ.condF rfl hc ?_
        clear hc
        refine HQ.skipThen ?_
        refine HQ.rseq ?_
        refine HQ.pu Pu.assign ⟨rfl, trivial⟩ rfl rfl rfl ?_
        refine HQ.done ?_
        refine HQ.keep [(1, _), (2, _), (3, _), (6, _), (8, _), (9, _), (10, _), (11, _), (12, _), (13, _)] ⟨rfl, rfl, rfl, rfl, rfl, rfl, rfl, rfl, rfl, rfl, trivial⟩ ?_
        refine HQ.rseq ?_
        refine HQ.op [7] [7] (OT.loadBA (vs := [.slice a16 (List.length t14.Cells) c17, .slice a18 (List.length t14.Wet) c19, .int .i64 t14.Fuse, .bool t14.Dead]) ag42 sz42 rfl rfl) ⟨rfl, trivial⟩ ⟨rfl, trivial⟩ rfl rfl rfl rfl (fun _ => rfl) fun _ => ?_
        refine HQ.pu Pu.move ⟨rfl, trivial⟩ rfl rfl rfl ?_
        obtain ⟨t37, h38, H⟩ := bnd H
        obtain ⟨h39, H⟩ := asr H
        obtain ⟨h40, H⟩ := asr H
        refine HQ.op [5, 6] [5, 6] (OT.callM (us := [_, _]) (PreX := [OwnS kTCell a16 c17 t14.Cells, OwnS kTWet a18 c19 t14.Wet]) (PreL := []) [.tmp 54, .tmp 55] Try.call31 rfl rfl fun w FX FL hs1 hF1 hs2 hF2 hp => laws_markDisk_c (p0 := t14) (p1 := 1) hs1 hF1 h38) ⟨rfl, rfl, rfl, trivial⟩ ⟨rfl, rfl, trivial⟩ rfl rfl rfl rfl (fun _ => rfl) fun _ => ?_
        refine HQ.re (v' := .agg #[.slice a16 (List.length t37.2.1) c17, .slice a18 (List.length t37.2.2) c19, .int .i64 t14.Fuse, .bool t14.Dead]) 54 rfl (by simp [h39, h40]) ?_
        refine HQ.reR (B := Box b20 [.slice a16 (List.length t37.2.1) c17, .slice a18 (List.length t37.2.2) c19, .int .i64 t14.Fuse, .bool t14.Dead]) 7 rfl (fun _ _ hb => by rw [show List.length t37.2.1 = List.length t14.Cells from (by simp [h39, h40]), show List.length t37.2.2 = List.length t14.Wet from (by simp [h39, h40])]; exact hb) ?_
        refine HQ.pu Pu.assign ⟨rfl, trivial⟩ rfl rfl rfl ?_
        refine HQ.done ?_
        refine HQ.keep [(1, _), (2, _), (3, _), (6, _), (8, _), (9, _), (11, _), (12, _), (13, _)] ⟨rfl, rfl, rfl, rfl, rfl, rfl, rfl, rfl, rfl, trivial⟩ ?_
        refine HQ.seq ?_
        refine HQ.rseq ?_
        refine HQ.pu Pu.move ⟨rfl, trivial⟩ rfl rfl rfl ?_
        refine HQ.pu Pu.lss ⟨rfl, rfl, trivial⟩ rfl rfl rfl ?_
        refine HQ.pu Pu.move ⟨rfl, trivial⟩ rfl rfl rfl ?_
        obtain ⟨c44, h45, H⟩ := bnd H
        refine HQ.cutAt 5 [(64, .bool c44), (1, .int .i64 p1), (2, .int .i64 p2), (3, BP b1 0), (6, .bool false), (8, .slice a12 (List.length t10.1) c13), (9, .int .i64 t10.2), (11, .slice a23 (List.length t21.1) c24), (12, .int .i64 t21.2)] [(1, Box b1 [.slice a_0 (List.length p0.Cells) c_0, .slice a_1 (List.length p0.Wet) c_1, .int .i64 p0.Fuse, .bool p0.Dead]), (2, OwnS kTCell a6 c7 t4.Cells), (3, OwnS kTWet a8 c9 t4.Wet), (4, OwnS kTTx a12 c13 t10.1), (5, OwnS kTCell a16 c17 t37.2.1), (6, OwnS kTWet a18 c19 t37.2.2), (7, Box b20 [.slice a16 (List.length t37.2.1) c17, .slice a18 (List.length t37.2.2) c19, .int .i64 t14.Fuse, .bool t14.Dead]), (8, OwnS kTTx a23 c24 t21.1), (9, OwnS kTCell g28.1.1 g28.1.2 t29.Cells), (10, OwnS kTWet g28.2.1 g28.2.2 t29.Wet)] ?_ ?_
        · clear H
          have H := h45
          rcases brk H with ⟨hg41, H⟩ | ⟨hg41, H⟩
          · obtain rfl := Option.some.inj H
            refine HQ.off rfl rfl hg41 rfl ?_
            refine HQ.off rfl rfl hg41 rfl ?_
            refine HQ.off rfl rfl hg41 rfl ?_
            refine HQ.off rfl rfl hg41 rfl ?_
            refine HQ.pu (Pu.pickC1 hg41) ⟨rfl, rfl, trivial⟩ rfl rfl rfl ?_
            exact HQ.mid ⟨rfl, rfl, rfl, rfl, rfl, rfl, rfl, rfl, rfl, trivial⟩ ⟨rfl, rfl, rfl, rfl, rfl, rfl, rfl, rfl, rfl, rfl, trivial⟩ rfl
          · refine HQ.on rfl rfl hg41 ?_
            refine HQ.pu Pu.move ⟨rfl, trivial⟩ rfl rfl rfl ?_
            refine HQ.on rfl rfl hg41 ?_
            refine HQ.pu Pu.move ⟨rfl, trivial⟩ rfl rfl rfl ?_
            refine HQ.on rfl rfl hg41 ?_
            obtain ⟨t42, h43, H⟩ := bnd H
            refine HQ.op [8, 4] [8, 4] (OT.call (us := [_, _]) (Pre := [OwnS kTTx a23 c24 t21.1, OwnS kTTx a12 c13 t10.1]) [.tmp 60, .tmp 61] Try.call20 rfl rfl fun w F hs hF hp => laws_eqTxS_c (hs.lend hF 0 rfl) (hs.lend hF 1 rfl) h43) ⟨rfl, rfl, rfl, trivial⟩ ⟨rfl, rfl, trivial⟩ rfl rfl rfl rfl (fun _ => rfl) fun _ => ?_
            refine HQ.on rfl rfl hg41 ?_
            refine HQ.pu Pu.not ⟨rfl, trivial⟩ rfl rfl rfl ?_
            obtain rfl := Option.some.inj H
            refine HQ.pu (Pu.pickC0 hg41) ⟨rfl, rfl, trivial⟩ rfl rfl rfl ?_
            exact HQ.mid ⟨rfl, rfl, rfl, rfl, rfl, rfl, rfl, rfl, rfl, trivial⟩ ⟨rfl, rfl, rfl, rfl, rfl, rfl, rfl, rfl, rfl, rfl, trivial⟩ rfl
        refine HQ.pu Pu.move ⟨rfl, trivial⟩ rfl rfl rfl ?_
        refine HQ.cutAt 4 [(69, .bool (c44 || (!decide (t21.2 = t10.2)))), (1, .int .i64 p1), (2, .int .i64 p2), (3, BP b1 0), (6, .bool false), (8, .slice a12 (List.length t10.1) c13), (9, .int .i64 t10.2), (11, .slice a23 (List.length t21.1) c24)] [(1, Box b1 [.slice a_0 (List.length p0.Cells) c_0, .slice a_1 (List.length p0.Wet) c_1, .int .i64 p0.Fuse, .bool p0.Dead]), (2, OwnS kTCell a6 c7 t4.Cells), (3, OwnS kTWet a8 c9 t4.Wet), (4, OwnS kTTx a12 c13 t10.1), (5, OwnS kTCell a16 c17 t37.2.1), (6, OwnS kTWet a18 c19 t37.2.2), (7, Box b20 [.slice a16 (List.length t37.2.1) c17, .slice a18 (List.length t37.2.2) c19, .int .i64 t14.Fuse, .bool t14.Dead]), (8, OwnS kTTx a23 c24 t21.1), (9, OwnS kTCell g28.1.1 g28.1.2 t29.Cells), (10, OwnS kTWet g28.2.1 g28.2.2 t29.Wet)] ?_ ?_
        · rcases Bool.eq_false_or_eq_true c44 with hg46 | hg46
          · refine HQ.off rfl rfl hg46 rfl ?_
            refine HQ.off rfl rfl hg46 rfl ?_
            refine HQ.off rfl rfl hg46 rfl ?_
            refine HQ.pu (Pu.pickOT (u := (!decide (t21.2 = t10.2))) hg46) ⟨rfl, rfl, trivial⟩ rfl rfl rfl ?_
            exact HQ.mid ⟨rfl, rfl, rfl, rfl, rfl, rfl, rfl, rfl, trivial⟩ ⟨rfl, rfl, rfl, rfl, rfl, rfl, rfl, rfl, rfl, rfl, trivial⟩ rfl
          · refine HQ.on rfl rfl hg46 ?_
            refine HQ.pu Pu.move ⟨rfl, trivial⟩ rfl rfl rfl ?_
            refine HQ.on rfl rfl hg46 ?_
            refine HQ.pu Pu.move ⟨rfl, trivial⟩ rfl rfl rfl ?_
            refine HQ.on rfl rfl hg46 ?_
            refine HQ.pu Pu.neq ⟨rfl, rfl, trivial⟩ rfl rfl rfl ?_
            refine HQ.pu (Pu.pickOF hg46) ⟨rfl, rfl, trivial⟩ rfl rfl rfl ?_
            exact HQ.mid ⟨rfl, rfl, rfl, rfl, rfl, rfl, rfl, rfl, trivial⟩ ⟨rfl, rfl, rfl, rfl, rfl, rfl, rfl, rfl, rfl, rfl, trivial⟩ rfl
        refine HQ.done ?_
        refine HQ.keep [(69, _), (1, _), (2, _), (3, _), (6, _), (8, _), (9, _), (11, _)] ⟨rfl, rfl, rfl, rfl, rfl, rfl, rfl, rfl, trivial⟩ ?_
        rcases brk H with ⟨hc, H⟩ | ⟨hc, H⟩
        · refine HQ.condT rfl hc ?_
          clear hc
          refine HQ.rseq ?_
          refine HQ.pu Pu.assign ⟨rfl, trivial⟩ rfl rfl rfl ?_
          refine HQ.done ?_
          refine HQ.keep [(1, _), (2, _), (3, _), (6, _), (8, _), (9, _), (11, _)] ⟨rfl, rfl, rfl, rfl, rfl, rfl, rfl, trivial⟩ ?_
          refine HQ.ret ?_
          refine HQ.thenR ?_
          obtain rfl := Option.some.inj H
          exact HQ.fin (vs := [_]) Try.results14 () ⟨rfl, trivial⟩ rfl [] trivial rfl
        · refine HQ.condF rfl hc ?_
          clear hc
          refine HQ.skipThen ?_
          refine HQ.rseq ?_
          refine HQ.pu Pu.assign ⟨rfl, trivial⟩ rfl rfl rfl ?_
          refine HQ.done ?_
          refine HQ.keep [(1, _), (2, _), (3, _), (6, _), (8, _), (9, _), (11, _), (14, _)] ⟨rfl, rfl, rfl, rfl, rfl, rfl, rfl, rfl, trivial⟩ ?_
          refine HQ.rseq ?_
          refine HQ.pu Pu.move ⟨rfl, trivial⟩ rfl rfl rfl ?_
          refine HQ.pu Pu.move ⟨rfl, trivial⟩ rfl rfl rfl ?_
          obtain ⟨t47, h48, H⟩ := bnd H
          obtain ⟨h49, H⟩ := asr H
          refine HQ.op [8] [8] (OT.callM (us := [_, _]) (PreX := [OwnS kTTx a23 c24 t21.1]) (PreL := []) [.tmp 70, .tmp 71] Try.call21 rfl rfl fun w FX FL hs1 hF1 hs2 hF2 hp => laws_markTxS_c (p0 := t21.1) (p1 := 1) hs1 hF1 h48) ⟨rfl, rfl, rfl, trivial⟩ ⟨rfl, trivial⟩ rfl rfl rfl rfl (fun _ => rfl) fun _ => ?_
          refine HQ.re (v' := .slice a23 (List.length t47.2) c24) 11 rfl (by simp [h39, h40, h49]) ?_
          refine HQ.re (v' := .slice a23 (List.length t47.2) c24) 70 rfl (by simp [h39, h40, h49]) ?_
          refine HQ.pu Pu.assign ⟨rfl, trivial⟩ rfl rfl rfl ?_
          refine HQ.done ?_
          refine HQ.keep [(1, _), (2, _), (3, _), (6, _), (8, _), (9, _), (11, _), (14, _)] ⟨rfl, rfl, rfl, rfl, rfl, rfl, rfl, rfl, trivial⟩ ?_
          refine HQ.rseq ?_
          refine HQ.pu Pu.assign ⟨rfl, trivial⟩ rfl rfl rfl ?_
          refine HQ.done ?_
          refine HQ.keep [(1, _), (2, _), (3, _), (6, _), (8, _), (9, _), (11, _), (14, _), (15, _)] ⟨rfl, rfl, rfl, rfl, rfl, rfl, rfl, rfl, rfl, trivial⟩ ?_
          refine HQ.rseq ?_
          refine HQ.pu Pu.move ⟨rfl, trivial⟩ rfl rfl rfl ?_
          refine HQ.pu Pu.move ⟨rfl, trivial⟩ rfl rfl rfl ?_
          obtain ⟨t50, h51, H⟩ := bnd H
          refine HQ.op [8] [8] (OT.call (us := [_, _]) (Pre := [OwnS kTTx a23 c24 t47.2]) [.tmp 73, .tmp 74] Try.call77 rfl rfl fun w F hs hF hp => laws_heldTxS_c (hs.lend hF 0 rfl) h51) ⟨rfl, rfl, rfl, trivial⟩ ⟨rfl, trivial⟩ rfl rfl rfl rfl (fun _ => rfl) fun _ => ?_
          refine HQ.pu Pu.assign ⟨rfl, trivial⟩ rfl rfl rfl ?_
          refine HQ.done ?_
          refine HQ.keep [(1, _), (2, _), (3, _), (6, _), (8, _), (9, _), (11, _), (14, _), (15, _)] ⟨rfl, rfl, rfl, rfl, rfl, rfl, rfl, rfl, rfl, trivial⟩ ?_
          refine HQ.seq ?_
          refine HQ.rseq ?_
          refine HQ.pu Pu.move ⟨rfl, trivial⟩ rfl rfl rfl ?_
          refine HQ.pu Pu.lss ⟨rfl, rfl, trivial⟩ rfl rfl rfl ?_
          refine HQ.done ?_
          refine HQ.keep [(1, _), (2, _), (3, _), (6, _), (8, _), (9, _), (11, _), (14, _), (15, _), (77, _)] ⟨rfl, rfl, rfl, rfl, rfl, rfl, rfl, rfl, rfl, rfl, trivial⟩ ?_
          rcases brk H with ⟨hc, H⟩ | ⟨hc, H⟩
          · refine HQ.condT rfl hc ?_
            clear hc
            refine HQ.rseq ?_
            refine HQ.pu Pu.assign ⟨rfl, trivial⟩ rfl rfl rfl ?_
            refine HQ.done ?_
            refine HQ.keep [(1, _), (2, _), (3, _), (6, _), (8, _), (9, _), (11, _), (14, _), (15, _)] ⟨rfl, rfl, rfl, rfl, rfl, rfl, rfl, rfl, rfl, trivial⟩ ?_
            refine HQ.ret ?_
            refine HQ.thenR ?_
            obtain rfl := Option.some.inj H
            exact HQ.fin (vs := [_]) Try.results14 () ⟨rfl, trivial⟩ rfl [] trivial rfl
          · refine HQ.condF rfl hc ?_
            clear hc
            refine HQ.skipThen ?_
            refine HQ.seq ?_
            refine HQ.rseq ?_
            refine HQ.pu Pu.move ⟨rfl, trivial⟩ rfl rfl rfl ?_
            refine HQ.pu Pu.move ⟨rfl, trivial⟩ rfl rfl rfl ?_
            refine HQ.pu Pu.neq ⟨rfl, rfl, trivial⟩ rfl rfl rfl ?_
            refine HQ.done ?_
            refine HQ.keep [(1, _), (2, _), (3, _), (6, _), (8, _), (9, _), (11, _), (14, _), (80, _)] ⟨rfl, rfl, rfl, rfl, rfl, rfl, rfl, rfl, rfl, trivial⟩ ?_
            rcases brk H with ⟨hc, H⟩ | ⟨hc, H⟩
            · refine HQ.condT rfl hc ?_
              clear hc
              refine HQ.rseq ?_
              refine HQ.pu Pu.assign ⟨rfl, trivial⟩ rfl rfl rfl ?_
              refine HQ.done ?_
              refine HQ.keep [(1, _), (2, _), (3, _), (6, _), (8, _), (9, _), (11, _), (14, _)] ⟨rfl, rfl, rfl, rfl, rfl, rfl, rfl, rfl, trivial⟩ ?_
              refine HQ.ret ?_
              refine HQ.thenR ?_
              obtain rfl := Option.some.inj H
              exact HQ.fin (vs := [_]) Try.results14 () ⟨rfl, trivial⟩ rfl [] trivial rfl
            · refine HQ.condF rfl hc ?_
              clear hc
              refine HQ.skipThen ?_
              refine HQ.rseq ?_
              refine HQ.op [1] [1] (OT.loadBA (vs := [.slice a_0 (List.length p0.Cells) c_0, .slice a_1 (List.length p0.Wet) c_1, .int .i64 p0.Fuse, .bool p0.Dead]) ag36 sz36 rfl rfl) ⟨rfl, trivial⟩ ⟨rfl, trivial⟩ rfl rfl rfl rfl (fun _ => rfl) fun _ => ?_
              obtain ⟨t52, h53, H⟩ := bnd H
              refine HQ.op [] [11, 12] (OT.call (us := [_]) (Pre := []) [.tmp 82] Try.call26 rfl rfl fun w F hs hF hp => laws_toDisk_c (hb_0.pass hp) (hb_1.pass hp) h53) ⟨rfl, rfl, trivial⟩ trivial rfl rfl rfl rfl (fun _ => rfl) fun ⟨⟨a54, c55⟩, ⟨a56, c57⟩⟩ => ?_
              refine HQ.pu Pu.move ⟨rfl, trivial⟩ rfl rfl rfl ?_
              refine HQ.pu Pu.move ⟨rfl, trivial⟩ rfl rfl rfl ?_
              obtain ⟨t58, h59, H⟩ := bnd H
              refine HQ.op [11, 12] [13, 11, 12] (OT.call (us := [_, _, _]) (Pre := [OwnS kTCell a54 c55 t52.Cells, OwnS kTWet a56 c57 t52.Wet]) [.tmp 83, .tmp 84, .tmp 85] Try.call76 rfl rfl fun w F hs hF hp => impl_ReadLog_c (hs.lend hF 0 rfl) (hs.lend hF 1 rfl) h59) ⟨rfl, rfl, rfl, rfl, trivial⟩ ⟨rfl, rfl, trivial⟩ rfl rfl rfl rfl (fun _ => rfl) fun ⟨a60, c61⟩ => ?_
              refine HQ.pu Pu.move ⟨rfl, trivial⟩ rfl rfl rfl ?_
              refine HQ.pu (Pu.extract rfl) ⟨rfl, trivial⟩ rfl rfl rfl ?_
              refine HQ.pu (Pu.extract rfl) ⟨rfl, trivial⟩ rfl rfl rfl ?_
              refine HQ.pu Pu.assign ⟨rfl, trivial⟩ rfl rfl rfl ?_
              refine HQ.pu Pu.assign ⟨rfl, trivial⟩ rfl rfl rfl ?_
              refine HQ.done ?_
              refine HQ.keep [(6, _), (8, _), (9, _), (11, _), (14, _), (16, _), (17, _)] ⟨rfl, rfl, rfl, rfl, rfl, rfl, rfl, trivial⟩ ?_
              refine HQ.seq ?_
              refine HQ.rseq ?_
              refine HQ.pu Pu.move ⟨rfl, trivial⟩ rfl rfl rfl ?_
              refine HQ.pu Pu.move ⟨rfl, trivial⟩ rfl rfl rfl ?_
              obtain ⟨t62, h63, H⟩ := bnd H
              refine HQ.op [13, 4] [13, 4] (OT.call (us := [_, _]) (Pre := [OwnS kTTx a60 c61 t58.1, OwnS kTTx a12 c13 t10.1]) [.tmp 89, .tmp 90] Try.call20 rfl rfl fun w F hs hF hp => laws_eqTxS_c (hs.lend hF 0 rfl) (hs.lend hF 1 rfl) h63) ⟨rfl, rfl, rfl, trivial⟩ ⟨rfl, rfl, trivial⟩ rfl rfl rfl rfl (fun _ => rfl) fun _ => ?_
              refine HQ.pu Pu.not ⟨rfl, trivial⟩ rfl rfl rfl ?_
              refine HQ.pu Pu.move ⟨rfl, trivial⟩ rfl rfl rfl ?_
              refine HQ.cutAt 4 [(97, .bool ((!t62) || (!decide (t58.2 = t10.2)))), (6, .bool false), (11, .slice a23 (List.length t47.2) c24), (14, .int .i64 t47.1)] [(1, Box b1 [.slice a_0 (List.length p0.Cells) c_0, .slice a_1 (List.length p0.Wet) c_1, .int .i64 p0.Fuse, .bool p0.Dead]), (2, OwnS kTCell a6 c7 t4.Cells), (3, OwnS kTWet a8 c9 t4.Wet), (4, OwnS kTTx a12 c13 t10.1), (5, OwnS kTCell a16 c17 t37.2.1), (6, OwnS kTWet a18 c19 t37.2.2), (7, Box b20 [.slice a16 (List.length t37.2.1) c17, .slice a18 (List.length t37.2.2) c19, .int .i64 t14.Fuse, .bool t14.Dead]), (8, OwnS kTTx a23 c24 t47.2), (9, OwnS kTCell g28.1.1 g28.1.2 t29.Cells), (10, OwnS kTWet g28.2.1 g28.2.2 t29.Wet), (11, OwnS kTCell a54 c55 t52.Cells), (12, OwnS kTWet a56 c57 t52.Wet), (13, OwnS kTTx a60 c61 t58.1)] ?_ ?_
              · rcases Bool.eq_false_or_eq_true (!t62) with hg64 | hg64
                · refine HQ.off rfl rfl hg64 rfl ?_
                  refine HQ.off rfl rfl hg64 rfl ?_
                  refine HQ.off rfl rfl hg64 rfl ?_
                  refine HQ.pu (Pu.pickOT (u := (!decide (t58.2 = t10.2))) hg64) ⟨rfl, rfl, trivial⟩ rfl rfl rfl ?_
                  exact HQ.mid ⟨rfl, rfl, rfl, rfl, trivial⟩ ⟨rfl, rfl, rfl, rfl, rfl, rfl, rfl, rfl, rfl, rfl, rfl, rfl, rfl, trivial⟩ rfl
                · refine HQ.on rfl rfl hg64 ?_
                  refine HQ.pu Pu.move ⟨rfl, trivial⟩ rfl rfl rfl ?_
                  refine HQ.on rfl rfl hg64 ?_
                  refine HQ.pu Pu.move ⟨rfl, trivial⟩ rfl rfl rfl ?_
                  refine HQ.on rfl rfl hg64 ?_
                  refine HQ.pu Pu.neq ⟨rfl, rfl, trivial⟩ rfl rfl rfl ?_
                  refine HQ.pu (Pu.pickOF hg64) ⟨rfl, rfl, trivial⟩ rfl rfl rfl ?_
                  exact HQ.mid ⟨rfl, rfl, rfl, rfl, trivial⟩ ⟨rfl, rfl, rfl, rfl, rfl, rfl, rfl, rfl, rfl, rfl, rfl, rfl, rfl, trivial⟩ rfl
              refine HQ.done ?_
              refine HQ.keep [(97, _), (6, _), (11, _), (14, _)] ⟨rfl, rfl, rfl, rfl, trivial⟩ ?_
              rcases brk H with ⟨hc, H⟩ | ⟨hc, H⟩
              · refine HQ.condT rfl hc ?_
                clear hc
                refine HQ.rseq ?_
                refine HQ.pu Pu.assign ⟨rfl, trivial⟩ rfl rfl rfl ?_
                refine HQ.done ?_
                refine HQ.keep [(6, _), (11, _), (14, _)] ⟨rfl, rfl, rfl, trivial⟩ ?_
                refine HQ.ret ?_
                refine HQ.thenR ?_
                obtain rfl := Option.some.inj H
                exact HQ.fin (vs := [_]) Try.results14 () ⟨rfl, trivial⟩ rfl [] trivial rfl
              · refine HQ.condF rfl hc ?_
                clear hc
                refine HQ.skipThen ?_
                refine HQ.rseq ?_
                refine HQ.pu Pu.assign ⟨rfl, trivial⟩ rfl rfl rfl ?_
                refine HQ.done ?_
                refine HQ.keep [(6, _), (11, _), (14, _), (15, _)] ⟨rfl, rfl, rfl, rfl, trivial⟩ ?_
                refine HQ.rseq ?_
                refine HQ.pu Pu.move ⟨rfl, trivial⟩ rfl rfl rfl ?_
                refine HQ.pu Pu.move ⟨rfl, trivial⟩ rfl rfl rfl ?_
                obtain ⟨t65, h66, H⟩ := bnd H
                refine HQ.op [8] [8] (OT.call (us := [_, _]) (Pre := [OwnS kTTx a23 c24 t47.2]) [.tmp 98, .tmp 99] Try.call77 rfl rfl fun w F hs hF hp => laws_heldTxS_c (hs.lend hF 0 rfl) h66) ⟨rfl, rfl, rfl, trivial⟩ ⟨rfl, trivial⟩ rfl rfl rfl rfl (fun _ => rfl) fun _ => ?_
                refine HQ.pu Pu.assign ⟨rfl, trivial⟩ rfl rfl rfl ?_
                refine HQ.done ?_
                refine HQ.keep [(6, _), (14, _), (15, _)] ⟨rfl, rfl, rfl, trivial⟩ ?_
                refine HQ.seq ?_
                refine HQ.rseq ?_
                refine HQ.pu Pu.move ⟨rfl, trivial⟩ rfl rfl rfl ?_
                refine HQ.pu Pu.lss ⟨rfl, rfl, trivial⟩ rfl rfl rfl ?_
                refine HQ.done ?_
                refine HQ.keep [(6, _), (14, _), (15, _), (102, _)] ⟨rfl, rfl, rfl, rfl, trivial⟩ ?_
                rcases brk H with ⟨hc, H⟩ | ⟨hc, H⟩
                · refine HQ.condT rfl hc ?_
                  clear hc
                  refine HQ.rseq ?_
                  refine HQ.pu Pu.assign ⟨rfl, trivial⟩ rfl rfl rfl ?_
                  refine HQ.done ?_
                  refine HQ.keep [(6, _), (14, _), (15, _)] ⟨rfl, rfl, rfl, trivial⟩ ?_
                  refine HQ.ret ?_
                  refine HQ.thenR ?_
                  obtain rfl := Option.some.inj H
                  exact HQ.fin (vs := [_]) Try.results14 () ⟨rfl, trivial⟩ rfl [] trivial rfl
                · refine HQ.condF rfl hc ?_
                  clear hc
                  refine HQ.skipThen ?_
                  refine HQ.seq ?_
                  refine HQ.rseq ?_
                  refine HQ.pu Pu.move ⟨rfl, trivial⟩ rfl rfl rfl ?_
                  refine HQ.pu Pu.move ⟨rfl, trivial⟩ rfl rfl rfl ?_
                  refine HQ.pu Pu.neq ⟨rfl, rfl, trivial⟩ rfl rfl rfl ?_
                  refine HQ.done ?_
                  refine HQ.keep [(6, _), (105, _)] ⟨rfl, rfl, trivial⟩ ?_
                  rcases brk H with ⟨hc, H⟩ | ⟨hc, H⟩
                  · refine HQ.condT rfl hc ?_
                    clear hc
                    refine HQ.rseq ?_
                    refine HQ.pu Pu.assign ⟨rfl, trivial⟩ rfl rfl rfl ?_
                    refine HQ.done ?_
                    refine HQ.keep [(6, _)] ⟨rfl, trivial⟩ ?_
                    refine HQ.ret ?_
                    refine HQ.thenR ?_
                    obtain rfl := Option.some.inj H
                    exact HQ.fin (vs := [_]) Try.results14 () ⟨rfl, trivial⟩ rfl [] trivial rfl
                  · refine HQ.condF rfl hc ?_
                    clear hc
                    refine HQ.skipThen ?_
                    refine HQ.rseq ?_
                    refine HQ.pu Pu.assign ⟨rfl, trivial⟩ rfl rfl rfl ?_
                    refine HQ.done ?_
                    refine HQ.keep [(6, _)] ⟨rfl, trivial⟩ ?_
                    refine HQ.ret ?_
                    obtain rfl := Option.some.inj H
                    exact HQ.fin (vs := [_]) Try.results14 () ⟨rfl, trivial⟩ rfl [] trivial rfl

end Go.Proofs.Sx
