import Derived.Test.YtpdebdoecadikaaZF5
import Derived.KernelRfl
namespace Go.Proofs.Sx
open Go.RowKit
set_option linter.unusedVariables false
set_option linter.unusedSimpArgs false
set_option maxRecDepth 20000
set_option maxHeartbeats 1000000
/-! laws.FnExactCrash -/
theorem laws_FnExactCrash_c {w : World} {k : Nat} {p0 : TDisk} {p1 : (List Int)} {p2 : Int} {a_0 : Option Addr} {c_0 : Nat} {a_1 : Option Addr} {c_1 : Nat} {a_2 : Option Addr} {c_2 : Nat} (hb_0 : BorS kTCell a_0 c_0 p0.Cells w.heap (Lt w Nil)) (hb_1 : BorS kTWet a_1 c_1 p0.Wet w.heap (Lt w Nil)) (hb_2 : BorS kI a_2 c_2 p1 w.heap (Lt w Nil)) {r : Bool} (H : laws_FnExactCrash k p0 p1 p2 = some r) :
    Calls Try.prog 4 #[.agg #[.slice a_0 (List.length p0.Cells) c_0, .slice a_1 (List.length p0.Wet) c_1, .int .i64 p0.Fuse, .bool p0.Dead], .slice a_2 (List.length p1) c_2, .int .i64 p2] w (Rt w Nil (fun _ : Unit => .bool r) (fun _ => [])) := by
  rw [laws_FnExactCrash] at H
  refine Calls.enter0 (N := 95) (us := [_, _, _]) Try.func4 rfl rfl rfl ?_
  refine HQ.rseq ?_
  refine HQ.op [] [1] (OT.box (cs := [.slice a_0 (List.length p0.Cells) c_0, .slice a_1 (List.length p0.Wet) c_1, .int .i64 p0.Fuse, .bool p0.Dead]) rfl) ⟨rfl, trivial⟩ trivial rfl rfl rfl rfl (fun _ => rfl) fun b1 => ?_
  refine HQ.pu Pu.assign ⟨rfl, trivial⟩ rfl rfl rfl ?_
  refine HQ.done ?_
  refine HQ.keep [(1, _), (2, _), (3, _), (6, _)] ⟨rfl, rfl, rfl, rfl, trivial⟩ ?_
  refine HQ.seq ?_
  refine HQ.rseq ?_
  refine HQ.pu Pu.move ⟨rfl, trivial⟩ rfl rfl rfl ?_
  refine HQ.pu (Pu.len ul36) ⟨rfl, trivial⟩ rfl rfl rfl ?_
  refine HQ.pu Pu.gtr ⟨rfl, rfl, trivial⟩ rfl rfl rfl ?_
  refine HQ.done ?_
  refine HQ.keep [(1, _), (2, _), (3, _), (6, _), (18, _)] ⟨rfl, rfl, rfl, rfl, rfl, trivial⟩ ?_
  rcases brk H with ⟨hc, H⟩ | ⟨hc, H⟩
  · refine HQ.condT rfl hc ?_
    clear hc
    refine HQ.rseq ?_
    refine HQ.pu Pu.assign ⟨rfl, trivial⟩ rfl rfl rfl ?_
    refine HQ.done ?_
    refine HQ.keep [(1, _), (2, _), (3, _), (6, _)] ⟨rfl, rfl, rfl, rfl, trivial⟩ ?_
    refine HQ.ret ?_
    refine HQ.thenR ?_
    obtain rfl := Option.some.inj H
    exact HQ.fin (vs := [_]) Try.results4 () ⟨rfl, trivial⟩ rfl [] trivial rfl
  · refine HQ.condF rfl hc ?_
    clear hc
    refine HQ.skipThen ?_
    refine HQ.rseq ?_
    refine HQ.pu Pu.assign ⟨rfl, trivial⟩ rfl rfl rfl ?_
    refine HQ.done ?_
    refine HQ.keep [(1, _), (2, _), (3, _), (6, _), (7, _)] ⟨rfl, rfl, rfl, rfl, rfl, trivial⟩ ?_
    refine HQ.rseq ?_
    refine HQ.op [1] [1] (OT.loadBA (vs := [.slice a_0 (List.length p0.Cells) c_0, .slice a_1 (List.length p0.Wet) c_1, .int .i64 p0.Fuse, .bool p0.Dead]) ag25 sz25 rfl rfl) ⟨rfl, trivial⟩ ⟨rfl, trivial⟩ rfl rfl rfl rfl (fun _ => rfl) fun _ => ?_
    refine HQ.pu Pu.move ⟨rfl, trivial⟩ rfl rfl rfl ?_
    obtain ⟨t2, h3, H⟩ := bnd H
    refine HQ.op [] [] (OT.call (us := [_, _]) (Pre := []) [.tmp 19, .tmp 20] Try.call9 rfl rfl fun w F hs hF hp => laws_szDisk_c (hb_0.pass hp) (hb_1.pass hp) h3) ⟨rfl, rfl, rfl, trivial⟩ trivial rfl rfl rfl rfl (fun _ => rfl) fun _ => ?_
    refine HQ.pu Pu.assign ⟨rfl, trivial⟩ rfl rfl rfl ?_
    refine HQ.done ?_
    refine HQ.keep [(1, _), (2, _), (3, _), (6, _), (7, _)] ⟨rfl, rfl, rfl, rfl, rfl, trivial⟩ ?_
    refine HQ.seq ?_
    refine HQ.rseq ?_
    refine HQ.pu Pu.move ⟨rfl, trivial⟩ rfl rfl rfl ?_
    refine HQ.pu Pu.lss ⟨rfl, rfl, trivial⟩ rfl rfl rfl ?_
    refine HQ.done ?_
    refine HQ.keep [(1, _), (2, _), (3, _), (6, _), (23, _)] ⟨rfl, rfl, rfl, rfl, rfl, trivial⟩ ?_
    rcases brk H with ⟨hc, H⟩ | ⟨hc, H⟩
    · refine HQ.condT rfl hc ?_
      clear hc
      refine HQ.rseq ?_
      refine HQ.pu Pu.assign ⟨rfl, trivial⟩ rfl rfl rfl ?_
      refine HQ.done ?_
      refine HQ.keep [(1, _), (2, _), (3, _), (6, _)] ⟨rfl, rfl, rfl, rfl, trivial⟩ ?_
      refine HQ.ret ?_
      refine HQ.thenR ?_
      obtain rfl := Option.some.inj H
      exact HQ.fin (vs := [_]) Try.results4 () ⟨rfl, trivial⟩ rfl [] trivial rfl
    · refine HQ.condF rfl hc ?_
      clear hc
      refine HQ.skipThen ?_
      refine HQ.rseq ?_
      refine HQ.op [1] [1] (OT.loadBA (vs := [.slice a_0 (List.length p0.Cells) c_0, .slice a_1 (List.length p0.Wet) c_1, .int .i64 p0.Fuse, .bool p0.Dead]) ag25 sz25 rfl rfl) ⟨rfl, trivial⟩ ⟨rfl, trivial⟩ rfl rfl rfl rfl (fun _ => rfl) fun _ => ?_
      obtain ⟨t4, h5, H⟩ := bnd H
      refine HQ.op [] [2, 3] (OT.call (us := [_]) (Pre := []) [.tmp 24] Try.call11 rfl rfl fun w F hs hF hp => laws_toDisk_c (hb_0.pass hp) (hb_1.pass hp) h5) ⟨rfl, rfl, trivial⟩ trivial rfl rfl rfl rfl (fun _ => rfl) fun ⟨⟨a6, c7⟩, ⟨a8, c9⟩⟩ => ?_
      refine HQ.pu Pu.move ⟨rfl, trivial⟩ rfl rfl rfl ?_
      obtain ⟨t10, h11, H⟩ := bnd H
      refine HQ.op [] [4] (OT.call (us := [_]) (Pre := []) [.tmp 26] Try.call17 rfl rfl fun w F hs hF hp => laws_toIntS_c (hb_2.pass hp) h11) ⟨rfl, rfl, trivial⟩ trivial rfl rfl rfl rfl (fun _ => rfl) fun ⟨a12, c13⟩ => ?_
      refine HQ.pu Pu.move ⟨rfl, trivial⟩ rfl rfl rfl ?_
      obtain ⟨t14, h15, H⟩ := bnd H
      refine HQ.op [2, 3, 4] [5, 6, 2, 3, 4] (OT.call (us := [_, _, _]) (Pre := [OwnS kTCell a6 c7 t4.Cells, OwnS kTWet a8 c9 t4.Wet, OwnS kI a12 c13 t10]) [.tmp 25, .tmp 27, .tmp 28] Try.call16 rfl rfl fun w F hs hF hp => spec_Crash_c (hs.lend hF 0 rfl) (hs.lend hF 1 rfl) (hs.lend hF 2 rfl) h15) ⟨rfl, rfl, rfl, rfl, trivial⟩ ⟨rfl, rfl, rfl, trivial⟩ rfl rfl rfl rfl (fun _ => rfl) fun ⟨⟨a16, c17⟩, ⟨a18, c19⟩⟩ => ?_
      refine HQ.op [] [7] (OT.alloc zc30) trivial trivial rfl rfl rfl rfl (fun _ => rfl) fun b20 => ?_
      refine HQ.opN [7] [7] [] (OT.storeC (cs' := [.slice a16 (List.length t14.Cells) c17, .slice a18 (List.length t14.Wet) c19, .int .i64 t14.Fuse, .bool t14.Dead]) sz30 rfl rfl rfl rfl rfl) ⟨rfl, rfl, trivial⟩ ⟨rfl, trivial⟩ rfl rfl rfl (fun _ => rfl) fun _ => ?_
      refine HQ.done ?_
      refine HQ.keep [(1, _), (2, _), (3, _), (6, _), (8, _)] ⟨rfl, rfl, rfl, rfl, rfl, trivial⟩ ?_
      refine HQ.rseq ?_
      refine HQ.op [1] [1] (OT.loadBA (vs := [.slice a_0 (List.length p0.Cells) c_0, .slice a_1 (List.length p0.Wet) c_1, .int .i64 p0.Fuse, .bool p0.Dead]) ag25 sz25 rfl rfl) ⟨rfl, trivial⟩ ⟨rfl, trivial⟩ rfl rfl rfl rfl (fun _ => rfl) fun _ => ?_
      obtain ⟨t21, h22, H⟩ := bnd H
      refine HQ.op [] [8, 9] (OT.call (us := [_]) (Pre := []) [.tmp 30] Try.call11 rfl rfl fun w F hs hF hp => laws_toDisk_c (hb_0.pass hp) (hb_1.pass hp) h22) ⟨rfl, rfl, trivial⟩ trivial rfl rfl rfl rfl (fun _ => rfl) fun ⟨⟨a23, c24⟩, ⟨a25, c26⟩⟩ => ?_
      refine HQ.op [] [10] (OT.alloc zc30) trivial trivial rfl rfl rfl rfl (fun _ => rfl) fun b27 => ?_
      refine HQ.opN [10] [10] [] (OT.storeC (cs' := [.slice a23 (List.length t21.Cells) c24, .slice a25 (List.length t21.Wet) c26, .int .i64 t21.Fuse, .bool t21.Dead]) sz30 rfl rfl rfl rfl rfl) ⟨rfl, rfl, trivial⟩ ⟨rfl, trivial⟩ rfl rfl rfl (fun _ => rfl) fun _ => ?_
      refine HQ.done ?_
      refine HQ.keep [(1, _), (2, _), (3, _), (6, _), (8, _), (9, _)] ⟨rfl, rfl, rfl, rfl, rfl, rfl, trivial⟩ ?_
      refine HQ.rseq ?_
      refine HQ.pu Pu.move ⟨rfl, trivial⟩ rfl rfl rfl ?_
      obtain ⟨t28, h29, H⟩ := bnd H
      refine HQ.op [] [11] (OT.call (us := [_]) (Pre := []) [.tmp 32] Try.call17 rfl rfl fun w F hs hF hp => laws_toIntS_c (hb_2.pass hp) h29) ⟨rfl, rfl, trivial⟩ trivial rfl rfl rfl rfl (fun _ => rfl) fun ⟨a30, c31⟩ => ?_
      refine HQ.pu Pu.assign ⟨rfl, trivial⟩ rfl rfl rfl ?_
      refine HQ.done ?_
      refine HQ.keep [(1, _), (2, _), (3, _), (6, _), (8, _), (9, _), (10, _)] ⟨rfl, rfl, rfl, rfl, rfl, rfl, rfl, trivial⟩ ?_
      refine HQ.rseq ?_
      refine HQ.op [10] [10] (OT.loadBA (vs := [.slice a23 (List.length t21.Cells) c24, .slice a25 (List.length t21.Wet) c26, .int .i64 t21.Fuse, .bool t21.Dead]) ag30 sz30 rfl rfl) ⟨rfl, trivial⟩ ⟨rfl, trivial⟩ rfl rfl rfl rfl (fun _ => rfl) fun _ => ?_
      refine HQ.pu Pu.move ⟨rfl, trivial⟩ rfl rfl rfl ?_
      refine HQ.pu Pu.move ⟨rfl, trivial⟩ rfl rfl rfl ?_
      obtain ⟨t32, h33, H⟩ := bnd H
      refine HQ.op [8, 9, 11] [12, 13, 8, 9, 11] (OT.call (us := [_, _, _]) (Pre := [OwnS kTCell a23 c24 t21.Cells, OwnS kTWet a25 c26 t21.Wet, OwnS kI a30 c31 t28]) [.tmp 34, .tmp 35, .tmp 36] Try.call18 rfl rfl fun w F hs hF hp => impl_Crash_c (hs.lend hF 0 rfl) (hs.lend hF 1 rfl) (hs.lend hF 2 rfl) h33) ⟨rfl, rfl, rfl, rfl, trivial⟩ ⟨rfl, rfl, rfl, trivial⟩ rfl rfl rfl rfl (fun _ => rfl) fun ⟨⟨a34, c35⟩, ⟨a36, c37⟩⟩ => ?_
      refine HQ.op [] [14] (OT.alloc zc30) trivial trivial rfl rfl rfl rfl (fun _ => rfl) fun b38 => ?_
      refine HQ.opN [14] [14] [] (OT.storeC (cs' := [.slice a34 (List.length t32.Cells) c35, .slice a36 (List.length t32.Wet) c37, .int .i64 t32.Fuse, .bool t32.Dead]) sz30 rfl rfl rfl rfl rfl) ⟨rfl, rfl, trivial⟩ ⟨rfl, trivial⟩ rfl rfl rfl (fun _ => rfl) fun _ => ?_
      refine HQ.done ?_
      refine HQ.keep [(1, _), (2, _), (3, _), (6, _), (8, _), (9, _), (10, _), (11, _)] ⟨rfl, rfl, rfl, rfl, rfl, rfl, rfl, rfl, trivial⟩ ?_
      refine HQ.seq ?_
      refine HQ.rseq ?_
      refine HQ.op [14] [14] (OT.loadBA (vs := [.slice a34 (List.length t32.Cells) c35, .slice a36 (List.length t32.Wet) c37, .int .i64 t32.Fuse, .bool t32.Dead]) ag30 sz30 rfl rfl) ⟨rfl, trivial⟩ ⟨rfl, trivial⟩ rfl rfl rfl rfl (fun _ => rfl) fun _ => ?_
      refine HQ.op [7] [7] (OT.loadBA (vs := [.slice a16 (List.length t14.Cells) c17, .slice a18 (List.length t14.Wet) c19, .int .i64 t14.Fuse, .bool t14.Dead]) ag30 sz30 rfl rfl) ⟨rfl, trivial⟩ ⟨rfl, trivial⟩ rfl rfl rfl rfl (fun _ => rfl) fun _ => ?_
      obtain ⟨t39, h40, H⟩ := bnd H
      refine HQ.op [12, 13, 5, 6] [12, 13, 5, 6] (OT.call (us := [_, _]) (Pre := [OwnS kTCell a34 c35 t32.Cells, OwnS kTWet a36 c37 t32.Wet, OwnS kTCell a16 c17 t14.Cells, OwnS kTWet a18 c19 t14.Wet]) [.tmp 38, .tmp 39] Try.call13 rfl rfl fun w F hs hF hp => laws_eqDisk_c (hs.lend hF 0 rfl) (hs.lend hF 1 rfl) (hs.lend hF 2 rfl) (hs.lend hF 3 rfl) h40) ⟨rfl, rfl, rfl, trivial⟩ ⟨rfl, rfl, rfl, rfl, trivial⟩ rfl rfl rfl rfl (fun _ => rfl) fun _ => ?_
      refine HQ.pu Pu.not ⟨rfl, trivial⟩ rfl rfl rfl ?_
      refine HQ.done ?_
      refine HQ.keep [(1, _), (2, _), (3, _), (6, _), (8, _), (9, _), (10, _), (11, _), (41, _)] ⟨rfl, rfl, rfl, rfl, rfl, rfl, rfl, rfl, rfl, trivial⟩ ?_
      rcases brk H with ⟨hc, H⟩ | ⟨hc, H⟩
      · refine HQ.condT rfl hc ?_
        clear hc
        refine HQ.rseq ?_
        refine HQ.pu Pu.assign ⟨rfl, trivial⟩ rfl rfl rfl ?_
        refine HQ.done ?_
        refine HQ.keep [(1, _), (2, _), (3, _), (6, _), (8, _), (9, _), (10, _), (11, _)] ⟨rfl, rfl, rfl, rfl, rfl, rfl, rfl, rfl, trivial⟩ ?_
        refine HQ.ret ?_
        refine HQ.thenR ?_
        obtain rfl := Option.some.inj H
        exact HQ.fin (vs := [_]) Try.results4 () ⟨rfl, trivial⟩ rfl [] trivial rfl
      · refine HQ.condF rfl hc ?_
        clear hc
        refine HQ.skipThen ?_
        refine HQ.seq ?_
        obtain ⟨t42, h43, H⟩ := bnd H
        refine HQ.drawS mixd [(1, .slice a_2 (List.length p1) c_2), (2, .int .i64 p2), (3, BP b1 0), (6, .bool false), (8, BP b20 0), (9, BP b27 0), (10, .slice a30 (List.length t28) c31), (11, BP b38 0)] 3 [⟨[0], [0], []⟩, ⟨[1], [1], []⟩, ⟨[], [2, 3], [1]⟩] [⟨none, none⟩, ⟨none, none⟩, ⟨some 2, none⟩, ⟨some 2, none⟩] (fun (g41 : ((Option Addr × Nat) × (Option Addr × Nat))) => [.agg #[.slice a23 (List.length t21.Cells) c24, .slice a25 (List.length t21.Wet) c26, .int .i64 t21.Fuse, .bool t21.Dead], .agg #[.slice a_0 (List.length p0.Cells) c_0, .slice a_1 (List.length p0.Wet) c_1, .int .i64 p0.Fuse, .bool p0.Dead], .agg #[.slice g41.1.1 (List.length t42.Cells) g41.1.2, .slice g41.2.1 (List.length t42.Wet) g41.2.2, .int .i64 t42.Fuse, .bool t42.Dead]]) (fun (g41 : ((Option Addr × Nat) × (Option Addr × Nat))) => [Box b27 [.slice a23 (List.length t21.Cells) c24, .slice a25 (List.length t21.Wet) c26, .int .i64 t21.Fuse, .bool t21.Dead], Box b1 [.slice a_0 (List.length p0.Cells) c_0, .slice a_1 (List.length p0.Wet) c_1, .int .i64 p0.Fuse, .bool p0.Dead], OwnS kTCell g41.1.1 g41.1.2 t42.Cells, OwnS kTWet g41.2.1 g41.2.2 t42.Wet]) ((none, 0), (none, 0)) [10, 1] [10, 1, 15, 16] [] ⟨rfl, rfl, rfl, rfl, rfl, rfl, rfl, rfl, trivial⟩ ⟨rfl, rfl, trivial⟩ rfl (by kernel_rfl) (fun _ => rfl) (by kernel_rfl) (fun _ => rfl) ⟨?_, ?_, ?_, trivial⟩ fun g41 => ?_
        · exact OpOK.of (fun g41 => [(.tmp 9, BP b27 0)]) _ _ (fun g41 _ => g41) rfl rfl (fun _ => ⟨rfl, trivial⟩) (fun g41 => OT.loadBA (vs := [.slice a23 (List.length t21.Cells) c24, .slice a25 (List.length t21.Wet) c26, .int .i64 t21.Fuse, .bool t21.Dead]) ag30 sz30 rfl rfl) (fun _ _ => ⟨rfl, rfl, ⟨rfl, rfl, rfl, rfl, trivial⟩⟩)
        · exact OpOK.of (fun g41 => [(.tmp 3, BP b1 0)]) _ _ (fun g41 _ => g41) rfl rfl (fun _ => ⟨rfl, trivial⟩) (fun g41 => OT.loadBA (vs := [.slice a_0 (List.length p0.Cells) c_0, .slice a_1 (List.length p0.Wet) c_1, .int .i64 p0.Fuse, .bool p0.Dead]) ag25 sz25 rfl rfl) (fun _ _ => ⟨rfl, rfl, ⟨rfl, rfl, rfl, rfl, trivial⟩⟩)
        · exact OpOK.of (fun g41 => [(.func 11, .func (.func 11) #[] #[]), (.tmp 43, .agg #[.slice a_0 (List.length p0.Cells) c_0, .slice a_1 (List.length p0.Wet) c_1, .int .i64 p0.Fuse, .bool p0.Dead])]) _ _ (fun g41 x => x) rfl rfl (fun _ => ⟨rfl, rfl, trivial⟩) (fun g41 => OT.call (us := [_]) (Pre := []) [.tmp 43] Try.call11 rfl rfl fun w F hs hF hp => laws_toDisk_c (hb_0.pass hp) (hb_1.pass hp) h43) (fun _ _ => ⟨rfl, rfl, ⟨rfl, rfl, rfl, rfl, trivial⟩⟩)
        refine HQ.keep [(1, _), (2, _), (3, _), (6, _), (8, _), (9, _), (10, _), (11, _), (42, _), (44, _)] ⟨rfl, rfl, rfl, rfl, rfl, rfl, rfl, rfl, rfl, rfl, trivial⟩ ?_
        refine HQ.keepR [(1, _), (2, _), (3, _), (4, _), (5, _), (6, _), (7, _), (8, _), (9, _), (10, _), (11, _), (12, _), (13, _), (14, _), (15, _), (16, _)] ⟨rfl, rfl, rfl, rfl, rfl, rfl, rfl, rfl, rfl, rfl, rfl, rfl, rfl, rfl, rfl, rfl, trivial⟩ rfl ?_
        obtain ⟨t48, h49, H⟩ := bnd H
        refine HQ.op [8, 9, 15, 16] [8, 9, 15, 16] (OT.call (us := [_, _]) (Pre := [OwnS kTCell a23 c24 t21.Cells, OwnS kTWet a25 c26 t21.Wet, OwnS kTCell g41.1.1 g41.1.2 t42.Cells, OwnS kTWet g41.2.1 g41.2.2 t42.Wet]) [.tmp 42, .tmp 44] Try.call13 rfl rfl fun w F hs hF hp => laws_eqDisk_c (hs.lend hF 0 rfl) (hs.lend hF 1 rfl) (hs.lend hF 2 rfl) (hs.lend hF 3 rfl) h49) ⟨rfl, rfl, rfl, trivial⟩ ⟨rfl, rfl, rfl, rfl, trivial⟩ rfl rfl rfl rfl (fun _ => rfl) fun _ => ?_
        refine HQ.pu Pu.not ⟨rfl, trivial⟩ rfl rfl rfl ?_
        refine HQ.done ?_
        refine HQ.keep [(1, _), (2, _), (3, _), (6, _), (8, _), (9, _), (10, _), (11, _), (46, _)] ⟨rfl, rfl, rfl, rfl, rfl, rfl, rfl, rfl, rfl, trivial⟩ ?_
        rcases brk H with ⟨hc, H⟩ | ⟨hc, H⟩
        · refine HQ.condT rfl hc ?_
          clear hc
          refine HQ.rseq ?_
          refine HQ.pu Pu.assign ⟨rfl, trivial⟩ rfl rfl rfl ?_
          refine HQ.done ?_
          refine HQ.keep [(1, _), (2, _), (3, _), (6, _), (8, _), (9, _), (10, _), (11, _)] ⟨rfl, rfl, rfl, rfl, rfl, rfl, rfl, rfl, trivial⟩ ?_
          refine HQ.ret ?_
          refine HQ.thenR ?_
          obtain rfl := Option.some.inj H
          exact HQ.fin (vs := [_]) Try.results4 () ⟨rfl, trivial⟩ rfl [] trivial rfl
        · refine HQ.condF rfl hc ?_
          clear hc
          refine HQ.skipThen ?_
          refine HQ.seq ?_
          refine HQ.rseq ?_
          refine HQ.pu Pu.move ⟨rfl, trivial⟩ rfl rfl rfl ?_
          refine HQ.pu Pu.move ⟨rfl, trivial⟩ rfl rfl rfl ?_
          obtain ⟨t50, h51, H⟩ := bnd H
          refine HQ.op [] [17] (OT.call (us := [_]) (Pre := []) [.tmp 48] Try.call17 rfl rfl fun w F hs hF hp => laws_toIntS_c (hb_2.pass hp) h51) ⟨rfl, rfl, trivial⟩ trivial rfl rfl rfl rfl (fun _ => rfl) fun ⟨a52, c53⟩ => ?_
          obtain ⟨t54, h55, H⟩ := bnd H
          refine HQ.op [11, 17] [11, 17] (OT.call (us := [_, _]) (Pre := [OwnS kI a30 c31 t28, OwnS kI a52 c53 t50]) [.tmp 47, .tmp 49] Try.call19 rfl rfl fun w F hs hF hp => laws_eqIntS_c (hs.lend hF 0 rfl) (hs.lend hF 1 rfl) h55) ⟨rfl, rfl, rfl, trivial⟩ ⟨rfl, rfl, trivial⟩ rfl rfl rfl rfl (fun _ => rfl) fun _ => ?_
          refine HQ.pu Pu.not ⟨rfl, trivial⟩ rfl rfl rfl ?_
          refine HQ.done ?_
          refine HQ.keep [(1, _), (2, _), (3, _), (6, _), (8, _), (9, _), (10, _), (11, _), (51, _)] ⟨rfl, rfl, rfl, rfl, rfl, rfl, rfl, rfl, rfl, trivial⟩ ?_
          rcases brk H with ⟨hc, H⟩ | ⟨hc, H⟩
          · refine HQ.condT rfl hc ?_
            clear hc
            refine HQ.rseq ?_
            refine HQ.pu Pu.assign ⟨rfl, trivial⟩ rfl rfl rfl ?_
            refine HQ.done ?_
            refine HQ.keep [(1, _), (2, _), (3, _), (6, _), (8, _), (9, _), (10, _), (11, _)] ⟨rfl, rfl, rfl, rfl, rfl, rfl, rfl, rfl, trivial⟩ ?_
            refine HQ.ret ?_
            refine HQ.thenR ?_
            obtain rfl := Option.some.inj H
            exact HQ.fin (vs := [_]) Try.results4 () ⟨rfl, trivial⟩ rfl [] trivial rfl
          · refine HQ.condF rfl hc ?_
            clear hc
            refine HQ.skipThen ?_
            refine HQ.rseq ?_
            refine HQ.pu Pu.assign ⟨rfl, trivial⟩ rfl rfl rfl ?_
            refine HQ.done ?_
            refine HQ.keep [(1, _), (2, _), (3, _), (6, _), (8, _), (9, _), (10, _), (11, _), (12, _)] ⟨rfl, rfl, rfl, rfl, rfl, rfl, rfl, rfl, rfl, trivial⟩ ?_
            refine HQ.rseq ?_
            refine HQ.op [10] [10] (OT.loadBA (vs := [.slice a23 (List.length t21.Cells) c24, .slice a25 (List.length t21.Wet) c26, .int .i64 t21.Fuse, .bool t21.Dead]) ag30 sz30 rfl rfl) ⟨rfl, trivial⟩ ⟨rfl, trivial⟩ rfl rfl rfl rfl (fun _ => rfl) fun _ => ?_
            refine HQ.pu Pu.move ⟨rfl, trivial⟩ rfl rfl rfl ?_
            obtain ⟨t56, h57, H⟩ := bnd H
            obtain ⟨h58, H⟩ := asr H
            obtain ⟨h59, H⟩ := asr H
            refine HQ.op [8, 9] [8, 9] (OT.callM (us := [_, _]) (PreX := [OwnS kTCell a23 c24 t21.Cells, OwnS kTWet a25 c26 t21.Wet]) (PreL := []) [.tmp 52, .tmp 53] Try.call14 rfl rfl fun w FX FL hs1 hF1 hs2 hF2 hp => laws_markDisk_c (p0 := t21) (p1 := 1) hs1 hF1 h57) ⟨rfl, rfl, rfl, trivial⟩ ⟨rfl, rfl, trivial⟩ rfl rfl rfl rfl (fun _ => rfl) fun _ => ?_
            refine HQ.re (v' := .agg #[.slice a23 (List.length t56.2.1) c24, .slice a25 (List.length t56.2.2) c26, .int .i64 t21.Fuse, .bool t21.Dead]) 52 rfl (by simp [h58, h59]) ?_
            refine HQ.reR (B := Box b27 [.slice a23 (List.length t56.2.1) c24, .slice a25 (List.length t56.2.2) c26, .int .i64 t21.Fuse, .bool t21.Dead]) 10 rfl (fun _ _ hb => by rw [show List.length t56.2.1 = List.length t21.Cells from (by simp [h58, h59]), show List.length t56.2.2 = List.length t21.Wet from (by simp [h58, h59])]; exact hb) ?_
            refine HQ.pu Pu.assign ⟨rfl, trivial⟩ rfl rfl rfl ?_
            refine HQ.done ?_
            refine HQ.keep [(1, _), (2, _), (3, _), (6, _), (8, _), (10, _), (11, _), (12, _)] ⟨rfl, rfl, rfl, rfl, rfl, rfl, rfl, rfl, trivial⟩ ?_
            refine HQ.rseq ?_
            refine HQ.pu Pu.move ⟨rfl, trivial⟩ rfl rfl rfl ?_
            refine HQ.pu Pu.move ⟨rfl, trivial⟩ rfl rfl rfl ?_
            obtain ⟨t60, h61, H⟩ := bnd H
            obtain ⟨h62, H⟩ := asr H
            refine HQ.op [11] [11] (OT.callM (us := [_, _]) (PreX := [OwnS kI a30 c31 t28]) (PreL := []) [.tmp 55, .tmp 56] Try.call20 rfl rfl fun w FX FL hs1 hF1 hs2 hF2 hp => laws_markIntS_c (p0 := t28) (p1 := t56.1) hs1 hF1 h61) ⟨rfl, rfl, rfl, trivial⟩ ⟨rfl, trivial⟩ rfl rfl rfl rfl (fun _ => rfl) fun _ => ?_
            refine HQ.re (v' := .slice a30 (List.length t60.2) c31) 10 rfl (by simp [h58, h59, h62]) ?_
            refine HQ.re (v' := .slice a30 (List.length t60.2) c31) 55 rfl (by simp [h58, h59, h62]) ?_
            refine HQ.pu Pu.assign ⟨rfl, trivial⟩ rfl rfl rfl ?_
            refine HQ.done ?_
            refine HQ.keep [(1, _), (2, _), (3, _), (6, _), (8, _), (11, _), (12, _)] ⟨rfl, rfl, rfl, rfl, rfl, rfl, rfl, trivial⟩ ?_
            refine HQ.seq ?_
            refine HQ.rseq ?_
            refine HQ.pu Pu.move ⟨rfl, trivial⟩ rfl rfl rfl ?_
            refine HQ.pu Pu.lss ⟨rfl, rfl, trivial⟩ rfl rfl rfl ?_
            refine HQ.pu Pu.move ⟨rfl, trivial⟩ rfl rfl rfl ?_
            obtain ⟨c66, h67, H⟩ := bnd H
            refine HQ.cutAt 5 [(65, .bool c66), (1, .slice a_2 (List.length p1) c_2), (2, .int .i64 p2), (3, BP b1 0), (6, .bool false), (8, BP b20 0), (11, BP b38 0)] [(1, Box b1 [.slice a_0 (List.length p0.Cells) c_0, .slice a_1 (List.length p0.Wet) c_1, .int .i64 p0.Fuse, .bool p0.Dead]), (2, OwnS kTCell a6 c7 t4.Cells), (3, OwnS kTWet a8 c9 t4.Wet), (4, OwnS kI a12 c13 t10), (5, OwnS kTCell a16 c17 t14.Cells), (6, OwnS kTWet a18 c19 t14.Wet), (7, Box b20 [.slice a16 (List.length t14.Cells) c17, .slice a18 (List.length t14.Wet) c19, .int .i64 t14.Fuse, .bool t14.Dead]), (8, OwnS kTCell a23 c24 t56.2.1), (9, OwnS kTWet a25 c26 t56.2.2), (10, Box b27 [.slice a23 (List.length t56.2.1) c24, .slice a25 (List.length t56.2.2) c26, .int .i64 t21.Fuse, .bool t21.Dead]), (11, OwnS kI a30 c31 t60.2), (12, OwnS kTCell a34 c35 t32.Cells), (13, OwnS kTWet a36 c37 t32.Wet), (14, Box b38 [.slice a34 (List.length t32.Cells) c35, .slice a36 (List.length t32.Wet) c37, .int .i64 t32.Fuse, .bool t32.Dead]), (15, OwnS kTCell g41.1.1 g41.1.2 t42.Cells), (16, OwnS kTWet g41.2.1 g41.2.2 t42.Wet), (17, OwnS kI a52 c53 t50)] ?_ ?_
            · clear H
              have H := h67
              rcases brk H with ⟨hg63, H⟩ | ⟨hg63, H⟩
              · obtain rfl := Option.some.inj H
                refine HQ.off rfl rfl hg63 rfl ?_
                refine HQ.off rfl rfl hg63 rfl ?_
                refine HQ.off rfl rfl hg63 rfl ?_
                refine HQ.off rfl rfl hg63 rfl ?_
                refine HQ.pu (Pu.pickC1 hg63) ⟨rfl, rfl, trivial⟩ rfl rfl rfl ?_
                exact HQ.mid ⟨rfl, rfl, rfl, rfl, rfl, rfl, rfl, trivial⟩ ⟨rfl, rfl, rfl, rfl, rfl, rfl, rfl, rfl, rfl, rfl, rfl, rfl, rfl, rfl, rfl, rfl, rfl, trivial⟩ rfl
              · refine HQ.on rfl rfl hg63 ?_
                refine HQ.op [14] [14] (OT.loadBA (vs := [.slice a34 (List.length t32.Cells) c35, .slice a36 (List.length t32.Wet) c37, .int .i64 t32.Fuse, .bool t32.Dead]) ag30 sz30 rfl rfl) ⟨rfl, trivial⟩ ⟨rfl, trivial⟩ rfl rfl rfl rfl (fun _ => rfl) fun _ => ?_
                refine HQ.on rfl rfl hg63 ?_
                refine HQ.op [7] [7] (OT.loadBA (vs := [.slice a16 (List.length t14.Cells) c17, .slice a18 (List.length t14.Wet) c19, .int .i64 t14.Fuse, .bool t14.Dead]) ag30 sz30 rfl rfl) ⟨rfl, trivial⟩ ⟨rfl, trivial⟩ rfl rfl rfl rfl (fun _ => rfl) fun _ => ?_
                refine HQ.on rfl rfl hg63 ?_
                obtain ⟨t64, h65, H⟩ := bnd H
                refine HQ.op [12, 13, 5, 6] [12, 13, 5, 6] (OT.call (us := [_, _]) (Pre := [OwnS kTCell a34 c35 t32.Cells, OwnS kTWet a36 c37 t32.Wet, OwnS kTCell a16 c17 t14.Cells, OwnS kTWet a18 c19 t14.Wet]) [.tmp 61, .tmp 62] Try.call13 rfl rfl fun w F hs hF hp => laws_eqDisk_c (hs.lend hF 0 rfl) (hs.lend hF 1 rfl) (hs.lend hF 2 rfl) (hs.lend hF 3 rfl) h65) ⟨rfl, rfl, rfl, trivial⟩ ⟨rfl, rfl, rfl, rfl, trivial⟩ rfl rfl rfl rfl (fun _ => rfl) fun _ => ?_
                refine HQ.on rfl rfl hg63 ?_
                refine HQ.pu Pu.not ⟨rfl, trivial⟩ rfl rfl rfl ?_
                obtain rfl := Option.some.inj H
                refine HQ.pu (Pu.pickC0 hg63) ⟨rfl, rfl, trivial⟩ rfl rfl rfl ?_
                exact HQ.mid ⟨rfl, rfl, rfl, rfl, rfl, rfl, rfl, trivial⟩ ⟨rfl, rfl, rfl, rfl, rfl, rfl, rfl, rfl, rfl, rfl, rfl, rfl, rfl, rfl, rfl, rfl, rfl, trivial⟩ rfl
            refine HQ.done ?_
            refine HQ.keep [(65, _), (1, _), (2, _), (3, _), (6, _), (8, _), (11, _)] ⟨rfl, rfl, rfl, rfl, rfl, rfl, rfl, trivial⟩ ?_
            rcases brk H with ⟨hc, H⟩ | ⟨hc, H⟩
            · refine HQ.condT rfl hc ?_
              clear hc
              refine HQ.rseq ?_
              refine HQ.pu Pu.assign ⟨rfl, trivial⟩ rfl rfl rfl ?_
              refine HQ.done ?_
              refine HQ.keep [(1, _), (2, _), (3, _), (6, _), (8, _), (11, _)] ⟨rfl, rfl, rfl, rfl, rfl, rfl, trivial⟩ ?_
              refine HQ.ret ?_
              refine HQ.thenR ?_
              obtain rfl := Option.some.inj H
              exact HQ.fin (vs := [_]) Try.results4 () ⟨rfl, trivial⟩ rfl [] trivial rfl
            · refine HQ.condF rfl hc ?_
              clear hc
              refine HQ.skipThen ?_
              refine HQ.rseq ?_
              refine HQ.pu Pu.assign ⟨rfl, trivial⟩ rfl rfl rfl ?_
              refine HQ.done ?_
              refine HQ.keep [(1, _), (2, _), (3, _), (6, _), (8, _), (11, _), (13, _)] ⟨rfl, rfl, rfl, rfl, rfl, rfl, rfl, trivial⟩ ?_
              refine HQ.rseq ?_
              refine HQ.op [14] [14] (OT.loadBA (vs := [.slice a34 (List.length t32.Cells) c35, .slice a36 (List.length t32.Wet) c37, .int .i64 t32.Fuse, .bool t32.Dead]) ag30 sz30 rfl rfl) ⟨rfl, trivial⟩ ⟨rfl, trivial⟩ rfl rfl rfl rfl (fun _ => rfl) fun _ => ?_
              refine HQ.pu Pu.move ⟨rfl, trivial⟩ rfl rfl rfl ?_
              obtain ⟨t68, h69, H⟩ := bnd H
              obtain ⟨h70, H⟩ := asr H
              obtain ⟨h71, H⟩ := asr H
              refine HQ.op [12, 13] [12, 13] (OT.callM (us := [_, _]) (PreX := [OwnS kTCell a34 c35 t32.Cells, OwnS kTWet a36 c37 t32.Wet]) (PreL := []) [.tmp 66, .tmp 67] Try.call14 rfl rfl fun w FX FL hs1 hF1 hs2 hF2 hp => laws_markDisk_c (p0 := t32) (p1 := 1) hs1 hF1 h69) ⟨rfl, rfl, rfl, trivial⟩ ⟨rfl, rfl, trivial⟩ rfl rfl rfl rfl (fun _ => rfl) fun _ => ?_
              refine HQ.re (v' := .agg #[.slice a34 (List.length t68.2.1) c35, .slice a36 (List.length t68.2.2) c37, .int .i64 t32.Fuse, .bool t32.Dead]) 66 rfl (by simp [h58, h59, h62, h70, h71]) ?_
              refine HQ.reR (B := Box b38 [.slice a34 (List.length t68.2.1) c35, .slice a36 (List.length t68.2.2) c37, .int .i64 t32.Fuse, .bool t32.Dead]) 14 rfl (fun _ _ hb => by rw [show List.length t68.2.1 = List.length t32.Cells from (by simp [h58, h59, h62, h70, h71]), show List.length t68.2.2 = List.length t32.Wet from (by simp [h58, h59, h62, h70, h71])]; exact hb) ?_
              refine HQ.pu Pu.assign ⟨rfl, trivial⟩ rfl rfl rfl ?_
              refine HQ.done ?_
              refine HQ.keep [(1, _), (2, _), (3, _), (6, _), (8, _), (11, _), (13, _)] ⟨rfl, rfl, rfl, rfl, rfl, rfl, rfl, trivial⟩ ?_
              refine HQ.rseq ?_
              refine HQ.pu Pu.assign ⟨rfl, trivial⟩ rfl rfl rfl ?_
              refine HQ.done ?_
              refine HQ.keep [(1, _), (2, _), (3, _), (6, _), (8, _), (11, _), (13, _), (14, _)] ⟨rfl, rfl, rfl, rfl, rfl, rfl, rfl, rfl, trivial⟩ ?_
              refine HQ.rseq ?_
              refine HQ.op [14] [14] (OT.loadBA (vs := [.slice a34 (List.length t68.2.1) c35, .slice a36 (List.length t68.2.2) c37, .int .i64 t32.Fuse, .bool t32.Dead]) ag30 sz30 rfl rfl) ⟨rfl, trivial⟩ ⟨rfl, trivial⟩ rfl rfl rfl rfl (fun _ => rfl) fun _ => ?_
              refine HQ.pu Pu.move ⟨rfl, trivial⟩ rfl rfl rfl ?_
              obtain ⟨t72, h73, H⟩ := bnd H
              refine HQ.op [12, 13] [12, 13] (OT.call (us := [_, _]) (Pre := [OwnS kTCell a34 c35 t68.2.1, OwnS kTWet a36 c37 t68.2.2]) [.tmp 69, .tmp 70] Try.call15 rfl rfl fun w F hs hF hp => laws_heldDisk_c (hs.lend hF 0 rfl) (hs.lend hF 1 rfl) h73) ⟨rfl, rfl, rfl, trivial⟩ ⟨rfl, rfl, trivial⟩ rfl rfl rfl rfl (fun _ => rfl) fun _ => ?_
              refine HQ.pu Pu.assign ⟨rfl, trivial⟩ rfl rfl rfl ?_
              refine HQ.done ?_
              refine HQ.keep [(1, _), (2, _), (3, _), (6, _), (8, _), (11, _), (13, _), (14, _)] ⟨rfl, rfl, rfl, rfl, rfl, rfl, rfl, rfl, trivial⟩ ?_
              refine HQ.seq ?_
              refine HQ.rseq ?_
              refine HQ.pu Pu.move ⟨rfl, trivial⟩ rfl rfl rfl ?_
              refine HQ.pu Pu.lss ⟨rfl, rfl, trivial⟩ rfl rfl rfl ?_
              refine HQ.done ?_
              refine HQ.keep [(1, _), (2, _), (3, _), (6, _), (8, _), (11, _), (13, _), (14, _), (73, _)] ⟨rfl, rfl, rfl, rfl, rfl, rfl, rfl, rfl, rfl, trivial⟩ ?_
              rcases brk H with ⟨hc, H⟩ | ⟨hc, H⟩
              · refine HQ.condT rfl hc ?_
                clear hc
                refine HQ.rseq ?_
                refine HQ.pu Pu.assign ⟨rfl, trivial⟩ rfl rfl rfl ?_
                refine HQ.done ?_
                refine HQ.keep [(1, _), (2, _), (3, _), (6, _), (8, _), (11, _), (13, _), (14, _)] ⟨rfl, rfl, rfl, rfl, rfl, rfl, rfl, rfl, trivial⟩ ?_
                refine HQ.ret ?_
                refine HQ.thenR ?_
                obtain rfl := Option.some.inj H
                exact HQ.fin (vs := [_]) Try.results4 () ⟨rfl, trivial⟩ rfl [] trivial rfl
              · refine HQ.condF rfl hc ?_
                clear hc
                refine HQ.skipThen ?_
                refine HQ.seq ?_
                refine HQ.rseq ?_
                refine HQ.pu Pu.move ⟨rfl, trivial⟩ rfl rfl rfl ?_
                refine HQ.pu Pu.move ⟨rfl, trivial⟩ rfl rfl rfl ?_
                refine HQ.pu Pu.neq ⟨rfl, rfl, trivial⟩ rfl rfl rfl ?_
                refine HQ.done ?_
                refine HQ.keep [(1, _), (2, _), (3, _), (6, _), (8, _), (11, _), (13, _), (76, _)] ⟨rfl, rfl, rfl, rfl, rfl, rfl, rfl, rfl, trivial⟩ ?_
                rcases brk H with ⟨hc, H⟩ | ⟨hc, H⟩
                · refine HQ.condT rfl hc ?_
                  clear hc
                  refine HQ.rseq ?_
                  refine HQ.pu Pu.assign ⟨rfl, trivial⟩ rfl rfl rfl ?_
                  refine HQ.done ?_
                  refine HQ.keep [(1, _), (2, _), (3, _), (6, _), (8, _), (11, _), (13, _)] ⟨rfl, rfl, rfl, rfl, rfl, rfl, rfl, trivial⟩ ?_
                  refine HQ.ret ?_
                  refine HQ.thenR ?_
                  obtain rfl := Option.some.inj H
                  exact HQ.fin (vs := [_]) Try.results4 () ⟨rfl, trivial⟩ rfl [] trivial rfl
                · refine HQ.condF rfl hc ?_
                  clear hc
                  refine HQ.skipThen ?_
                  refine HQ.rseq ?_
                  refine HQ.op [1] [1] (OT.loadBA (vs := [.slice a_0 (List.length p0.Cells) c_0, .slice a_1 (List.length p0.Wet) c_1, .int .i64 p0.Fuse, .bool p0.Dead]) ag25 sz25 rfl rfl) ⟨rfl, trivial⟩ ⟨rfl, trivial⟩ rfl rfl rfl rfl (fun _ => rfl) fun _ => ?_
                  obtain ⟨t74, h75, H⟩ := bnd H
                  refine HQ.op [] [18, 19] (OT.call (us := [_]) (Pre := []) [.tmp 77] Try.call11 rfl rfl fun w F hs hF hp => laws_toDisk_c (hb_0.pass hp) (hb_1.pass hp) h75) ⟨rfl, rfl, trivial⟩ trivial rfl rfl rfl rfl (fun _ => rfl) fun ⟨⟨a76, c77⟩, ⟨a78, c79⟩⟩ => ?_
                  refine HQ.pu Pu.move ⟨rfl, trivial⟩ rfl rfl rfl ?_
                  obtain ⟨t80, h81, H⟩ := bnd H
                  refine HQ.op [] [20] (OT.call (us := [_]) (Pre := []) [.tmp 79] Try.call17 rfl rfl fun w F hs hF hp => laws_toIntS_c (hb_2.pass hp) h81) ⟨rfl, rfl, trivial⟩ trivial rfl rfl rfl rfl (fun _ => rfl) fun ⟨a82, c83⟩ => ?_
                  refine HQ.pu Pu.move ⟨rfl, trivial⟩ rfl rfl rfl ?_
                  obtain ⟨t84, h85, H⟩ := bnd H
                  refine HQ.op [18, 19, 20] [21, 22, 18, 19, 20] (OT.call (us := [_, _, _]) (Pre := [OwnS kTCell a76 c77 t74.Cells, OwnS kTWet a78 c79 t74.Wet, OwnS kI a82 c83 t80]) [.tmp 78, .tmp 80, .tmp 81] Try.call18 rfl rfl fun w F hs hF hp => impl_Crash_c (hs.lend hF 0 rfl) (hs.lend hF 1 rfl) (hs.lend hF 2 rfl) h85) ⟨rfl, rfl, rfl, rfl, trivial⟩ ⟨rfl, rfl, rfl, trivial⟩ rfl rfl rfl rfl (fun _ => rfl) fun ⟨⟨a86, c87⟩, ⟨a88, c89⟩⟩ => ?_
                  refine HQ.op [] [23] (OT.alloc zc30) trivial trivial rfl rfl rfl rfl (fun _ => rfl) fun b90 => ?_
                  refine HQ.opN [23] [23] [] (OT.storeC (cs' := [.slice a86 (List.length t84.Cells) c87, .slice a88 (List.length t84.Wet) c89, .int .i64 t84.Fuse, .bool t84.Dead]) sz30 rfl rfl rfl rfl rfl) ⟨rfl, rfl, trivial⟩ ⟨rfl, trivial⟩ rfl rfl rfl (fun _ => rfl) fun _ => ?_
                  refine HQ.done ?_
                  refine HQ.keep [(6, _), (8, _), (11, _), (13, _), (15, _)] ⟨rfl, rfl, rfl, rfl, rfl, trivial⟩ ?_
                  refine HQ.seq ?_
                  refine HQ.rseq ?_
                  refine HQ.op [23] [23] (OT.loadBA (vs := [.slice a86 (List.length t84.Cells) c87, .slice a88 (List.length t84.Wet) c89, .int .i64 t84.Fuse, .bool t84.Dead]) ag30 sz30 rfl rfl) ⟨rfl, trivial⟩ ⟨rfl, trivial⟩ rfl rfl rfl rfl (fun _ => rfl) fun _ => ?_
                  refine HQ.op [7] [7] (OT.loadBA (vs := [.slice a16 (List.length t14.Cells) c17, .slice a18 (List.length t14.Wet) c19, .int .i64 t14.Fuse, .bool t14.Dead]) ag30 sz30 rfl rfl) ⟨rfl, trivial⟩ ⟨rfl, trivial⟩ rfl rfl rfl rfl (fun _ => rfl) fun _ => ?_
                  obtain ⟨t91, h92, H⟩ := bnd H
                  refine HQ.op [21, 22, 5, 6] [21, 22, 5, 6] (OT.call (us := [_, _]) (Pre := [OwnS kTCell a86 c87 t84.Cells, OwnS kTWet a88 c89 t84.Wet, OwnS kTCell a16 c17 t14.Cells, OwnS kTWet a18 c19 t14.Wet]) [.tmp 83, .tmp 84] Try.call13 rfl rfl fun w F hs hF hp => laws_eqDisk_c (hs.lend hF 0 rfl) (hs.lend hF 1 rfl) (hs.lend hF 2 rfl) (hs.lend hF 3 rfl) h92) ⟨rfl, rfl, rfl, trivial⟩ ⟨rfl, rfl, rfl, rfl, trivial⟩ rfl rfl rfl rfl (fun _ => rfl) fun _ => ?_
                  refine HQ.pu Pu.not ⟨rfl, trivial⟩ rfl rfl rfl ?_
                  refine HQ.done ?_
                  refine HQ.keep [(6, _), (11, _), (13, _), (86, _)] ⟨rfl, rfl, rfl, rfl, trivial⟩ ?_
                  rcases brk H with ⟨hc, H⟩ | ⟨hc, H⟩
                  · refine HQ.condT rfl hc ?_
                    clear hc
                    refine HQ.rseq ?_
                    refine HQ.pu Pu.assign ⟨rfl, trivial⟩ rfl rfl rfl ?_
                    refine HQ.done ?_
                    refine HQ.keep [(6, _), (11, _), (13, _)] ⟨rfl, rfl, rfl, trivial⟩ ?_
                    refine HQ.ret ?_
                    refine HQ.thenR ?_
                    obtain rfl := Option.some.inj H
                    exact HQ.fin (vs := [_]) Try.results4 () ⟨rfl, trivial⟩ rfl [] trivial rfl
                  · refine HQ.condF rfl hc ?_
                    clear hc
                    refine HQ.skipThen ?_
                    refine HQ.rseq ?_
                    refine HQ.pu Pu.assign ⟨rfl, trivial⟩ rfl rfl rfl ?_
                    refine HQ.done ?_
                    refine HQ.keep [(6, _), (11, _), (13, _), (14, _)] ⟨rfl, rfl, rfl, rfl, trivial⟩ ?_
                    refine HQ.rseq ?_
                    refine HQ.op [14] [14] (OT.loadBA (vs := [.slice a34 (List.length t68.2.1) c35, .slice a36 (List.length t68.2.2) c37, .int .i64 t32.Fuse, .bool t32.Dead]) ag30 sz30 rfl rfl) ⟨rfl, trivial⟩ ⟨rfl, trivial⟩ rfl rfl rfl rfl (fun _ => rfl) fun _ => ?_
                    refine HQ.pu Pu.move ⟨rfl, trivial⟩ rfl rfl rfl ?_
                    obtain ⟨t93, h94, H⟩ := bnd H
                    refine HQ.op [12, 13] [12, 13] (OT.call (us := [_, _]) (Pre := [OwnS kTCell a34 c35 t68.2.1, OwnS kTWet a36 c37 t68.2.2]) [.tmp 87, .tmp 88] Try.call15 rfl rfl fun w F hs hF hp => laws_heldDisk_c (hs.lend hF 0 rfl) (hs.lend hF 1 rfl) h94) ⟨rfl, rfl, rfl, trivial⟩ ⟨rfl, rfl, trivial⟩ rfl rfl rfl rfl (fun _ => rfl) fun _ => ?_
                    refine HQ.pu Pu.assign ⟨rfl, trivial⟩ rfl rfl rfl ?_
                    refine HQ.done ?_
                    refine HQ.keep [(6, _), (13, _), (14, _)] ⟨rfl, rfl, rfl, trivial⟩ ?_
                    refine HQ.seq ?_
                    refine HQ.rseq ?_
                    refine HQ.pu Pu.move ⟨rfl, trivial⟩ rfl rfl rfl ?_
                    refine HQ.pu Pu.lss ⟨rfl, rfl, trivial⟩ rfl rfl rfl ?_
                    refine HQ.done ?_
                    refine HQ.keep [(6, _), (13, _), (14, _), (91, _)] ⟨rfl, rfl, rfl, rfl, trivial⟩ ?_
                    rcases brk H with ⟨hc, H⟩ | ⟨hc, H⟩
                    · refine HQ.condT rfl hc ?_
                      clear hc
                      refine HQ.rseq ?_
                      refine HQ.pu Pu.assign ⟨rfl, trivial⟩ rfl rfl rfl ?_
                      refine HQ.done ?_
                      refine HQ.keep [(6, _), (13, _), (14, _)] ⟨rfl, rfl, rfl, trivial⟩ ?_
                      refine HQ.ret ?_
                      refine HQ.thenR ?_
                      obtain rfl := Option.some.inj H
                      exact HQ.fin (vs := [_]) Try.results4 () ⟨rfl, trivial⟩ rfl [] trivial rfl
                    · refine HQ.condF rfl hc ?_
                      clear hc
                      refine HQ.skipThen ?_
                      refine HQ.seq ?_
                      refine HQ.rseq ?_
                      refine HQ.pu Pu.move ⟨rfl, trivial⟩ rfl rfl rfl ?_
                      refine HQ.pu Pu.move ⟨rfl, trivial⟩ rfl rfl rfl ?_
                      refine HQ.pu Pu.neq ⟨rfl, rfl, trivial⟩ rfl rfl rfl ?_
                      refine HQ.done ?_
                      refine HQ.keep [(6, _), (94, _)] ⟨rfl, rfl, trivial⟩ ?_
                      rcases brk H with ⟨hc, H⟩ | ⟨hc, H⟩
                      · refine HQ.condT rfl hc ?_
                        clear hc
                        refine HQ.rseq ?_
                        refine HQ.pu Pu.assign ⟨rfl, trivial⟩ rfl rfl rfl ?_
                        refine HQ.done ?_
                        refine HQ.keep [(6, _)] ⟨rfl, trivial⟩ ?_
                        refine HQ.ret ?_
                        refine HQ.thenR ?_
                        obtain rfl := Option.some.inj H
                        exact HQ.fin (vs := [_]) Try.results4 () ⟨rfl, trivial⟩ rfl [] trivial rfl
                      · refine HQ.condF rfl hc ?_
                        clear hc
                        refine HQ.skipThen ?_
                        refine HQ.rseq ?_
                        refine HQ.pu Pu.assign ⟨rfl, trivial⟩ rfl rfl rfl ?_
                        refine HQ.done ?_
                        refine HQ.keep [(6, _)] ⟨rfl, trivial⟩ ?_
                        refine HQ.ret ?_
                        obtain rfl := Option.some.inj H
                        exact HQ.fin (vs := [_]) Try.results4 () ⟨rfl, trivial⟩ rfl [] trivial rfl

end Go.Proofs.Sx
