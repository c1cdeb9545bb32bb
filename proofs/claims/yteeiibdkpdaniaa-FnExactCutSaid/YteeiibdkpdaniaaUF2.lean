import Derived.Test.YteeiibdkpdaniaaUF1
import Derived.KernelRfl
namespace Go.Proofs.Sx
open Go.RowKit
set_option linter.unusedVariables false
set_option linter.unusedSimpArgs false
set_option maxRecDepth 20000
set_option maxHeartbeats 1000000
/-! spec.l7Copy -/
theorem spec_l7Copy_c {w : World} {k : Nat} {p0 : TBook} {a_0 : Option Addr} {c_0 : Nat} (hb_0 : BorS kTPage a_0 c_0 p0.L w.heap (Lt w Nil)) {r : TBook} (H : spec_l7Copy k p0 = some r) :
    Calls Try.prog 80 #[.agg #[.int .i64 p0.Root, .slice a_0 (List.length p0.L) c_0]] w (Rt w Nil (fun g : Option Addr × Nat => .agg #[.int .i64 r.Root, .slice g.1 (List.length r.L) g.2]) (fun g => [OwnS kTPage g.1 g.2 r.L])) := by
  rw [spec_l7Copy] at H
  refine Calls.enter0 (N := 36) (us := [_]) Try.func80 rfl rfl rfl ?_
  refine HQ.rseq ?_
  refine HQ.op [] [1] (OT.box (cs := [.int .i64 p0.Root, .slice a_0 (List.length p0.L) c_0]) rfl) ⟨rfl, trivial⟩ trivial rfl rfl rfl rfl (fun _ => rfl) fun b1 => ?_
  refine HQ.op [] [2] (OT.alloc zc84) trivial trivial rfl rfl rfl rfl (fun _ => rfl) fun b2 => ?_
  refine HQ.done ?_
  refine HQ.keep [(1, _), (2, _)] ⟨rfl, rfl, trivial⟩ ?_
  refine HQ.rseq ?_
  refine HQ.pu (Pu.fieldB fo84_0 rfl) ⟨rfl, trivial⟩ rfl rfl rfl ?_
  refine HQ.op [1] [1] (OT.loadB sc3 rfl) ⟨rfl, trivial⟩ ⟨rfl, trivial⟩ rfl rfl rfl rfl (fun _ => rfl) fun _ => ?_
  refine HQ.op [] [3] (OT.buildE (K := kTPage) sl82.ul sl82.szE sl82.zc rfl rfl) trivial trivial rfl rfl rfl rfl (fun _ => rfl) fun ⟨a3, c4⟩ => ?_
  refine HQ.pu (Pu.build (us := [.int .i64 p0.Root, .slice a3 (List.length ([] : (List TPage))) c4]) (cs := [.int .i64 p0.Root, .slice a3 (List.length ([] : (List TPage))) c4]) [(0, .tmp 6), (1, .tmp 7)] st84 rfl rfl rfl) ⟨rfl, rfl, trivial⟩ rfl rfl rfl ?_
  refine HQ.op [] [4] (OT.alloc zc84) trivial trivial rfl rfl rfl rfl (fun _ => rfl) fun b5 => ?_
  refine HQ.opN [4] [4] [] (OT.storeC (cs' := [.int .i64 p0.Root, .slice a3 (List.length ([] : (List TPage))) c4]) sz84 rfl rfl rfl rfl rfl) ⟨rfl, rfl, trivial⟩ ⟨rfl, trivial⟩ rfl rfl rfl (fun _ => rfl) fun _ => ?_
  refine HQ.done ?_
  refine HQ.keep [(1, _), (2, _), (3, _)] ⟨rfl, rfl, rfl, trivial⟩ ?_
  refine HQ.seq ?_
  refine HQ.rseq ?_
  refine HQ.pu Pu.assign ⟨rfl, trivial⟩ rfl rfl rfl ?_
  refine HQ.done ?_
  refine HQ.keep [(1, _), (2, _), (3, _), (4, _)] ⟨rfl, rfl, rfl, rfl, trivial⟩ ?_
  refine HQ.block ?_
  obtain ⟨o70, h75, H⟩ := bnd H
  refine HQ.loop h75 0 (fun (s : Int × (List TPage)) (g : Option Addr × Nat) => match s, g with | (i26, l27), (a28, c29) => [(1, BP b1 0), (2, BP b2 0), (3, BP b5 0), (4, .int .i64 i26)]) (fun (s : Int × (List TPage)) (g : Option Addr × Nat) => match s, g with | (i26, l27), (a28, c29) => [(1, Box b1 [.int .i64 p0.Root, .slice a_0 (List.length p0.L) c_0]), (2, Box b2 [.int .i64 0, .slice none 0 0]), (4, Box b5 [.int .i64 p0.Root, .slice a28 (List.length l27) c29]), (3, OwnS kTPage a28 c29 l27)]) (fun _ _ _ => False) (a3, c4) ⟨rfl, rfl, rfl, rfl, trivial⟩ ⟨rfl, rfl, rfl, rfl, trivial⟩ rfl ?_ ?_ ?_
  · clear H h75
    rintro ⟨i26, l27⟩ ⟨a28, c29⟩ o H
    rw [spec_l7Copy_b0] at H
    refine HQ.keep [(1, _), (2, _), (3, _), (4, _)] ⟨rfl, rfl, rfl, rfl, trivial⟩ ?_
    refine HQ.keepR [(1, _), (2, _), (4, _), (3, _)] ⟨rfl, rfl, rfl, rfl, trivial⟩ rfl ?_
    refine HQ.seq ?_
    refine HQ.rseq ?_
    refine HQ.pu Pu.move ⟨rfl, trivial⟩ rfl rfl rfl ?_
    refine HQ.pu (Pu.fieldB fo84_1 rfl) ⟨rfl, trivial⟩ rfl rfl rfl ?_
    refine HQ.op [1] [1] (OT.loadB sc82 rfl) ⟨rfl, trivial⟩ ⟨rfl, trivial⟩ rfl rfl rfl rfl (fun _ => rfl) fun _ => ?_
    refine HQ.pu (Pu.len ul82) ⟨rfl, trivial⟩ rfl rfl rfl ?_
    refine HQ.pu Pu.lss ⟨rfl, rfl, trivial⟩ rfl rfl rfl ?_
    refine HQ.done ?_
    refine HQ.keep [(1, _), (2, _), (3, _), (4, _), (9, _), (10, _), (11, _), (12, _), (13, _)] ⟨rfl, rfl, rfl, rfl, rfl, rfl, rfl, rfl, rfl, trivial⟩ ?_
    rcases brk H with ⟨hc, H⟩ | ⟨hc, H⟩
    · refine HQ.condT rfl hc ?_
      clear hc
      refine HQ.skipThen ?_
      refine HQ.seq ?_
      refine HQ.block ?_
      refine HQ.dStart mixd ?_
      obtain ⟨h51, H⟩ := asr H
      obtain ⟨h56, H⟩ := asr H
      obtain ⟨t61, h62, H⟩ := bnd H
      obtain ⟨⟨a52, c53⟩, hb54, hn55⟩ := BorS.nest hb_0 h51
      obtain ⟨⟨a57, c58⟩, hb59, hn60⟩ := BorS.nest hb_0 h56
      refine HQ.dPart [(1, BP b1 0), (2, BP b2 0), (3, BP b5 0), (4, .int .i64 i26), (9, .int .i64 i26), (10, BP b1 1), (11, .slice a_0 (List.length p0.L) c_0), (12, .int .i64 ((List.length p0.L : Nat) : Int)), (13, .bool (decide (i26 < ((List.length p0.L : Nat) : Int))))] 17 [⟨[], [], []⟩, ⟨[0], [0], [0]⟩, ⟨[], [], []⟩, ⟨[1], [1], [2]⟩, ⟨[], [], []⟩, ⟨[], [], [3, 4]⟩, ⟨[], [], [5]⟩, ⟨[], [], [6]⟩, ⟨[], [], []⟩, ⟨[1], [1], [8]⟩, ⟨[], [], []⟩, ⟨[], [], [9, 10]⟩, ⟨[], [], [11]⟩, ⟨[], [], [12]⟩, ⟨[], [2], [13]⟩, ⟨[], [], [7, 14]⟩, ⟨[2], [3], [15]⟩] [⟨none, none⟩, ⟨none, none⟩, ⟨some 14, some 16⟩, ⟨some 16, none⟩] (fun (g50 : (Option Addr × Nat) × (Option Addr × Nat)) => [BP b5 1, .slice a28 (List.length l27) c29, BP b1 1, .slice a_0 (List.length p0.L) c_0, .int .i64 i26, EP a_0 i26 3 0, EP a_0 i26 3 0, .bool ((gt p0.L i26).Used), BP b1 1, .slice a_0 (List.length p0.L) c_0, .int .i64 i26, EP a_0 i26 3 0, EP a_0 i26 3 1, .agg #[.bool ((gt p0.L i26).N.Leaf), .slice a57 (List.length ((gt p0.L i26).N.L)) c58], .agg #[.bool t61.Leaf, .slice g50.1.1 (List.length t61.L) g50.1.2], .agg #[.bool ((gt p0.L i26).Used), .bool t61.Leaf, .slice g50.1.1 (List.length t61.L) g50.1.2], .slice g50.2.1 (List.length ([(⟨(gt p0.L i26).Used, t61⟩ : TPage)] : (List TPage))) g50.2.2]) (fun (g50 : (Option Addr × Nat) × (Option Addr × Nat)) => [Box b5 [.int .i64 p0.Root, .slice a28 (List.length l27) c29], Box b1 [.int .i64 p0.Root, .slice a_0 (List.length p0.L) c_0], OwnS kTEntry g50.1.1 g50.1.2 t61.L, OwnS kTPage g50.2.1 g50.2.2 ([(⟨(gt p0.L i26).Used, t61⟩ : TPage)] : (List TPage))]) ((none, 0), (none, 0)) [4, 1] [4, 1, 10] [] ⟨rfl, rfl, rfl, rfl, rfl, rfl, rfl, rfl, rfl, trivial⟩ ⟨rfl, rfl, trivial⟩ rfl (by kernel_rfl) (by kernel_rfl) (fun _ => rfl) (by kernel_rfl) (fun _ => rfl) rfl ⟨?_, ?_, ?_, ?_, ?_, ?_, ?_, ?_, ?_, ?_, ?_, ?_, ?_, ?_, ?_, ?_, ?_, trivial⟩ fun g50 => ?_
      · exact OpOK2.of (fun g50 => [(.tmp 3, BP b5 0)]) _ _ (fun g50 _ => g50) rfl rfl (fun _ => ⟨rfl, trivial⟩) (fun g50 => Pu.toOT (Pu.fieldB fo84_1 rfl)) (fun _ _ => ⟨rfl, rfl, ⟨rfl, rfl, rfl, rfl, trivial⟩⟩)
      · exact OpOK2.of (fun g50 => [(.tmp 16, BP b5 1)]) _ _ (fun g50 _ => g50) rfl rfl (fun _ => ⟨rfl, trivial⟩) (fun g50 => OT.loadB sc82 rfl) (fun _ _ => ⟨rfl, rfl, ⟨rfl, rfl, rfl, rfl, trivial⟩⟩)
      · exact OpOK2.of (fun g50 => [(.tmp 1, BP b1 0)]) _ _ (fun g50 _ => g50) rfl rfl (fun _ => ⟨rfl, trivial⟩) (fun g50 => Pu.toOT (Pu.fieldB fo84_1 rfl)) (fun _ _ => ⟨rfl, rfl, ⟨rfl, rfl, rfl, rfl, trivial⟩⟩)
      · exact OpOK2.of (fun g50 => [(.tmp 18, BP b1 1)]) _ _ (fun g50 _ => g50) rfl rfl (fun _ => ⟨rfl, trivial⟩) (fun g50 => OT.loadB sc82 rfl) (fun _ _ => ⟨rfl, rfl, ⟨rfl, rfl, rfl, rfl, trivial⟩⟩)
      · exact OpOK2.of (fun g50 => [(.tmp 4, .int .i64 i26)]) _ _ (fun g50 _ => g50) rfl rfl (fun _ => ⟨rfl, trivial⟩) (fun g50 => Pu.toOT Pu.move) (fun _ _ => ⟨rfl, rfl, ⟨rfl, rfl, rfl, rfl, trivial⟩⟩)
      · exact OpOK2.of (fun g50 => [(.tmp 19, .slice a_0 (List.length p0.L) c_0), (.tmp 20, .int .i64 i26)]) _ _ (fun g50 _ => g50) rfl rfl (fun _ => ⟨rfl, rfl, trivial⟩) (fun g50 => OT.indexB ul82 sz148 hb_0 h51) (fun _ _ => ⟨rfl, rfl, ⟨rfl, rfl, rfl, rfl, trivial⟩⟩)
      · exact OpOK2.of (fun g50 => [(.tmp 21, EP a_0 i26 3 0)]) _ _ (fun g50 _ => g50) rfl rfl (fun _ => ⟨rfl, trivial⟩) (fun g50 => Pu.toOT (Pu.fieldE fo148_0 rfl)) (fun _ _ => ⟨rfl, rfl, ⟨rfl, rfl, rfl, rfl, trivial⟩⟩)
      · exact OpOK2.of (fun g50 => [(.tmp 22, EP a_0 i26 3 0)]) _ _ (fun g50 _ => g50) rfl rfl (fun _ => ⟨rfl, trivial⟩) (fun g50 => OT.loadN (v := .bool ((gt p0.L i26).Used)) sc4 hn55 hlTPage rfl) (fun _ _ => ⟨rfl, rfl, ⟨rfl, rfl, rfl, rfl, trivial⟩⟩)
      · exact OpOK2.of (fun g50 => [(.tmp 1, BP b1 0)]) _ _ (fun g50 _ => g50) rfl rfl (fun _ => ⟨rfl, trivial⟩) (fun g50 => Pu.toOT (Pu.fieldB fo84_1 rfl)) (fun _ _ => ⟨rfl, rfl, ⟨rfl, rfl, rfl, rfl, trivial⟩⟩)
      · exact OpOK2.of (fun g50 => [(.tmp 24, BP b1 1)]) _ _ (fun g50 _ => g50) rfl rfl (fun _ => ⟨rfl, trivial⟩) (fun g50 => OT.loadB sc82 rfl) (fun _ _ => ⟨rfl, rfl, ⟨rfl, rfl, rfl, rfl, trivial⟩⟩)
      · exact OpOK2.of (fun g50 => [(.tmp 4, .int .i64 i26)]) _ _ (fun g50 _ => g50) rfl rfl (fun _ => ⟨rfl, trivial⟩) (fun g50 => Pu.toOT Pu.move) (fun _ _ => ⟨rfl, rfl, ⟨rfl, rfl, rfl, rfl, trivial⟩⟩)
      · exact OpOK2.of (fun g50 => [(.tmp 25, .slice a_0 (List.length p0.L) c_0), (.tmp 26, .int .i64 i26)]) _ _ (fun g50 _ => g50) rfl rfl (fun _ => ⟨rfl, rfl, trivial⟩) (fun g50 => OT.indexB ul82 sz148 hb_0 h56) (fun _ _ => ⟨rfl, rfl, ⟨rfl, rfl, rfl, rfl, trivial⟩⟩)
      · exact OpOK2.of (fun g50 => [(.tmp 27, EP a_0 i26 3 0)]) _ _ (fun g50 _ => g50) rfl rfl (fun _ => ⟨rfl, trivial⟩) (fun g50 => Pu.toOT (Pu.fieldE fo148_1 rfl)) (fun _ _ => ⟨rfl, rfl, ⟨rfl, rfl, rfl, rfl, trivial⟩⟩)
      · exact OpOK2.of (fun g50 => [(.tmp 28, EP a_0 i26 3 1)]) _ _ (fun g50 _ => g50) rfl rfl (fun _ => ⟨rfl, trivial⟩) (fun g50 => OT.loadNA (vs := [.bool ((gt p0.L i26).N.Leaf), .slice a57 (List.length ((gt p0.L i26).N.L)) c58]) ag58 sz58 hn60 hlTPage rfl rfl) (fun _ _ => ⟨rfl, rfl, ⟨rfl, rfl, rfl, rfl, trivial⟩⟩)
      · exact OpOK2.ofD [15] (by kernel_rfl) (fun g50 => [(.func 106, .func (.func 106) #[] #[]), (.tmp 29, .agg #[.bool ((gt p0.L i26).N.Leaf), .slice a57 (List.length ((gt p0.L i26).N.L)) c58])]) _ _ (fun g50 x => (x, g50.2)) rfl rfl (fun _ => ⟨rfl, rfl, trivial⟩) (fun g50 => OT.call (us := [_]) (Pre := []) [.tmp 29] Try.call106 rfl rfl fun w F hs hF hp => spec_l5Copy_c (hb59.pass hp) h62) (fun _ _ => ⟨⟨rfl, rfl, rfl, rfl, rfl, rfl, rfl, rfl, rfl, rfl, rfl, rfl, rfl, rfl, rfl, trivial, rfl, trivial⟩, rfl, ⟨rfl, rfl, rfl, rfl, trivial⟩⟩)
      · exact OpOK2.of (fun g50 => [(.tmp 23, .bool ((gt p0.L i26).Used)), (.tmp 30, .agg #[.bool t61.Leaf, .slice g50.1.1 (List.length t61.L) g50.1.2])]) _ _ (fun g50 _ => g50) rfl rfl (fun _ => ⟨rfl, rfl, trivial⟩) (fun g50 => Pu.toOT (Pu.build (us := [.bool ((gt p0.L i26).Used), .agg #[.bool t61.Leaf, .slice g50.1.1 (List.length t61.L) g50.1.2]]) (cs := [.bool ((gt p0.L i26).Used), .bool t61.Leaf, .slice g50.1.1 (List.length t61.L) g50.1.2]) [(0, .tmp 23), (1, .tmp 30)] st148 rfl rfl rfl)) (fun _ _ => ⟨rfl, rfl, ⟨rfl, rfl, rfl, rfl, trivial⟩⟩)
      · exact OpOK2.of (fun g50 => [(.tmp 31, .agg #[.bool ((gt p0.L i26).Used), .bool t61.Leaf, .slice g50.1.1 (List.length t61.L) g50.1.2])]) _ _ (fun g50 x => (g50.1, x)) rfl rfl (fun _ => ⟨rfl, trivial⟩) (fun g50 => OT.buildO (u := .agg #[.bool ((gt p0.L i26).Used), .bool t61.Leaf, .slice g50.1.1 (List.length t61.L) g50.1.2]) (enc := encTPage) (hl := hlTPage) (sub := fun (x : TPage) => x.N.L) (.tmp 31) (⟨(gt p0.L i26).Used, t61⟩ : TPage) sl82.ul sl82.szE sl82.zc rfl rfl rfl rfl) (fun _ _ => ⟨rfl, rfl, ⟨rfl, rfl, rfl, rfl, trivial⟩⟩)
      refine HQ.keep [(1, _), (2, _), (3, _), (4, _), (9, _), (10, _), (11, _), (12, _), (13, _), (16, _), (17, _), (18, _), (19, _), (20, _), (21, _), (22, _), (23, _), (24, _), (25, _), (26, _), (27, _), (28, _), (29, _), (30, _), (31, _), (32, _)] ⟨rfl, rfl, rfl, rfl, rfl, rfl, rfl, rfl, rfl, rfl, rfl, rfl, rfl, rfl, rfl, rfl, rfl, rfl, rfl, rfl, rfl, rfl, rfl, rfl, rfl, rfl, trivial⟩ ?_
      refine HQ.keepR [(1, _), (2, _), (4, _), (3, _), (10, _)] ⟨rfl, rfl, rfl, rfl, rfl, trivial⟩ rfl ?_
      refine HQ.dRun 3 rfl rfl (by kernel_rfl) (by kernel_rfl) ?_
      obtain ⟨h69, H⟩ := asr H
      refine HQ.opD [3, 10] [3] [10] (OT.appendO (K := kTPage) sl82 ul82 h69) ⟨rfl, rfl, trivial⟩ ⟨rfl, rfl, trivial⟩ rfl rfl rfl rfl (fun _ => rfl) fun ⟨a67, c68⟩ => ?_
      refine HQ.pu (Pu.fieldB fo84_1 rfl) ⟨rfl, trivial⟩ rfl rfl rfl ?_
      refine HQ.opN [4] [4] [] (OT.storeC (cs' := [.int .i64 p0.Root, .slice a67 (List.length (l27 ++ ([(⟨(gt p0.L i26).Used, t61⟩ : TPage)] : (List TPage)))) c68]) sz82 rfl rfl rfl rfl rfl) ⟨rfl, rfl, trivial⟩ ⟨rfl, trivial⟩ rfl rfl rfl (fun _ => rfl) fun _ => ?_
      refine HQ.done ?_
      refine HQ.dEnd rfl ?_
      refine HQ.keep [(1, _), (2, _), (3, _), (4, _), (9, _), (10, _), (11, _), (12, _), (13, _), (16, _), (17, _), (18, _), (19, _), (20, _), (21, _), (22, _), (23, _), (24, _), (25, _), (26, _), (27, _), (28, _), (29, _), (30, _), (31, _), (32, _), (33, _), (34, _)] ⟨rfl, rfl, rfl, rfl, rfl, rfl, rfl, rfl, rfl, rfl, rfl, rfl, rfl, rfl, rfl, rfl, rfl, rfl, rfl, rfl, rfl, rfl, rfl, rfl, rfl, rfl, rfl, rfl, trivial⟩ ?_
      refine HQ.blkN ?_
      refine HQ.thenN ?_
      refine HQ.regionQ ?_
      refine HQ.pu Pu.move ⟨rfl, trivial⟩ rfl rfl rfl ?_
      refine HQ.pu Pu.add ⟨rfl, rfl, trivial⟩ rfl rfl rfl ?_
      refine HQ.pu Pu.assign ⟨rfl, trivial⟩ rfl rfl rfl ?_
      refine HQ.done ?_
      refine HQ.keep [(1, _), (2, _), (3, _), (4, _), (9, _), (10, _), (11, _), (12, _), (13, _), (16, _), (17, _), (18, _), (19, _), (20, _), (21, _), (22, _), (23, _), (24, _), (25, _), (26, _), (27, _), (28, _), (29, _), (30, _), (31, _), (32, _), (33, _), (34, _), (14, _), (15, _)] ⟨rfl, rfl, rfl, rfl, rfl, rfl, rfl, rfl, rfl, rfl, rfl, rfl, rfl, rfl, rfl, rfl, rfl, rfl, rfl, rfl, rfl, rfl, rfl, rfl, rfl, rfl, rfl, rfl, rfl, rfl, trivial⟩ ?_
      obtain rfl := Option.some.inj H
      exact HQ.next (a67, c68) ⟨rfl, rfl, rfl, rfl, trivial⟩ ⟨rfl, rfl, rfl, rfl, trivial⟩ rfl
    · refine HQ.condF rfl hc ?_
      clear hc
      refine HQ.exit ?_
      refine HQ.thenE ?_
      obtain rfl := Option.some.inj H
      exact HQ.out (a28, c29) ⟨rfl, rfl, rfl, rfl, trivial⟩ ⟨rfl, rfl, rfl, rfl, trivial⟩ rfl
  · rintro ⟨i71, l72⟩ rfl ⟨a73, c74⟩
    clear h75
    replace H := H
    refine HQ.keep [(1, _), (2, _), (3, _), (4, _)] ⟨rfl, rfl, rfl, rfl, trivial⟩ ?_
    refine HQ.keepR [(1, _), (2, _), (4, _), (3, _)] ⟨rfl, rfl, rfl, rfl, trivial⟩ rfl ?_
    refine HQ.blkE ?_
    refine HQ.thenN ?_
    refine HQ.rseq ?_
    refine HQ.op [4] [4] (OT.loadBA (vs := [.int .i64 p0.Root, .slice a73 (List.length l72) c74]) ag84 sz84 rfl rfl) ⟨rfl, trivial⟩ ⟨rfl, trivial⟩ rfl rfl rfl rfl (fun _ => rfl) fun _ => ?_
    refine HQ.opN [2] [2] [] (OT.storeC (cs' := [.int .i64 p0.Root, .slice a73 (List.length l72) c74]) sz84 rfl rfl rfl rfl rfl) ⟨rfl, rfl, trivial⟩ ⟨rfl, trivial⟩ rfl rfl rfl (fun _ => rfl) fun _ => ?_
    refine HQ.done ?_
    refine HQ.keep [(2, _)] ⟨rfl, trivial⟩ ?_
    refine HQ.ret ?_
    obtain rfl := Option.some.inj H
    exact HQ.fin (vs := [_]) Try.results80 (a73, c74) ⟨⟨_, _, 2, rfl, rfl, ag84, sz84, rfl⟩, trivial⟩ rfl [3] ⟨rfl, trivial⟩ rfl
  · exact fun r h a w hf => hf.elim

/-! spec.LastUsed -/
theorem spec_LastUsed_c {w : World} {k : Nat} {p0 : TBook} {a_0 : Option Addr} {c_0 : Nat} (hb_0 : BorS kTPage a_0 c_0 p0.L w.heap (Lt w Nil)) {r : Int} (H : spec_LastUsed k p0 = some r) :
    Calls Try.prog 82 #[.agg #[.int .i64 p0.Root, .slice a_0 (List.length p0.L) c_0]] w (Rt w Nil (fun _ : Unit => .int .i64 r) (fun _ => [])) := by
  rw [spec_LastUsed] at H
  refine Calls.enter0 (N := 19) (us := [_]) Try.func82 rfl rfl rfl ?_
  refine HQ.rseq ?_
  refine HQ.op [] [1] (OT.box (cs := [.int .i64 p0.Root, .slice a_0 (List.length p0.L) c_0]) rfl) ⟨rfl, trivial⟩ trivial rfl rfl rfl rfl (fun _ => rfl) fun b1 => ?_
  refine HQ.pu Pu.assign ⟨rfl, trivial⟩ rfl rfl rfl ?_
  refine HQ.done ?_
  refine HQ.keep [(1, _), (2, _)] ⟨rfl, rfl, trivial⟩ ?_
  refine HQ.seq ?_
  refine HQ.rseq ?_
  refine HQ.pu (Pu.fieldB fo84_1 rfl) ⟨rfl, trivial⟩ rfl rfl rfl ?_
  refine HQ.op [1] [1] (OT.loadB sc82 rfl) ⟨rfl, trivial⟩ ⟨rfl, trivial⟩ rfl rfl rfl rfl (fun _ => rfl) fun _ => ?_
  refine HQ.pu (Pu.len ul82) ⟨rfl, trivial⟩ rfl rfl rfl ?_
  refine HQ.pu Pu.sub ⟨rfl, rfl, trivial⟩ rfl rfl rfl ?_
  refine HQ.pu Pu.assign ⟨rfl, trivial⟩ rfl rfl rfl ?_
  refine HQ.done ?_
  refine HQ.keep [(1, _), (2, _), (3, _)] ⟨rfl, rfl, rfl, trivial⟩ ?_
  refine HQ.block ?_
  obtain ⟨o18, h20, H⟩ := bnd H
  refine HQ.loop h20 0 (fun (s : Int) (g : Unit) => match s, g with | i7, () => [(1, BP b1 0), (2, .int .i64 0), (3, .int .i64 i7)]) (fun (s : Int) (g : Unit) => match s, g with | i7, () => [(1, Box b1 [.int .i64 p0.Root, .slice a_0 (List.length p0.L) c_0])]) (fun r => bodyPost Try.prog Try.f82 (Rt w Nil (fun _ : Unit => .int .i64 r) (fun _ => [])) .ret) () ⟨rfl, rfl, rfl, trivial⟩ ⟨rfl, trivial⟩ rfl ?_ ?_ ?_
  · clear H h20
    rintro i7 _ o H
    rw [spec_LastUsed_b0] at H
    refine HQ.keep [(1, _), (2, _), (3, _)] ⟨rfl, rfl, rfl, trivial⟩ ?_
    refine HQ.keepR [(1, _)] ⟨rfl, trivial⟩ rfl ?_
    refine HQ.seq ?_
    refine HQ.rseq ?_
    refine HQ.pu Pu.move ⟨rfl, trivial⟩ rfl rfl rfl ?_
    refine HQ.pu Pu.geq ⟨rfl, rfl, trivial⟩ rfl rfl rfl ?_
    refine HQ.done ?_
    refine HQ.keep [(1, _), (2, _), (3, _), (8, _), (9, _)] ⟨rfl, rfl, rfl, rfl, rfl, trivial⟩ ?_
    rcases brk H with ⟨hc, H⟩ | ⟨hc, H⟩
    · refine HQ.condT rfl hc ?_
      clear hc
      refine HQ.skipThen ?_
      refine HQ.seq ?_
      refine HQ.block ?_
      refine HQ.rseq ?_
      refine HQ.pu (Pu.fieldB fo84_1 rfl) ⟨rfl, trivial⟩ rfl rfl rfl ?_
      refine HQ.op [1] [1] (OT.loadB sc82 rfl) ⟨rfl, trivial⟩ ⟨rfl, trivial⟩ rfl rfl rfl rfl (fun _ => rfl) fun _ => ?_
      refine HQ.pu Pu.move ⟨rfl, trivial⟩ rfl rfl rfl ?_
      obtain ⟨h13, H⟩ := asr H
      refine HQ.op [] [] (OT.indexB ul82 sz148 hb_0 h13) ⟨rfl, rfl, trivial⟩ trivial rfl rfl rfl rfl (fun _ => rfl) fun _ => ?_
      refine HQ.pu (Pu.fieldE fo148_0 rfl) ⟨rfl, trivial⟩ rfl rfl rfl ?_
      obtain ⟨⟨a14, c15⟩, hb16, hn17⟩ := BorS.nest hb_0 h13
      refine HQ.op [] [] (OT.loadN (v := .bool ((gt p0.L i7).Used)) sc4 hn17 hlTPage rfl) ⟨rfl, trivial⟩ trivial rfl rfl rfl rfl (fun _ => rfl) fun _ => ?_
      refine HQ.done ?_
      refine HQ.keep [(1, _), (2, _), (3, _), (8, _), (9, _), (12, _), (13, _), (14, _), (15, _), (16, _), (17, _)] ⟨rfl, rfl, rfl, rfl, rfl, rfl, rfl, rfl, rfl, rfl, rfl, trivial⟩ ?_
      rcases brk H with ⟨hc, H⟩ | ⟨hc, H⟩
      · refine HQ.condT rfl hc ?_
        clear hc
        refine HQ.rseq ?_
        refine HQ.pu Pu.move ⟨rfl, trivial⟩ rfl rfl rfl ?_
        refine HQ.pu Pu.assign ⟨rfl, trivial⟩ rfl rfl rfl ?_
        refine HQ.done ?_
        refine HQ.keep [(1, _), (2, _), (3, _), (8, _), (9, _), (12, _), (13, _), (14, _), (15, _), (16, _), (17, _), (18, _)] ⟨rfl, rfl, rfl, rfl, rfl, rfl, rfl, rfl, rfl, rfl, rfl, rfl, trivial⟩ ?_
        refine HQ.ret ?_
        refine HQ.blkR ?_
        refine HQ.thenR ?_
        obtain rfl := Option.some.inj H
        refine HQ.retL ?_
        exact HQ.fin (vs := [_]) Try.results82 () ⟨rfl, trivial⟩ rfl [] trivial rfl
      · refine HQ.condF rfl hc ?_
        clear hc
        refine HQ.skip ?_
        refine HQ.blkN ?_
        refine HQ.thenN ?_
        refine HQ.regionQ ?_
        refine HQ.pu Pu.move ⟨rfl, trivial⟩ rfl rfl rfl ?_
        refine HQ.pu Pu.sub ⟨rfl, rfl, trivial⟩ rfl rfl rfl ?_
        refine HQ.pu Pu.assign ⟨rfl, trivial⟩ rfl rfl rfl ?_
        refine HQ.done ?_
        refine HQ.keep [(1, _), (2, _), (3, _), (8, _), (9, _), (12, _), (13, _), (14, _), (15, _), (16, _), (17, _), (10, _), (11, _)] ⟨rfl, rfl, rfl, rfl, rfl, rfl, rfl, rfl, rfl, rfl, rfl, rfl, rfl, trivial⟩ ?_
        obtain rfl := Option.some.inj H
        exact HQ.next () ⟨rfl, rfl, rfl, trivial⟩ ⟨rfl, trivial⟩ rfl
    · refine HQ.condF rfl hc ?_
      clear hc
      refine HQ.exit ?_
      refine HQ.thenE ?_
      obtain rfl := Option.some.inj H
      exact HQ.out () ⟨rfl, rfl, rfl, trivial⟩ ⟨rfl, trivial⟩ rfl
  · rintro i19 rfl _
    clear h20
    replace H := H
    refine HQ.keep [(1, _), (2, _), (3, _)] ⟨rfl, rfl, rfl, trivial⟩ ?_
    refine HQ.keepR [(1, _)] ⟨rfl, trivial⟩ rfl ?_
    refine HQ.blkE ?_
    refine HQ.thenN ?_
    refine HQ.rseq ?_
    refine HQ.pu Pu.assign ⟨rfl, trivial⟩ rfl rfl rfl ?_
    refine HQ.done ?_
    refine HQ.keep [(2, _)] ⟨rfl, trivial⟩ ?_
    refine HQ.ret ?_
    obtain rfl := Option.some.inj H
    exact HQ.fin (vs := [_]) Try.results82 () ⟨rfl, trivial⟩ rfl [] trivial rfl
  · rintro r rfl a w hr
    obtain rfl := Option.some.inj H
    exact hr

/-! spec.Most -/
theorem spec_Most_c {w : World} {p0 : Int} {p1 : Int}   {r : Int} (H : spec_Most p0 p1 = some r) :
    Calls Try.prog 81 #[.int .i64 p0, .int .i64 p1] w (Rt w Nil (fun _ : Unit => .int .i64 r) (fun _ => [])) := by
  rw [spec_Most] at H
  refine Calls.enter0 (N := 10) (us := [_, _]) Try.func81 rfl rfl rfl ?_
  refine HQ.rseq ?_
  refine HQ.pu Pu.assign ⟨rfl, trivial⟩ rfl rfl rfl ?_
  refine HQ.done ?_
  refine HQ.keep [(0, _), (1, _), (4, _)] ⟨rfl, rfl, rfl, trivial⟩ ?_
  refine HQ.seq ?_
  refine HQ.rseq ?_
  refine HQ.pu Pu.move ⟨rfl, trivial⟩ rfl rfl rfl ?_
  refine HQ.pu Pu.move ⟨rfl, trivial⟩ rfl rfl rfl ?_
  refine HQ.pu Pu.gtr ⟨rfl, rfl, trivial⟩ rfl rfl rfl ?_
  refine HQ.done ?_
  refine HQ.keep [(0, _), (1, _), (4, _), (7, _)] ⟨rfl, rfl, rfl, rfl, trivial⟩ ?_
  rcases brk H with ⟨hc, H⟩ | ⟨hc, H⟩
  · refine HQ.condT rfl hc ?_
    clear hc
    refine HQ.rseq ?_
    refine HQ.pu Pu.move ⟨rfl, trivial⟩ rfl rfl rfl ?_
    refine HQ.pu Pu.assign ⟨rfl, trivial⟩ rfl rfl rfl ?_
    refine HQ.done ?_
    refine HQ.keep [(0, _), (4, _)] ⟨rfl, rfl, trivial⟩ ?_
    refine HQ.ret ?_
    refine HQ.thenR ?_
    obtain rfl := Option.some.inj H
    exact HQ.fin (vs := [_]) Try.results81 () ⟨rfl, trivial⟩ rfl [] trivial rfl
  · refine HQ.condF rfl hc ?_
    clear hc
    refine HQ.skipThen ?_
    refine HQ.rseq ?_
    refine HQ.pu Pu.move ⟨rfl, trivial⟩ rfl rfl rfl ?_
    refine HQ.pu Pu.assign ⟨rfl, trivial⟩ rfl rfl rfl ?_
    refine HQ.done ?_
    refine HQ.keep [(4, _)] ⟨rfl, trivial⟩ ?_
    refine HQ.ret ?_
    obtain rfl := Option.some.inj H
    exact HQ.fin (vs := [_]) Try.results81 () ⟨rfl, trivial⟩ rfl [] trivial rfl

/-! spec.Cut -/
theorem spec_Cut_c {w : World} {k : Nat} {p0 : TBook} {a_0 : Option Addr} {c_0 : Nat} (hb_0 : BorS kTPage a_0 c_0 p0.L w.heap (Lt w Nil)) {r : TBook} (H : spec_Cut k p0 = some r) :
    Calls Try.prog 41 #[.agg #[.int .i64 p0.Root, .slice a_0 (List.length p0.L) c_0]] w (Rt w Nil (fun g : Option Addr × Nat => .agg #[.int .i64 r.Root, .slice g.1 (List.length r.L) g.2]) (fun g => [OwnS kTPage g.1 g.2 r.L])) := by
  rw [spec_Cut] at H
  refine Calls.enter0 (N := 22) (us := [_]) Try.func41 rfl rfl rfl ?_
  refine HQ.rseq ?_
  refine HQ.op [] [1] (OT.box (cs := [.int .i64 p0.Root, .slice a_0 (List.length p0.L) c_0]) rfl) ⟨rfl, trivial⟩ trivial rfl rfl rfl rfl (fun _ => rfl) fun b1 => ?_
  refine HQ.op [] [2] (OT.alloc zc84) trivial trivial rfl rfl rfl rfl (fun _ => rfl) fun b2 => ?_
  refine HQ.done ?_
  refine HQ.keep [(1, _), (2, _)] ⟨rfl, rfl, trivial⟩ ?_
  refine HQ.rseq ?_
  refine HQ.op [1] [1] (OT.loadBA (vs := [.int .i64 p0.Root, .slice a_0 (List.length p0.L) c_0]) ag84 sz84 rfl rfl) ⟨rfl, trivial⟩ ⟨rfl, trivial⟩ rfl rfl rfl rfl (fun _ => rfl) fun _ => ?_
  obtain ⟨t3, h4, H⟩ := bnd H
  refine HQ.op [] [3] (OT.call (us := [_]) (Pre := []) [.tmp 5] Try.call80 rfl rfl fun w F hs hF hp => spec_l7Copy_c (hb_0.pass hp) h4) ⟨rfl, rfl, trivial⟩ trivial rfl rfl rfl rfl (fun _ => rfl) fun ⟨a5, c6⟩ => ?_
  refine HQ.op [] [4] (OT.alloc zc84) trivial trivial rfl rfl rfl rfl (fun _ => rfl) fun b7 => ?_
  refine HQ.opN [4] [4] [] (OT.storeC (cs' := [.int .i64 t3.Root, .slice a5 (List.length t3.L) c6]) sz84 rfl rfl rfl rfl rfl) ⟨rfl, rfl, trivial⟩ ⟨rfl, trivial⟩ rfl rfl rfl (fun _ => rfl) fun _ => ?_
  refine HQ.done ?_
  refine HQ.keep [(1, _), (2, _), (3, _)] ⟨rfl, rfl, rfl, trivial⟩ ?_
  refine HQ.rseq ?_
  refine HQ.op [1] [1] (OT.loadBA (vs := [.int .i64 p0.Root, .slice a_0 (List.length p0.L) c_0]) ag84 sz84 rfl rfl) ⟨rfl, trivial⟩ ⟨rfl, trivial⟩ rfl rfl rfl rfl (fun _ => rfl) fun _ => ?_
  obtain ⟨t8, h9, H⟩ := bnd H
  refine HQ.op [] [] (OT.call (us := [_]) (Pre := []) [.tmp 7] Try.call82 rfl rfl fun w F hs hF hp => spec_LastUsed_c (hb_0.pass hp) h9) ⟨rfl, rfl, trivial⟩ trivial rfl rfl rfl rfl (fun _ => rfl) fun _ => ?_
  refine HQ.pu Pu.add ⟨rfl, rfl, trivial⟩ rfl rfl rfl ?_
  obtain ⟨t10, h11, H⟩ := bnd H
  refine HQ.op [] [] (OT.call (us := [_, _]) (Pre := []) [.const (.int .i64 1), .tmp 9] Try.call81 rfl rfl fun w F hs hF hp => spec_Most_c h11) ⟨rfl, rfl, rfl, trivial⟩ trivial rfl rfl rfl rfl (fun _ => rfl) fun _ => ?_
  refine HQ.pu Pu.assign ⟨rfl, trivial⟩ rfl rfl rfl ?_
  refine HQ.done ?_
  refine HQ.keep [(2, _), (3, _), (4, _)] ⟨rfl, rfl, rfl, trivial⟩ ?_
  refine HQ.seq ?_
  refine HQ.rseq ?_
  refine HQ.pu Pu.move ⟨rfl, trivial⟩ rfl rfl rfl ?_
  refine HQ.pu (Pu.fieldB fo84_1 rfl) ⟨rfl, trivial⟩ rfl rfl rfl ?_
  refine HQ.op [4] [4] (OT.loadB sc82 rfl) ⟨rfl, trivial⟩ ⟨rfl, trivial⟩ rfl rfl rfl rfl (fun _ => rfl) fun _ => ?_
  refine HQ.pu (Pu.len ul82) ⟨rfl, trivial⟩ rfl rfl rfl ?_
  refine HQ.pu Pu.lss ⟨rfl, rfl, trivial⟩ rfl rfl rfl ?_
  refine HQ.done ?_
  refine HQ.keep [(2, _), (3, _), (4, _), (15, _)] ⟨rfl, rfl, rfl, rfl, trivial⟩ ?_
  rcases brk H with ⟨hc, H⟩ | ⟨hc, H⟩
  · refine HQ.condT rfl hc ?_
    clear hc
    refine HQ.region ?_
    refine HQ.pu (Pu.fieldB fo84_1 rfl) ⟨rfl, trivial⟩ rfl rfl rfl ?_
    refine HQ.op [4] [4] (OT.loadB sc82 rfl) ⟨rfl, trivial⟩ ⟨rfl, trivial⟩ rfl rfl rfl rfl (fun _ => rfl) fun _ => ?_
    refine HQ.pu Pu.move ⟨rfl, trivial⟩ rfl rfl rfl ?_
    obtain ⟨h12, H⟩ := asr H
    refine HQ.op [3] [3] (OT.cutO (vs := [(.tmp 18, .int .i64 t10)]) (K := kTPage) (l := 0) (h := t10) ul82 sz148 (.inl ⟨rfl, rfl⟩) (.inr ⟨_, _, rfl, .tail _ (.head _)⟩) h12) ⟨rfl, rfl, trivial⟩ ⟨rfl, trivial⟩ rfl rfl rfl rfl (fun _ => rfl) fun _ => ?_
    refine HQ.pu (Pu.fieldB fo84_1 rfl) ⟨rfl, trivial⟩ rfl rfl rfl ?_
    refine HQ.opN [4] [4] [] (OT.storeC (cs' := [.int .i64 t3.Root, .slice (sAd a5 c6 3 0) (List.length (slc t3.L 0 t10)) (c6 - Int.toNat 0)]) sz82 rfl rfl rfl rfl rfl) ⟨rfl, rfl, trivial⟩ ⟨rfl, trivial⟩ rfl rfl rfl (fun _ => rfl) fun _ => ?_
    refine HQ.done ?_
    refine HQ.keep [(2, _), (3, _)] ⟨rfl, rfl, trivial⟩ ?_
    refine HQ.rseq ?_
    refine HQ.op [4] [4] (OT.loadBA (vs := [.int .i64 t3.Root, .slice (sAd a5 c6 3 0) (List.length (slc t3.L 0 t10)) (c6 - Int.toNat 0)]) ag84 sz84 rfl rfl) ⟨rfl, trivial⟩ ⟨rfl, trivial⟩ rfl rfl rfl rfl (fun _ => rfl) fun _ => ?_
    refine HQ.opN [2] [2] [] (OT.storeC (cs' := [.int .i64 t3.Root, .slice (sAd a5 c6 3 0) (List.length (slc t3.L 0 t10)) (c6 - Int.toNat 0)]) sz84 rfl rfl rfl rfl rfl) ⟨rfl, rfl, trivial⟩ ⟨rfl, trivial⟩ rfl rfl rfl (fun _ => rfl) fun _ => ?_
    refine HQ.done ?_
    refine HQ.keep [(2, _)] ⟨rfl, trivial⟩ ?_
    refine HQ.ret ?_
    obtain rfl := Option.some.inj H
    exact HQ.fin (vs := [_]) Try.results41 ((sAd a5 c6 3 0), (c6 - Int.toNat 0)) ⟨⟨_, _, 2, rfl, rfl, ag84, sz84, rfl⟩, trivial⟩ rfl [3] ⟨rfl, trivial⟩ rfl
  · refine HQ.condF rfl hc ?_
    clear hc
    refine HQ.skipThen ?_
    refine HQ.rseq ?_
    refine HQ.op [4] [4] (OT.loadBA (vs := [.int .i64 t3.Root, .slice a5 (List.length t3.L) c6]) ag84 sz84 rfl rfl) ⟨rfl, trivial⟩ ⟨rfl, trivial⟩ rfl rfl rfl rfl (fun _ => rfl) fun _ => ?_
    refine HQ.opN [2] [2] [] (OT.storeC (cs' := [.int .i64 t3.Root, .slice a5 (List.length t3.L) c6]) sz84 rfl rfl rfl rfl rfl) ⟨rfl, rfl, trivial⟩ ⟨rfl, trivial⟩ rfl rfl rfl (fun _ => rfl) fun _ => ?_
    refine HQ.done ?_
    refine HQ.keep [(2, _)] ⟨rfl, trivial⟩ ?_
    refine HQ.ret ?_
    obtain rfl := Option.some.inj H
    exact HQ.fin (vs := [_]) Try.results41 (a5, c6) ⟨⟨_, _, 2, rfl, rfl, ag84, sz84, rfl⟩, trivial⟩ rfl [3] ⟨rfl, trivial⟩ rfl

/-! slices.Clone(()impl.Entry,impl.Entry) -/
theorem slices_Clone_impl_Entry_impl_Entry_c {w : World} {p0 : (List TEntry)} {a_0 : Option Addr} {c_0 : Nat} (hb_0 : BorS kTEntry a_0 c_0 p0 w.heap (Lt w Nil)) {r : (List TEntry)} (H : slices_Clone_impl_Entry_impl_Entry p0 = some r) :
    Calls Try.prog 115 #[.slice a_0 (List.length p0) c_0] w (Rt w Nil (fun g : Option Addr × Nat => .slice g.1 (List.length r) g.2) (fun g => [OwnS kTEntry g.1 g.2 r])) := by
  rw [slices_Clone_impl_Entry_impl_Entry] at H
  obtain ⟨h5, H⟩ := asr H
  obtain rfl := Option.some.inj H
  refine Calls.enter0 (N := 8) (us := [_]) Try.func115 rfl rfl rfl ?_
  refine HQ.rseq ?_
  refine HQ.pu Pu.assign ⟨rfl, trivial⟩ rfl rfl rfl ?_
  refine HQ.done ?_
  refine HQ.seq ?_
  refine HQ.rseq ?_
  refine HQ.pu Pu.move ⟨rfl, trivial⟩ rfl rfl rfl ?_
  refine HQ.pu (Pu.eqlNil ul56) ⟨rfl, rfl, trivial⟩ rfl rfl rfl ?_
  refine HQ.done ?_
  cases a_0 with
  | none =>
    refine HQ.condT rfl rfl ?_
    have hp : p0 = [] := by
      rcases hb_0.2 with h | ⟨b, off, cs, ty, fz, h, _⟩
      · exact h
      · cases h
    subst hp
    refine HQ.rseq ?_
    refine HQ.pu Pu.assign ⟨rfl, trivial⟩ rfl rfl rfl ?_
    refine HQ.done ?_
    refine HQ.ret ?_
    refine HQ.thenR ?_
    refine HQ.nil kTEntry 1 rfl ?_
    exact HQ.fin (vs := [_]) Try.results115 (none, 0) ⟨rfl, trivial⟩ rfl [1] ⟨rfl, trivial⟩ rfl
  | some a =>
    refine HQ.condF rfl rfl ?_
    refine HQ.skipThen ?_
    refine HQ.rseq ?_
    refine HQ.op [] [1] (OT.buildF (us := []) (ys := ([] : (List TEntry))) (enc := encTEntry) (hl := fun _ => ⟨rfl, rfl⟩) [] sl56.ul sl56.szE sl56.zc rfl rfl rfl rfl rfl) trivial trivial rfl rfl rfl rfl (fun _ => rfl) fun ⟨a1, c2⟩ => ?_
    refine HQ.pu Pu.move ⟨rfl, trivial⟩ rfl rfl rfl ?_
    refine HQ.op [1] [1] (OT.appendF (enc := encTEntry) (hl := fun _ => ⟨rfl, rfl⟩) sl56 ul56 hb_0 (by simpa using h5)) ⟨rfl, rfl, trivial⟩ ⟨rfl, trivial⟩ rfl rfl rfl rfl (fun _ => rfl) fun ⟨a3, c4⟩ => ?_
    refine HQ.pu Pu.assign ⟨rfl, trivial⟩ rfl rfl rfl ?_
    refine HQ.done ?_
    refine HQ.ret ?_
    exact HQ.fin (vs := [_]) Try.results115 (a3, c4) ⟨rfl, trivial⟩ rfl [1] ⟨rfl, trivial⟩ rfl

/-! impl.copyNode -/
theorem impl_copyNode_c {w : World} {p0 : TNode} {a_0 : Option Addr} {c_0 : Nat} (hb_0 : BorS kTEntry a_0 c_0 p0.L w.heap (Lt w Nil)) {r : TNode} (H : impl_copyNode p0 = some r) :
    Calls Try.prog 108 #[.agg #[.bool p0.Leaf, .slice a_0 (List.length p0.L) c_0]] w (Rt w Nil (fun g : Option Addr × Nat => .agg #[.bool r.Leaf, .slice g.1 (List.length r.L) g.2]) (fun g => [OwnS kTEntry g.1 g.2 r.L])) := by
  rw [impl_copyNode] at H
  refine Calls.enter0 (N := 9) (us := [_]) Try.func108 rfl rfl rfl ?_
  refine HQ.rseq ?_
  refine HQ.op [] [1] (OT.box (cs := [.bool p0.Leaf, .slice a_0 (List.length p0.L) c_0]) rfl) ⟨rfl, trivial⟩ trivial rfl rfl rfl rfl (fun _ => rfl) fun b1 => ?_
  refine HQ.op [] [2] (OT.alloc zc58) trivial trivial rfl rfl rfl rfl (fun _ => rfl) fun b2 => ?_
  refine HQ.done ?_
  refine HQ.keep [(1, _), (2, _)] ⟨rfl, rfl, trivial⟩ ?_
  obtain ⟨t4, h5, H⟩ := bnd H
  refine HQ.drawS mixd [(1, BP b1 0), (2, BP b2 0)] 5 [⟨[], [], []⟩, ⟨[0], [0], [0]⟩, ⟨[], [], []⟩, ⟨[0], [0], [2]⟩, ⟨[], [1], [3]⟩] [⟨none, none⟩, ⟨some 4, none⟩] (fun (g3 : (Option Addr × Nat)) => [BP b1 0, .bool p0.Leaf, BP b1 1, .slice a_0 (List.length p0.L) c_0, .slice g3.1 (List.length t4) g3.2]) (fun (g3 : (Option Addr × Nat)) => [Box b1 [.bool p0.Leaf, .slice a_0 (List.length p0.L) c_0], OwnS kTEntry g3.1 g3.2 t4]) (none, 0) [1] [1, 3] [] ⟨rfl, rfl, trivial⟩ ⟨rfl, trivial⟩ rfl (by kernel_rfl) (fun _ => rfl) (by kernel_rfl) (fun _ => rfl) ⟨?_, ?_, ?_, ?_, ?_, trivial⟩ fun g3 => ?_
  · exact OpOK.of (fun g3 => [(.tmp 1, BP b1 0)]) _ _ (fun g3 _ => g3) rfl rfl (fun _ => ⟨rfl, trivial⟩) (fun g3 => Pu.toOT (Pu.fieldB fo58_0 rfl)) (fun _ _ => ⟨rfl, rfl, ⟨rfl, rfl, trivial⟩⟩)
  · exact OpOK.of (fun g3 => [(.tmp 3, BP b1 0)]) _ _ (fun g3 _ => g3) rfl rfl (fun _ => ⟨rfl, trivial⟩) (fun g3 => OT.loadB sc4 rfl) (fun _ _ => ⟨rfl, rfl, ⟨rfl, rfl, trivial⟩⟩)
  · exact OpOK.of (fun g3 => [(.tmp 1, BP b1 0)]) _ _ (fun g3 _ => g3) rfl rfl (fun _ => ⟨rfl, trivial⟩) (fun g3 => Pu.toOT (Pu.fieldB fo58_1 rfl)) (fun _ _ => ⟨rfl, rfl, ⟨rfl, rfl, trivial⟩⟩)
  · exact OpOK.of (fun g3 => [(.tmp 5, BP b1 1)]) _ _ (fun g3 _ => g3) rfl rfl (fun _ => ⟨rfl, trivial⟩) (fun g3 => OT.loadB sc56 rfl) (fun _ _ => ⟨rfl, rfl, ⟨rfl, rfl, trivial⟩⟩)
  · exact OpOK.of (fun g3 => [(.func 115, .func (.func 115) #[] #[]), (.tmp 6, .slice a_0 (List.length p0.L) c_0)]) _ _ (fun g3 x => x) rfl rfl (fun _ => ⟨rfl, rfl, trivial⟩) (fun g3 => OT.call (us := [_]) (Pre := []) [.tmp 6] Try.call115 rfl rfl fun w F hs hF hp => slices_Clone_impl_Entry_impl_Entry_c (hb_0.pass hp) h5) (fun _ _ => ⟨rfl, rfl, ⟨rfl, rfl, trivial⟩⟩)
  refine HQ.keep [(2, _), (4, _), (7, _)] ⟨rfl, rfl, rfl, trivial⟩ ?_
  refine HQ.keepR [(1, _), (2, _), (3, _)] ⟨rfl, rfl, rfl, trivial⟩ rfl ?_
  refine HQ.pu (Pu.build (us := [.bool p0.Leaf, .slice g3.1 (List.length t4) g3.2]) (cs := [.bool p0.Leaf, .slice g3.1 (List.length t4) g3.2]) [(0, .tmp 4), (1, .tmp 7)] st58 rfl rfl rfl) ⟨rfl, rfl, trivial⟩ rfl rfl rfl ?_
  refine HQ.opN [2] [2] [] (OT.storeC (cs' := [.bool p0.Leaf, .slice g3.1 (List.length t4) g3.2]) sz58 rfl rfl rfl rfl rfl) ⟨rfl, rfl, trivial⟩ ⟨rfl, trivial⟩ rfl rfl rfl (fun _ => rfl) fun _ => ?_
  refine HQ.done ?_
  refine HQ.keep [(2, _)] ⟨rfl, trivial⟩ ?_
  refine HQ.ret ?_
  obtain rfl := Option.some.inj H
  exact HQ.fin (vs := [_]) Try.results108 (g3.1, g3.2) ⟨⟨_, _, 2, rfl, rfl, ag58, sz58, rfl⟩, trivial⟩ rfl [3] ⟨rfl, trivial⟩ rfl

/-! impl.copyBook -/
theorem impl_copyBook_c {w : World} {k : Nat} {p0 : TBook} {a_0 : Option Addr} {c_0 : Nat} (hb_0 : BorS kTPage a_0 c_0 p0.L w.heap (Lt w Nil)) {r : TBook} (H : impl_copyBook k p0 = some r) :
    Calls Try.prog 84 #[.agg #[.int .i64 p0.Root, .slice a_0 (List.length p0.L) c_0]] w (Rt w Nil (fun g : Option Addr × Nat => .agg #[.int .i64 r.Root, .slice g.1 (List.length r.L) g.2]) (fun g => [OwnS kTPage g.1 g.2 r.L])) := by
  rw [impl_copyBook] at H
  refine Calls.enter0 (N := 27) (us := [_]) Try.func84 rfl rfl rfl ?_
  refine HQ.rseq ?_
  refine HQ.op [] [1] (OT.box (cs := [.int .i64 p0.Root, .slice a_0 (List.length p0.L) c_0]) rfl) ⟨rfl, trivial⟩ trivial rfl rfl rfl rfl (fun _ => rfl) fun b1 => ?_
  refine HQ.op [] [2] (OT.alloc zc84) trivial trivial rfl rfl rfl rfl (fun _ => rfl) fun b2 => ?_
  refine HQ.done ?_
  refine HQ.keep [(1, _), (2, _)] ⟨rfl, rfl, trivial⟩ ?_
  refine HQ.rseq ?_
  refine HQ.pu Pu.assign ⟨rfl, trivial⟩ rfl rfl rfl ?_
  refine HQ.done ?_
  refine HQ.keep [(1, _), (2, _), (3, _)] ⟨rfl, rfl, rfl, trivial⟩ ?_
  refine HQ.seq ?_
  refine HQ.rseq ?_
  refine HQ.pu (Pu.fieldB fo84_1 rfl) ⟨rfl, trivial⟩ rfl rfl rfl ?_
  refine HQ.op [1] [1] (OT.loadB sc82 rfl) ⟨rfl, trivial⟩ ⟨rfl, trivial⟩ rfl rfl rfl rfl (fun _ => rfl) fun _ => ?_
  refine HQ.pu (Pu.len ul82) ⟨rfl, trivial⟩ rfl rfl rfl ?_
  refine HQ.pu Pu.move ⟨rfl, trivial⟩ rfl rfl rfl ?_
  refine HQ.done ?_
  refine HQ.keep [(1, _), (2, _), (3, _), (7, _), (8, _), (9, _)] ⟨rfl, rfl, rfl, rfl, rfl, rfl, trivial⟩ ?_
  refine HQ.block ?_
  refine HQ.nil kTPage 7 rfl ?_
  obtain ⟨o55, h60, H⟩ := bnd H
  refine HQ.loop h60 0 (fun (s : (List TPage) × Int) (g : Option Addr × Nat) => match s, g with | (l19, i22), (a20, c21) => [(1, BP b1 0), (2, BP b2 0), (3, .slice a20 (List.length l19) c21), (7, .slice a_0 (List.length p0.L) c_0), (8, .int .i64 ((List.length p0.L : Nat) : Int)), (9, .int .i64 i22)]) (fun (s : (List TPage) × Int) (g : Option Addr × Nat) => match s, g with | (l19, i22), (a20, c21) => [(1, Box b1 [.int .i64 p0.Root, .slice a_0 (List.length p0.L) c_0]), (2, Box b2 [.int .i64 0, .slice none 0 0]), (7, OwnS kTPage a20 c21 l19)]) (fun _ _ _ => False) (none, 0) ⟨rfl, rfl, rfl, rfl, rfl, rfl, trivial⟩ ⟨rfl, rfl, rfl, trivial⟩ rfl ?_ ?_ ?_
  · clear H h60
    rintro ⟨l19, i22⟩ ⟨a20, c21⟩ o H
    rw [impl_copyBook_b0] at H
    refine HQ.keep [(1, _), (2, _), (3, _), (7, _), (8, _), (9, _)] ⟨rfl, rfl, rfl, rfl, rfl, rfl, trivial⟩ ?_
    refine HQ.keepR [(1, _), (2, _), (7, _)] ⟨rfl, rfl, rfl, trivial⟩ rfl ?_
    refine HQ.rseq ?_
    refine HQ.pu Pu.lss ⟨rfl, rfl, trivial⟩ rfl rfl rfl ?_
    refine HQ.done ?_
    refine HQ.keep [(1, _), (2, _), (3, _), (7, _), (8, _), (9, _), (10, _)] ⟨rfl, rfl, rfl, rfl, rfl, rfl, rfl, trivial⟩ ?_
    refine HQ.seq ?_
    rcases brk H with ⟨hc, H⟩ | ⟨hc, H⟩
    · refine HQ.condT rfl hc ?_
      clear hc
      refine HQ.skipThen ?_
      refine HQ.seq ?_
      refine HQ.block ?_
      refine HQ.rseq ?_
      obtain ⟨h39, H⟩ := asr H
      refine HQ.op [] [] (OT.indexB ul82 sz148 hb_0 h39) ⟨rfl, rfl, trivial⟩ trivial rfl rfl rfl rfl (fun _ => rfl) fun _ => ?_
      obtain ⟨⟨a40, c41⟩, hb42, hn43⟩ := BorS.nest hb_0 h39
      refine HQ.op [] [] (OT.loadNA (vs := [.bool ((gt p0.L i22).Used), .bool ((gt p0.L i22).N.Leaf), .slice a40 (List.length ((gt p0.L i22).N.L)) c41]) ag148 sz148 hn43 hlTPage rfl rfl) ⟨rfl, trivial⟩ trivial rfl rfl rfl rfl (fun _ => rfl) fun _ => ?_
      refine HQ.op [] [11] (OT.alloc zc148) trivial trivial rfl rfl rfl rfl (fun _ => rfl) fun b44 => ?_
      refine HQ.opN [11] [11] [] (OT.storeC (cs' := [.bool ((gt p0.L i22).Used), .bool ((gt p0.L i22).N.Leaf), .slice a40 (List.length ((gt p0.L i22).N.L)) c41]) sz148 rfl rfl rfl rfl rfl) ⟨rfl, rfl, trivial⟩ ⟨rfl, trivial⟩ rfl rfl rfl (fun _ => rfl) fun _ => ?_
      refine HQ.done ?_
      refine HQ.keep [(1, _), (2, _), (3, _), (7, _), (8, _), (9, _), (10, _), (11, _), (12, _), (5, _)] ⟨rfl, rfl, rfl, rfl, rfl, rfl, rfl, rfl, rfl, rfl, trivial⟩ ?_
      refine HQ.dStart mixd ?_
      obtain ⟨t46, h47, H⟩ := bnd H
      refine HQ.dPart [(1, BP b1 0), (2, BP b2 0), (3, .slice a20 (List.length l19) c21), (7, .slice a_0 (List.length p0.L) c_0), (8, .int .i64 ((List.length p0.L : Nat) : Int)), (9, .int .i64 i22), (10, .bool (decide (i22 < ((List.length p0.L : Nat) : Int)))), (11, EP a_0 i22 3 0), (12, .agg #[.bool ((gt p0.L i22).Used), .bool ((gt p0.L i22).N.Leaf), .slice a40 (List.length ((gt p0.L i22).N.L)) c41]), (5, BP b44 0)] 8 [⟨[], [], []⟩, ⟨[], [], []⟩, ⟨[0], [0], [1]⟩, ⟨[], [], []⟩, ⟨[0], [0], [3]⟩, ⟨[], [1], [4]⟩, ⟨[], [], [2, 5]⟩, ⟨[1], [2], [6]⟩] [⟨none, none⟩, ⟨some 5, some 7⟩, ⟨some 7, none⟩] (fun (g45 : (Option Addr × Nat) × (Option Addr × Nat)) => [.slice a20 (List.length l19) c21, BP b44 0, .bool ((gt p0.L i22).Used), BP b44 1, .agg #[.bool ((gt p0.L i22).N.Leaf), .slice a40 (List.length ((gt p0.L i22).N.L)) c41], .agg #[.bool t46.Leaf, .slice g45.1.1 (List.length t46.L) g45.1.2], .agg #[.bool ((gt p0.L i22).Used), .bool t46.Leaf, .slice g45.1.1 (List.length t46.L) g45.1.2], .slice g45.2.1 (List.length ([(⟨(gt p0.L i22).Used, t46⟩ : TPage)] : (List TPage))) g45.2.2]) (fun (g45 : (Option Addr × Nat) × (Option Addr × Nat)) => [Box b44 [.bool ((gt p0.L i22).Used), .bool ((gt p0.L i22).N.Leaf), .slice a40 (List.length ((gt p0.L i22).N.L)) c41], OwnS kTEntry g45.1.1 g45.1.2 t46.L, OwnS kTPage g45.2.1 g45.2.2 ([(⟨(gt p0.L i22).Used, t46⟩ : TPage)] : (List TPage))]) ((none, 0), (none, 0)) [11] [11, 13] [] ⟨rfl, rfl, rfl, rfl, rfl, rfl, rfl, rfl, rfl, rfl, trivial⟩ ⟨rfl, trivial⟩ rfl (by kernel_rfl) (by kernel_rfl) (fun _ => rfl) (by kernel_rfl) (fun _ => rfl) rfl ⟨?_, ?_, ?_, ?_, ?_, ?_, ?_, ?_, trivial⟩ fun g45 => ?_
      · exact OpOK2.of (fun g45 => [(.tmp 3, .slice a20 (List.length l19) c21)]) _ _ (fun g45 _ => g45) rfl rfl (fun _ => ⟨rfl, trivial⟩) (fun g45 => Pu.toOT Pu.move) (fun _ _ => ⟨rfl, rfl, ⟨rfl, rfl, rfl, trivial⟩⟩)
      · exact OpOK2.of (fun g45 => [(.tmp 5, BP b44 0)]) _ _ (fun g45 _ => g45) rfl rfl (fun _ => ⟨rfl, trivial⟩) (fun g45 => Pu.toOT (Pu.fieldB fo148_0 rfl)) (fun _ _ => ⟨rfl, rfl, ⟨rfl, rfl, rfl, trivial⟩⟩)
      · exact OpOK2.of (fun g45 => [(.tmp 14, BP b44 0)]) _ _ (fun g45 _ => g45) rfl rfl (fun _ => ⟨rfl, trivial⟩) (fun g45 => OT.loadB sc4 rfl) (fun _ _ => ⟨rfl, rfl, ⟨rfl, rfl, rfl, trivial⟩⟩)
      · exact OpOK2.of (fun g45 => [(.tmp 5, BP b44 0)]) _ _ (fun g45 _ => g45) rfl rfl (fun _ => ⟨rfl, trivial⟩) (fun g45 => Pu.toOT (Pu.fieldB fo148_1 rfl)) (fun _ _ => ⟨rfl, rfl, ⟨rfl, rfl, rfl, trivial⟩⟩)
      · exact OpOK2.of (fun g45 => [(.tmp 16, BP b44 1)]) _ _ (fun g45 _ => g45) rfl rfl (fun _ => ⟨rfl, trivial⟩) (fun g45 => OT.loadBA (vs := [.bool ((gt p0.L i22).N.Leaf), .slice a40 (List.length ((gt p0.L i22).N.L)) c41]) ag58 sz58 rfl rfl) (fun _ _ => ⟨rfl, rfl, ⟨rfl, rfl, rfl, trivial⟩⟩)
      · exact OpOK2.ofD [6] (by kernel_rfl) (fun g45 => [(.func 108, .func (.func 108) #[] #[]), (.tmp 17, .agg #[.bool ((gt p0.L i22).N.Leaf), .slice a40 (List.length ((gt p0.L i22).N.L)) c41])]) _ _ (fun g45 x => (x, g45.2)) rfl rfl (fun _ => ⟨rfl, rfl, trivial⟩) (fun g45 => OT.call (us := [_]) (Pre := []) [.tmp 17] Try.call108 rfl rfl fun w F hs hF hp => impl_copyNode_c (hb42.pass hp) h47) (fun _ _ => ⟨⟨rfl, rfl, rfl, rfl, rfl, rfl, trivial, rfl, trivial⟩, rfl, ⟨rfl, rfl, rfl, trivial⟩⟩)
      · exact OpOK2.of (fun g45 => [(.tmp 15, .bool ((gt p0.L i22).Used)), (.tmp 18, .agg #[.bool t46.Leaf, .slice g45.1.1 (List.length t46.L) g45.1.2])]) _ _ (fun g45 _ => g45) rfl rfl (fun _ => ⟨rfl, rfl, trivial⟩) (fun g45 => Pu.toOT (Pu.build (us := [.bool ((gt p0.L i22).Used), .agg #[.bool t46.Leaf, .slice g45.1.1 (List.length t46.L) g45.1.2]]) (cs := [.bool ((gt p0.L i22).Used), .bool t46.Leaf, .slice g45.1.1 (List.length t46.L) g45.1.2]) [(0, .tmp 15), (1, .tmp 18)] st148 rfl rfl rfl)) (fun _ _ => ⟨rfl, rfl, ⟨rfl, rfl, rfl, trivial⟩⟩)
      · exact OpOK2.of (fun g45 => [(.tmp 19, .agg #[.bool ((gt p0.L i22).Used), .bool t46.Leaf, .slice g45.1.1 (List.length t46.L) g45.1.2])]) _ _ (fun g45 x => (g45.1, x)) rfl rfl (fun _ => ⟨rfl, trivial⟩) (fun g45 => OT.buildO (u := .agg #[.bool ((gt p0.L i22).Used), .bool t46.Leaf, .slice g45.1.1 (List.length t46.L) g45.1.2]) (enc := encTPage) (hl := hlTPage) (sub := fun (x : TPage) => x.N.L) (.tmp 19) (⟨(gt p0.L i22).Used, t46⟩ : TPage) sl82.ul sl82.szE sl82.zc rfl rfl rfl rfl) (fun _ _ => ⟨rfl, rfl, ⟨rfl, rfl, rfl, trivial⟩⟩)
      refine HQ.keep [(1, _), (2, _), (3, _), (7, _), (8, _), (9, _), (10, _), (11, _), (12, _), (5, _), (13, _), (14, _), (15, _), (16, _), (17, _), (18, _), (19, _), (20, _)] ⟨rfl, rfl, rfl, rfl, rfl, rfl, rfl, rfl, rfl, rfl, rfl, rfl, rfl, rfl, rfl, rfl, rfl, rfl, trivial⟩ ?_
      refine HQ.keepR [(1, _), (2, _), (7, _), (11, _), (13, _)] ⟨rfl, rfl, rfl, rfl, rfl, trivial⟩ rfl ?_
      refine HQ.dRun 2 rfl rfl (by kernel_rfl) (by kernel_rfl) ?_
      obtain ⟨h54, H⟩ := asr H
      refine HQ.opD [7, 13] [7] [13] (OT.appendO (K := kTPage) sl82 ul82 h54) ⟨rfl, rfl, trivial⟩ ⟨rfl, rfl, trivial⟩ rfl rfl rfl rfl (fun _ => rfl) fun ⟨a52, c53⟩ => ?_
      refine HQ.pu Pu.assign ⟨rfl, trivial⟩ rfl rfl rfl ?_
      refine HQ.done ?_
      refine HQ.dEnd rfl ?_
      refine HQ.keep [(1, _), (2, _), (3, _), (7, _), (8, _), (9, _), (10, _), (11, _), (12, _), (5, _), (13, _), (14, _), (15, _), (16, _), (17, _), (18, _), (19, _), (20, _), (21, _)] ⟨rfl, rfl, rfl, rfl, rfl, rfl, rfl, rfl, rfl, rfl, rfl, rfl, rfl, rfl, rfl, rfl, rfl, rfl, rfl, trivial⟩ ?_
      refine HQ.blkN ?_
      refine HQ.thenN ?_
      refine HQ.regionQ ?_
      refine HQ.pu Pu.add ⟨rfl, rfl, trivial⟩ rfl rfl rfl ?_
      refine HQ.pu Pu.move ⟨rfl, trivial⟩ rfl rfl rfl ?_
      refine HQ.done ?_
      refine HQ.keep [(1, _), (2, _), (3, _), (7, _), (8, _), (9, _), (10, _), (11, _), (12, _), (5, _), (13, _), (14, _), (15, _), (16, _), (17, _), (18, _), (19, _), (20, _), (21, _), (22, _)] ⟨rfl, rfl, rfl, rfl, rfl, rfl, rfl, rfl, rfl, rfl, rfl, rfl, rfl, rfl, rfl, rfl, rfl, rfl, rfl, rfl, trivial⟩ ?_
      obtain rfl := Option.some.inj H
      exact HQ.next (a52, c53) ⟨rfl, rfl, rfl, rfl, rfl, rfl, trivial⟩ ⟨rfl, rfl, rfl, trivial⟩ rfl
    · refine HQ.condF rfl hc ?_
      clear hc
      refine HQ.exit ?_
      refine HQ.thenE ?_
      obtain rfl := Option.some.inj H
      exact HQ.out (a20, c21) ⟨rfl, rfl, rfl, rfl, rfl, rfl, trivial⟩ ⟨rfl, rfl, rfl, trivial⟩ rfl
  · rintro ⟨l56, i59⟩ rfl ⟨a57, c58⟩
    clear h60
    replace H := H
    refine HQ.keep [(1, _), (2, _), (3, _), (7, _), (8, _), (9, _)] ⟨rfl, rfl, rfl, rfl, rfl, rfl, trivial⟩ ?_
    refine HQ.keepR [(1, _), (2, _), (7, _)] ⟨rfl, rfl, rfl, trivial⟩ rfl ?_
    refine HQ.blkE ?_
    refine HQ.thenN ?_
    refine HQ.rseq ?_
    refine HQ.pu (Pu.fieldB fo84_0 rfl) ⟨rfl, trivial⟩ rfl rfl rfl ?_
    refine HQ.op [1] [1] (OT.loadB sc3 rfl) ⟨rfl, trivial⟩ ⟨rfl, trivial⟩ rfl rfl rfl rfl (fun _ => rfl) fun _ => ?_
    refine HQ.pu Pu.move ⟨rfl, trivial⟩ rfl rfl rfl ?_
    refine HQ.pu (Pu.build (us := [.int .i64 p0.Root, .slice a57 (List.length l56) c58]) (cs := [.int .i64 p0.Root, .slice a57 (List.length l56) c58]) [(0, .tmp 24), (1, .tmp 25)] st84 rfl rfl rfl) ⟨rfl, rfl, trivial⟩ rfl rfl rfl ?_
    refine HQ.opN [2] [2] [] (OT.storeC (cs' := [.int .i64 p0.Root, .slice a57 (List.length l56) c58]) sz84 rfl rfl rfl rfl rfl) ⟨rfl, rfl, trivial⟩ ⟨rfl, trivial⟩ rfl rfl rfl (fun _ => rfl) fun _ => ?_
    refine HQ.done ?_
    refine HQ.keep [(2, _)] ⟨rfl, trivial⟩ ?_
    refine HQ.ret ?_
    obtain rfl := Option.some.inj H
    exact HQ.fin (vs := [_]) Try.results84 (a57, c58) ⟨⟨_, _, 2, rfl, rfl, ag84, sz84, rfl⟩, trivial⟩ rfl [7] ⟨rfl, trivial⟩ rfl
  · exact fun r h a w hf => hf.elim

/-! impl.LastUsed -/
theorem impl_LastUsed_c {w : World} {k : Nat} {p0 : TBook} {a_0 : Option Addr} {c_0 : Nat} (hb_0 : BorS kTPage a_0 c_0 p0.L w.heap (Lt w Nil)) {r : Int} (H : impl_LastUsed k p0 = some r) :
    Calls Try.prog 85 #[.agg #[.int .i64 p0.Root, .slice a_0 (List.length p0.L) c_0]] w (Rt w Nil (fun _ : Unit => .int .i64 r) (fun _ => [])) := by
  rw [impl_LastUsed] at H
  refine Calls.enter0 (N := 19) (us := [_]) Try.func85 rfl rfl rfl ?_
  refine HQ.rseq ?_
  refine HQ.op [] [1] (OT.box (cs := [.int .i64 p0.Root, .slice a_0 (List.length p0.L) c_0]) rfl) ⟨rfl, trivial⟩ trivial rfl rfl rfl rfl (fun _ => rfl) fun b1 => ?_
  refine HQ.pu Pu.assign ⟨rfl, trivial⟩ rfl rfl rfl ?_
  refine HQ.done ?_
  refine HQ.keep [(1, _), (2, _)] ⟨rfl, rfl, trivial⟩ ?_
  refine HQ.seq ?_
  refine HQ.rseq ?_
  refine HQ.pu (Pu.fieldB fo84_1 rfl) ⟨rfl, trivial⟩ rfl rfl rfl ?_
  refine HQ.op [1] [1] (OT.loadB sc82 rfl) ⟨rfl, trivial⟩ ⟨rfl, trivial⟩ rfl rfl rfl rfl (fun _ => rfl) fun _ => ?_
  refine HQ.pu (Pu.len ul82) ⟨rfl, trivial⟩ rfl rfl rfl ?_
  refine HQ.pu Pu.sub ⟨rfl, rfl, trivial⟩ rfl rfl rfl ?_
  refine HQ.pu Pu.assign ⟨rfl, trivial⟩ rfl rfl rfl ?_
  refine HQ.done ?_
  refine HQ.keep [(1, _), (2, _), (3, _)] ⟨rfl, rfl, rfl, trivial⟩ ?_
  refine HQ.block ?_
  obtain ⟨o18, h20, H⟩ := bnd H
  refine HQ.loop h20 0 (fun (s : Int) (g : Unit) => match s, g with | i7, () => [(1, BP b1 0), (2, .int .i64 0), (3, .int .i64 i7)]) (fun (s : Int) (g : Unit) => match s, g with | i7, () => [(1, Box b1 [.int .i64 p0.Root, .slice a_0 (List.length p0.L) c_0])]) (fun r => bodyPost Try.prog Try.f85 (Rt w Nil (fun _ : Unit => .int .i64 r) (fun _ => [])) .ret) () ⟨rfl, rfl, rfl, trivial⟩ ⟨rfl, trivial⟩ rfl ?_ ?_ ?_
  · clear H h20
    rintro i7 _ o H
    rw [impl_LastUsed_b0] at H
    refine HQ.keep [(1, _), (2, _), (3, _)] ⟨rfl, rfl, rfl, trivial⟩ ?_
    refine HQ.keepR [(1, _)] ⟨rfl, trivial⟩ rfl ?_
    refine HQ.seq ?_
    refine HQ.rseq ?_
    refine HQ.pu Pu.move ⟨rfl, trivial⟩ rfl rfl rfl ?_
    refine HQ.pu Pu.geq ⟨rfl, rfl, trivial⟩ rfl rfl rfl ?_
    refine HQ.done ?_
    refine HQ.keep [(1, _), (2, _), (3, _), (8, _), (9, _)] ⟨rfl, rfl, rfl, rfl, rfl, trivial⟩ ?_
    rcases brk H with ⟨hc, H⟩ | ⟨hc, H⟩
    · refine HQ.condT rfl hc ?_
      clear hc
      refine HQ.skipThen ?_
      refine HQ.seq ?_
      refine HQ.block ?_
      refine HQ.rseq ?_
      refine HQ.pu (Pu.fieldB fo84_1 rfl) ⟨rfl, trivial⟩ rfl rfl rfl ?_
      refine HQ.op [1] [1] (OT.loadB sc82 rfl) ⟨rfl, trivial⟩ ⟨rfl, trivial⟩ rfl rfl rfl rfl (fun _ => rfl) fun _ => ?_
      refine HQ.pu Pu.move ⟨rfl, trivial⟩ rfl rfl rfl ?_
      obtain ⟨h13, H⟩ := asr H
      refine HQ.op [] [] (OT.indexB ul82 sz148 hb_0 h13) ⟨rfl, rfl, trivial⟩ trivial rfl rfl rfl rfl (fun _ => rfl) fun _ => ?_
      refine HQ.pu (Pu.fieldE fo148_0 rfl) ⟨rfl, trivial⟩ rfl rfl rfl ?_
      obtain ⟨⟨a14, c15⟩, hb16, hn17⟩ := BorS.nest hb_0 h13
      refine HQ.op [] [] (OT.loadN (v := .bool ((gt p0.L i7).Used)) sc4 hn17 hlTPage rfl) ⟨rfl, trivial⟩ trivial rfl rfl rfl rfl (fun _ => rfl) fun _ => ?_
      refine HQ.done ?_
      refine HQ.keep [(1, _), (2, _), (3, _), (8, _), (9, _), (12, _), (13, _), (14, _), (15, _), (16, _), (17, _)] ⟨rfl, rfl, rfl, rfl, rfl, rfl, rfl, rfl, rfl, rfl, rfl, trivial⟩ ?_
      rcases brk H with ⟨hc, H⟩ | ⟨hc, H⟩
      · refine HQ.condT rfl hc ?_
        clear hc
        refine HQ.rseq ?_
        refine HQ.pu Pu.move ⟨rfl, trivial⟩ rfl rfl rfl ?_
        refine HQ.pu Pu.assign ⟨rfl, trivial⟩ rfl rfl rfl ?_
        refine HQ.done ?_
        refine HQ.keep [(1, _), (2, _), (3, _), (8, _), (9, _), (12, _), (13, _), (14, _), (15, _), (16, _), (17, _), (18, _)] ⟨rfl, rfl, rfl, rfl, rfl, rfl, rfl, rfl, rfl, rfl, rfl, rfl, trivial⟩ ?_
        refine HQ.ret ?_
        refine HQ.blkR ?_
        refine HQ.thenR ?_
        obtain rfl := Option.some.inj H
        refine HQ.retL ?_
        exact HQ.fin (vs := [_]) Try.results85 () ⟨rfl, trivial⟩ rfl [] trivial rfl
      · refine HQ.condF rfl hc ?_
        clear hc
        refine HQ.skip ?_
        refine HQ.blkN ?_
        refine HQ.thenN ?_
        refine HQ.regionQ ?_
        refine HQ.pu Pu.move ⟨rfl, trivial⟩ rfl rfl rfl ?_
        refine HQ.pu Pu.sub ⟨rfl, rfl, trivial⟩ rfl rfl rfl ?_
        refine HQ.pu Pu.assign ⟨rfl, trivial⟩ rfl rfl rfl ?_
        refine HQ.done ?_
        refine HQ.keep [(1, _), (2, _), (3, _), (8, _), (9, _), (12, _), (13, _), (14, _), (15, _), (16, _), (17, _), (10, _), (11, _)] ⟨rfl, rfl, rfl, rfl, rfl, rfl, rfl, rfl, rfl, rfl, rfl, rfl, rfl, trivial⟩ ?_
        obtain rfl := Option.some.inj H
        exact HQ.next () ⟨rfl, rfl, rfl, trivial⟩ ⟨rfl, trivial⟩ rfl
    · refine HQ.condF rfl hc ?_
      clear hc
      refine HQ.exit ?_
      refine HQ.thenE ?_
      obtain rfl := Option.some.inj H
      exact HQ.out () ⟨rfl, rfl, rfl, trivial⟩ ⟨rfl, trivial⟩ rfl
  · rintro i19 rfl _
    clear h20
    replace H := H
    refine HQ.keep [(1, _), (2, _), (3, _)] ⟨rfl, rfl, rfl, trivial⟩ ?_
    refine HQ.keepR [(1, _)] ⟨rfl, trivial⟩ rfl ?_
    refine HQ.blkE ?_
    refine HQ.thenN ?_
    refine HQ.rseq ?_
    refine HQ.pu Pu.assign ⟨rfl, trivial⟩ rfl rfl rfl ?_
    refine HQ.done ?_
    refine HQ.keep [(2, _)] ⟨rfl, trivial⟩ ?_
    refine HQ.ret ?_
    obtain rfl := Option.some.inj H
    exact HQ.fin (vs := [_]) Try.results85 () ⟨rfl, trivial⟩ rfl [] trivial rfl
  · rintro r rfl a w hr
    obtain rfl := Option.some.inj H
    exact hr

/-! impl.Cut -/
theorem impl_Cut_c {w : World} {k : Nat} {p0 : TBook} {a_0 : Option Addr} {c_0 : Nat} (hb_0 : BorS kTPage a_0 c_0 p0.L w.heap (Lt w Nil)) {r : TBook} (H : impl_Cut k p0 = some r) :
    Calls Try.prog 43 #[.agg #[.int .i64 p0.Root, .slice a_0 (List.length p0.L) c_0]] w (Rt w Nil (fun g : Option Addr × Nat => .agg #[.int .i64 r.Root, .slice g.1 (List.length r.L) g.2]) (fun g => [OwnS kTPage g.1 g.2 r.L])) := by
  rw [impl_Cut] at H
  refine Calls.enter0 (N := 19) (us := [_]) Try.func43 rfl rfl rfl ?_
  refine HQ.rseq ?_
  refine HQ.op [] [1] (OT.box (cs := [.int .i64 p0.Root, .slice a_0 (List.length p0.L) c_0]) rfl) ⟨rfl, trivial⟩ trivial rfl rfl rfl rfl (fun _ => rfl) fun b1 => ?_
  refine HQ.op [] [2] (OT.alloc zc84) trivial trivial rfl rfl rfl rfl (fun _ => rfl) fun b2 => ?_
  refine HQ.done ?_
  refine HQ.keep [(1, _), (2, _)] ⟨rfl, rfl, trivial⟩ ?_
  refine HQ.rseq ?_
  refine HQ.op [1] [1] (OT.loadBA (vs := [.int .i64 p0.Root, .slice a_0 (List.length p0.L) c_0]) ag84 sz84 rfl rfl) ⟨rfl, trivial⟩ ⟨rfl, trivial⟩ rfl rfl rfl rfl (fun _ => rfl) fun _ => ?_
  obtain ⟨t3, h4, H⟩ := bnd H
  refine HQ.op [] [3] (OT.call (us := [_]) (Pre := []) [.tmp 4] Try.call84 rfl rfl fun w F hs hF hp => impl_copyBook_c (hb_0.pass hp) h4) ⟨rfl, rfl, trivial⟩ trivial rfl rfl rfl rfl (fun _ => rfl) fun ⟨a5, c6⟩ => ?_
  refine HQ.op [] [4] (OT.alloc zc84) trivial trivial rfl rfl rfl rfl (fun _ => rfl) fun b7 => ?_
  refine HQ.opN [4] [4] [] (OT.storeC (cs' := [.int .i64 t3.Root, .slice a5 (List.length t3.L) c6]) sz84 rfl rfl rfl rfl rfl) ⟨rfl, rfl, trivial⟩ ⟨rfl, trivial⟩ rfl rfl rfl (fun _ => rfl) fun _ => ?_
  refine HQ.done ?_
  refine HQ.keep [(1, _), (2, _), (3, _)] ⟨rfl, rfl, rfl, trivial⟩ ?_
  obtain ⟨t9, h10, H⟩ := bnd H
  refine HQ.drawS mixd [(1, BP b1 0), (2, BP b2 0), (3, BP b7 0)] 10 [⟨[], [], []⟩, ⟨[0], [0], [0]⟩, ⟨[], [], []⟩, ⟨[0], [0], [2]⟩, ⟨[], [], [3]⟩, ⟨[1], [1], []⟩, ⟨[], [], [5]⟩, ⟨[], [], [6]⟩, ⟨[], [], [7]⟩, ⟨[], [], [4, 8]⟩] [⟨none, none⟩, ⟨none, none⟩] (fun (g8 : Unit) => [BP b7 1, .slice a5 (List.length t3.L) c6, BP b7 1, .slice a5 (List.length t3.L) c6, .int .i64 ((List.length t3.L : Nat) : Int), .agg #[.int .i64 p0.Root, .slice a_0 (List.length p0.L) c_0], .int .i64 t9, .int .i64 (if 0 > t9 then 0 else t9), .int .i64 (wrap64 ((if 0 > t9 then 0 else t9) + 1)), .int .i64 (if (wrap64 ((if 0 > t9 then 0 else t9) + 1)) < ((List.length t3.L : Nat) : Int) then (wrap64 ((if 0 > t9 then 0 else t9) + 1)) else ((List.length t3.L : Nat) : Int))]) (fun (g8 : Unit) => [Box b7 [.int .i64 t3.Root, .slice a5 (List.length t3.L) c6], Box b1 [.int .i64 p0.Root, .slice a_0 (List.length p0.L) c_0]]) () [4, 1] [4, 1] [] ⟨rfl, rfl, rfl, trivial⟩ ⟨rfl, rfl, trivial⟩ rfl (by kernel_rfl) (fun _ => rfl) (by kernel_rfl) (fun _ => rfl) ⟨?_, ?_, ?_, ?_, ?_, ?_, ?_, ?_, ?_, ?_, trivial⟩ fun g8 => ?_
  · exact OpOK.of (fun g8 => [(.tmp 3, BP b7 0)]) _ _ (fun g8 _ => g8) rfl rfl (fun _ => ⟨rfl, trivial⟩) (fun g8 => Pu.toOT (Pu.fieldB fo84_1 rfl)) (fun _ _ => ⟨rfl, rfl, ⟨rfl, rfl, trivial⟩⟩)
  · exact OpOK.of (fun g8 => [(.tmp 6, BP b7 1)]) _ _ (fun g8 _ => g8) rfl rfl (fun _ => ⟨rfl, trivial⟩) (fun g8 => OT.loadB sc82 rfl) (fun _ _ => ⟨rfl, rfl, ⟨rfl, rfl, trivial⟩⟩)
  · exact OpOK.of (fun g8 => [(.tmp 3, BP b7 0)]) _ _ (fun g8 _ => g8) rfl rfl (fun _ => ⟨rfl, trivial⟩) (fun g8 => Pu.toOT (Pu.fieldB fo84_1 rfl)) (fun _ _ => ⟨rfl, rfl, ⟨rfl, rfl, trivial⟩⟩)
  · exact OpOK.of (fun g8 => [(.tmp 8, BP b7 1)]) _ _ (fun g8 _ => g8) rfl rfl (fun _ => ⟨rfl, trivial⟩) (fun g8 => OT.loadB sc82 rfl) (fun _ _ => ⟨rfl, rfl, ⟨rfl, rfl, trivial⟩⟩)
  · exact OpOK.of (fun g8 => [(.tmp 9, .slice a5 (List.length t3.L) c6)]) _ _ (fun g8 _ => g8) rfl rfl (fun _ => ⟨rfl, trivial⟩) (fun g8 => Pu.toOT (Pu.len ul82)) (fun _ _ => ⟨rfl, rfl, ⟨rfl, rfl, trivial⟩⟩)
  · exact OpOK.of (fun g8 => [(.tmp 1, BP b1 0)]) _ _ (fun g8 _ => g8) rfl rfl (fun _ => ⟨rfl, trivial⟩) (fun g8 => OT.loadBA (vs := [.int .i64 p0.Root, .slice a_0 (List.length p0.L) c_0]) ag84 sz84 rfl rfl) (fun _ _ => ⟨rfl, rfl, ⟨rfl, rfl, trivial⟩⟩)
  · exact OpOK.of (fun g8 => [(.func 85, .func (.func 85) #[] #[]), (.tmp 11, .agg #[.int .i64 p0.Root, .slice a_0 (List.length p0.L) c_0])]) _ _ (fun g8 _ => g8) rfl rfl (fun _ => ⟨rfl, rfl, trivial⟩) (fun g8 => OT.call (us := [_]) (Pre := []) [.tmp 11] Try.call85 rfl rfl fun w F hs hF hp => impl_LastUsed_c (hb_0.pass hp) h10) (fun _ _ => ⟨rfl, rfl, ⟨rfl, rfl, trivial⟩⟩)
  · exact OpOK.of (fun g8 => [(.tmp 12, .int .i64 t9), (.const (.int .i64 0), .int .i64 0)]) _ _ (fun g8 _ => g8) rfl rfl (fun _ => ⟨rfl, rfl, trivial⟩) (fun g8 => Pu.toOT Pu.max) (fun _ _ => ⟨rfl, rfl, ⟨rfl, rfl, trivial⟩⟩)
  · exact OpOK.of (fun g8 => [(.tmp 13, .int .i64 (if 0 > t9 then 0 else t9)), (.const (.int .i64 1), .int .i64 1)]) _ _ (fun g8 _ => g8) rfl rfl (fun _ => ⟨rfl, rfl, trivial⟩) (fun g8 => Pu.toOT Pu.add) (fun _ _ => ⟨rfl, rfl, ⟨rfl, rfl, trivial⟩⟩)
  · exact OpOK.of (fun g8 => [(.tmp 10, .int .i64 ((List.length t3.L : Nat) : Int)), (.tmp 14, .int .i64 (wrap64 ((if 0 > t9 then 0 else t9) + 1)))]) _ _ (fun g8 _ => g8) rfl rfl (fun _ => ⟨rfl, rfl, trivial⟩) (fun g8 => Pu.toOT Pu.min) (fun _ _ => ⟨rfl, rfl, ⟨rfl, rfl, trivial⟩⟩)
  refine HQ.keep [(2, _), (3, _), (7, _), (15, _)] ⟨rfl, rfl, rfl, rfl, trivial⟩ ?_
  refine HQ.keepR [(1, _), (2, _), (3, _), (4, _)] ⟨rfl, rfl, rfl, rfl, trivial⟩ rfl ?_
  obtain ⟨h11, H⟩ := asr H
  refine HQ.op [3] [3] (OT.cutO (vs := [(.tmp 15, .int .i64 (if (wrap64 ((if 0 > t9 then 0 else t9) + 1)) < ((List.length t3.L : Nat) : Int) then (wrap64 ((if 0 > t9 then 0 else t9) + 1)) else ((List.length t3.L : Nat) : Int)))]) (K := kTPage) (l := 0) (h := (if (wrap64 ((if 0 > t9 then 0 else t9) + 1)) < ((List.length t3.L : Nat) : Int) then (wrap64 ((if 0 > t9 then 0 else t9) + 1)) else ((List.length t3.L : Nat) : Int))) ul82 sz148 (.inl ⟨rfl, rfl⟩) (.inr ⟨_, _, rfl, .tail _ (.head _)⟩) h11) ⟨rfl, rfl, trivial⟩ ⟨rfl, trivial⟩ rfl rfl rfl rfl (fun _ => rfl) fun _ => ?_
  refine HQ.pu (Pu.fieldB fo84_1 rfl) ⟨rfl, trivial⟩ rfl rfl rfl ?_
  refine HQ.opN [4] [4] [] (OT.storeC (cs' := [.int .i64 t3.Root, .slice (sAd a5 c6 3 0) (List.length (slc t3.L 0 (if (wrap64 ((if 0 > t9 then 0 else t9) + 1)) < ((List.length t3.L : Nat) : Int) then (wrap64 ((if 0 > t9 then 0 else t9) + 1)) else ((List.length t3.L : Nat) : Int)))) (c6 - Int.toNat 0)]) sz82 rfl rfl rfl rfl rfl) ⟨rfl, rfl, trivial⟩ ⟨rfl, trivial⟩ rfl rfl rfl (fun _ => rfl) fun _ => ?_
  refine HQ.done ?_
  refine HQ.keep [(2, _), (3, _)] ⟨rfl, rfl, trivial⟩ ?_
  refine HQ.rseq ?_
  refine HQ.op [4] [4] (OT.loadBA (vs := [.int .i64 t3.Root, .slice (sAd a5 c6 3 0) (List.length (slc t3.L 0 (if (wrap64 ((if 0 > t9 then 0 else t9) + 1)) < ((List.length t3.L : Nat) : Int) then (wrap64 ((if 0 > t9 then 0 else t9) + 1)) else ((List.length t3.L : Nat) : Int)))) (c6 - Int.toNat 0)]) ag84 sz84 rfl rfl) ⟨rfl, trivial⟩ ⟨rfl, trivial⟩ rfl rfl rfl rfl (fun _ => rfl) fun _ => ?_
  refine HQ.opN [2] [2] [] (OT.storeC (cs' := [.int .i64 t3.Root, .slice (sAd a5 c6 3 0) (List.length (slc t3.L 0 (if (wrap64 ((if 0 > t9 then 0 else t9) + 1)) < ((List.length t3.L : Nat) : Int) then (wrap64 ((if 0 > t9 then 0 else t9) + 1)) else ((List.length t3.L : Nat) : Int)))) (c6 - Int.toNat 0)]) sz84 rfl rfl rfl rfl rfl) ⟨rfl, rfl, trivial⟩ ⟨rfl, trivial⟩ rfl rfl rfl (fun _ => rfl) fun _ => ?_
  refine HQ.done ?_
  refine HQ.keep [(2, _)] ⟨rfl, trivial⟩ ?_
  refine HQ.ret ?_
  obtain rfl := Option.some.inj H
  exact HQ.fin (vs := [_]) Try.results43 ((sAd a5 c6 3 0), (c6 - Int.toNat 0)) ⟨⟨_, _, 2, rfl, rfl, ag84, sz84, rfl⟩, trivial⟩ rfl [3] ⟨rfl, trivial⟩ rfl

end Go.Proofs.Sx
