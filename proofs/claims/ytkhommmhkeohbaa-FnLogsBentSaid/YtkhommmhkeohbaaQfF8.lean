import Derived.Test.YtkhommmhkeohbaaQfF7
import Derived.KernelRfl
namespace Go.Proofs.Sx
open Go.RowKit
set_option linter.unusedVariables false
set_option linter.unusedSimpArgs false
set_option maxRecDepth 20000
set_option maxHeartbeats 1000000
theorem impl_TxCells_c {w : World} {k : Nat} {p0 : Int} {p1 : TTx} {a_0 : Option Addr} {c_0 : Nat} (hb_0 : BorS kTChange a_0 c_0 p1.Puts w.heap (Lt w Nil)) {r : (List (List Int))} (H : impl_TxCells k p0 p1 = some r) :
  Calls Try.prog 64 #[vI p0, .agg #[vI p1.Seq, vI p1.Root, vI p1.Size, vS a_0 p1.Puts c_0]] w (Rt w Nil (fun g : Option Addr × Nat => vS g.1 r g.2) (fun g => [OwnS (kS kU8) g.1 g.2 r])) := by
 rw [impl_TxCells] at H
 refine Calls.enter0 (N := 33) (us := [_, _]) Try.func64 rfl rfl rfl ?_
 refine HQ.rseq ?_
 refine op [] [1] (OT.box (cs := [vI p1.Seq, vI p1.Root, vI p1.Size, vS a_0 p1.Puts c_0]) rfl) z1 trivial z4 (fun _ => rfl) fun b1 => ?_
 refine pu Pu.assign z1 z3 ?_
 refine HQ.done ?_
 refine HQ.keep [(0, _), (3, _), (4, _)] z3 ?_
 refine HQ.rseq ?_
 refine pu Pu.move z1 z3 ?_
 refine op [1] [1] (OT.loadBA (vs := [vI p1.Seq, vI p1.Root, vI p1.Size, vS a_0 p1.Puts c_0]) ag57 sz57 rfl rfl) z1 z1 z4 (fun _ => rfl) fun _ => ?_
 obtain ⟨t2, h3, H⟩ := bnd H
 refine op [] [2] (OT.call (us := [_, _]) (Pre := []) [.tmp 9, .tmp 10] Try.call30 rfl rfl fun w F hs hF hp => impl_EndCell_c (hb_0.pass hp) h3) z3 trivial z4 (fun _ => rfl) fun ⟨a4, c5⟩ => ?_
 refine pu Pu.assign z1 z3 ?_
 refine HQ.done ?_
 refine HQ.keep [(0, _), (3, _), (4, _), (5, _)] z4 ?_
 refine HQ.seq ?_
 refine HQ.rseq ?_
 refine pu Pu.move z1 z3 ?_
 refine pu (Pu.len ul22) z1 z3 ?_
 refine pu Pu.eql z2 z3 ?_
 refine HQ.done ?_
 refine HQ.keep [(0, _), (3, _), (4, _), (5, _), (14, _)] z5 ?_
 rcases brk H with ⟨hc, H⟩ | ⟨hc, H⟩
 ·refine HQ.condT rfl hc ?_
  clear hc
  refine HQ.rseq ?_
  refine pu Pu.assign z1 z3 ?_
  refine HQ.done ?_
  refine HQ.keep [(0, _), (3, _), (4, _), (5, _)] z4 ?_
  refine HQ.ret ?_
  refine HQ.thenR ?_
  obtain rfl := Option.some.inj H
  refine HQ.nil (kS kU8) 3 rfl ?_
  exact HQ.fin (vs := [_]) Try.results64 (none, 0) z1 rfl [3] z1 rfl
 ·refine HQ.condF rfl hc ?_
  clear hc
  refine HQ.skipThen ?_
  refine HQ.rseq ?_
  refine pu Pu.assign z1 z3 ?_
  refine HQ.done ?_
  refine HQ.keep [(0, _), (3, _), (4, _), (5, _), (6, _)] z5 ?_
  refine HQ.seq ?_
  refine HQ.rseq ?_
  refine pu (Pu.fieldB fo57_3 rfl) z1 z3 ?_
  refine op [1] [1] (OT.loadB sc55 rfl) z1 z1 z4 (fun _ => rfl) fun _ => ?_
  refine pu (Pu.len ul55) z1 z3 ?_
  refine pu Pu.move z1 z3 ?_
  refine HQ.done ?_
  refine HQ.keep [(0, _), (4, _), (5, _), (6, _), (16, _), (17, _), (18, _)] z7 ?_
  refine HQ.block ?_
  refine HQ.nil (kS kU8) 8 rfl ?_
  obtain ⟨o55, h65, H⟩ := bnd H
  refine HQ.loop h65 0 (fun (s : (List (List Int)) × Int) (g : Option Addr × Nat) => match s, g with | (l21, i24), (a22, c23) => [(0, vI p0), (4, .slice none 0 0), (5, vS a4 t2 c5), (6, vS a22 l21 c23), (16, vS a_0 p1.Puts c_0), (17, vI ((List.length p1.Puts : Nat) : Int)), (18, vI i24)]) (fun (s : (List (List Int)) × Int) (g : Option Addr × Nat) => match s, g with | (l21, i24), (a22, c23) => [(2, OwnS kU8 a4 c5 t2), (8, OwnS (kS kU8) a22 c23 l21)]) (fun _ _ _ => False) (none, 0) z7 z2 rfl ?_ ?_ ?_
  ·clear H h65
   rintro ⟨l21, i24⟩ ⟨a22, c23⟩ o H
   rw [impl_TxCells_b0] at H
   refine HQ.keep [(0, _), (4, _), (5, _), (6, _), (16, _), (17, _), (18, _)] z7 ?_
   refine HQ.keepR [(2, _), (8, _)] z2 rfl ?_
   refine HQ.rseq ?_
   refine pu Pu.lss z2 z3 ?_
   refine HQ.done ?_
   refine HQ.keep [(0, _), (4, _), (5, _), (6, _), (16, _), (17, _), (18, _), (19, _)] z8 ?_
   refine HQ.seq ?_
   rcases brk H with ⟨hc, H⟩ | ⟨hc, H⟩
   ·refine HQ.condT rfl hc ?_
    clear hc
    refine HQ.skipThen ?_
    refine HQ.seq ?_
    refine HQ.block ?_
    refine HQ.rseq ?_
    obtain ⟨h40, H⟩ := asr H
    refine op [] [] (OT.indexB ul55 sz49 hb_0 h40) z2 trivial z4 (fun _ => rfl) fun _ => ?_
    obtain ⟨⟨a41, c42⟩, hb43, hn44⟩ := BorS.nest hb_0 h40
    refine op [] [] (OT.loadNA (vs := [vI ((gt p1.Puts i24).Page), .bool ((gt p1.Puts i24).N.Leaf), vS a41 ((gt p1.Puts i24).N.L) c42]) ag49 sz49 hn44 hlTChange rfl rfl) z1 trivial z4 (fun _ => rfl) fun _ => ?_
    refine op [] [12] (OT.alloc zc49) trivial trivial z4 (fun _ => rfl) fun b45 => ?_
    refine HQ.opN [12] [12] [] (OT.storeC (cs' := [vI ((gt p1.Puts i24).Page), .bool ((gt p1.Puts i24).N.Leaf), vS a41 ((gt p1.Puts i24).N.L) c42]) sz49 rfl rfl rfl rfl rfl) z2 z1 rfl rfl rfl (fun _ => rfl) fun _ => ?_
    refine HQ.done ?_
    refine HQ.keep [(0, _), (4, _), (5, _), (6, _), (16, _), (17, _), (18, _), (8, _)] z8 ?_
    refine HQ.regionQ ?_
    refine pu Pu.move z1 z3 ?_
    refine pu Pu.move z1 z3 ?_
    refine op [12] [12] (OT.loadBA (vs := [vI ((gt p1.Puts i24).Page), .bool ((gt p1.Puts i24).N.Leaf), vS a41 ((gt p1.Puts i24).N.L) c42]) ag49 sz49 rfl rfl) z1 z1 z4 (fun _ => rfl) fun _ => ?_
    obtain ⟨t46, h47, H⟩ := bnd H
    refine op [] [13] (OT.call (us := [_, _]) (Pre := []) [.tmp 23, .tmp 24] Try.call27 rfl rfl fun w F hs hF hp => impl_PutCell_c (hb43.pass hp) h47) z3 trivial z4 (fun _ => rfl) fun ⟨a48, c49⟩ => ?_
    refine HQ.opD [13] [14] [13] (OT.buildO (u := vS a48 t46 c49) (enc := (fun _ v => [v])) (hl := fun _ v hv => ⟨rfl, by simp [hv]⟩) (sub := id) (.tmp 25) t46 sl91.ul sl91.szE sl91.zc rfl rfl rfl rfl) z1 z1 rfl rfl rfl rfl (fun _ => rfl) fun ⟨a50, c51⟩ => ?_
    obtain ⟨h54, H⟩ := asr H
    refine HQ.opD [8, 14] [8] [14] (OT.appendO (K := (kS kU8)) sl91 ul91 h54) z2 z2 rfl rfl rfl rfl (fun _ => rfl) fun ⟨a52, c53⟩ => ?_
    refine pu Pu.assign z1 z3 ?_
    refine HQ.done ?_
    refine HQ.keep [(0, _), (4, _), (5, _), (6, _), (16, _), (17, _), (18, _)] z7 ?_
    refine HQ.blkN ?_
    refine HQ.thenN ?_
    refine HQ.regionQ ?_
    refine pu Pu.add z2 z3 ?_
    refine pu Pu.move z1 z3 ?_
    refine HQ.done ?_
    refine HQ.keep [(0, _), (4, _), (5, _), (6, _), (16, _), (17, _), (18, _)] z7 ?_
    obtain rfl := Option.some.inj H
    exact HQ.next (a52, c53) z7 z2 rfl
   ·refine HQ.condF rfl hc ?_
    clear hc
    refine HQ.exit ?_
    refine HQ.thenE ?_
    obtain rfl := Option.some.inj H
    exact HQ.out (a22, c23) z7 z2 rfl
  ·rintro ⟨l56, i59⟩ rfl ⟨a57, c58⟩
   clear h65
   replace H := H
   refine HQ.keep [(0, _), (4, _), (5, _), (6, _), (16, _), (17, _), (18, _)] z7 ?_
   refine HQ.keepR [(2, _), (8, _)] z2 rfl ?_
   refine HQ.blkE ?_
   refine HQ.thenN ?_
   refine HQ.rseq ?_
   refine pu Pu.move z1 z3 ?_
   refine pu Pu.move z1 z3 ?_
   refine HQ.opD [2] [15] [2] (OT.buildO (u := vS a4 t2 c5) (enc := (fun _ v => [v])) (hl := fun _ v hv => ⟨rfl, by simp [hv]⟩) (sub := id) (.tmp 30) t2 sl91.ul sl91.szE sl91.zc rfl rfl rfl rfl) z1 z1 rfl rfl rfl rfl (fun _ => rfl) fun ⟨a60, c61⟩ => ?_
   obtain ⟨h64, H⟩ := asr H
   refine HQ.opD [8, 15] [8] [15] (OT.appendO (K := (kS kU8)) sl91 ul91 h64) z2 z2 rfl rfl rfl rfl (fun _ => rfl) fun ⟨a62, c63⟩ => ?_
   refine pu Pu.assign z1 z3 ?_
   refine HQ.done ?_
   refine HQ.keep [(4, _)] z1 ?_
   refine HQ.ret ?_
   obtain rfl := Option.some.inj H
   exact HQ.fin (vs := [_]) Try.results64 (a62, c63) z1 rfl [8] z1 rfl
  ·exact fun r h a w hf => hf.elim

theorem impl_copyDisk_c {w : World} {k : Nat} {p0 : TDisk} {a_0 : Option Addr} {c_0 : Nat} {a_1 : Option Addr} {c_1 : Nat} (hb_0 : BorS kTCell a_0 c_0 p0.Cells w.heap (Lt w Nil)) (hb_1 : BorS kTWet a_1 c_1 p0.Wet w.heap (Lt w Nil)) {r : TDisk} (H : impl_copyDisk k p0 = some r) :
  Calls Try.prog 81 #[.agg #[vS a_0 p0.Cells c_0, vS a_1 p0.Wet c_1, vI p0.Fuse, .bool p0.Dead]] w (Rt w Nil (fun g : (Option Addr × Nat) × (Option Addr × Nat) => .agg #[vS g.1.1 r.Cells g.1.2, vS g.2.1 r.Wet g.2.2, vI r.Fuse, .bool r.Dead]) (fun g => [OwnS kTCell g.1.1 g.1.2 r.Cells, OwnS kTWet g.2.1 g.2.2 r.Wet])) := by
 rw [impl_copyDisk] at H
 refine Calls.enter0 (N := 52) (us := [_]) Try.func81 rfl rfl rfl ?_
 refine HQ.rseq ?_
 refine op [] [1] (OT.box (cs := [vS a_0 p0.Cells c_0, vS a_1 p0.Wet c_1, vI p0.Fuse, .bool p0.Dead]) rfl) z1 trivial z4 (fun _ => rfl) fun b1 => ?_
 refine op [] [2] (OT.alloc zc27) trivial trivial z4 (fun _ => rfl) fun b2 => ?_
 refine HQ.done ?_
 refine HQ.keep [(1, _), (2, _)] z2 ?_
 refine HQ.rseq ?_
 refine pu (Pu.fieldB fo27_2 rfl) z1 z3 ?_
 refine op [1] [1] (OT.loadB sc3 rfl) z1 z1 z4 (fun _ => rfl) fun _ => ?_
 refine pu (Pu.fieldB fo27_3 rfl) z1 z3 ?_
 refine op [1] [1] (OT.loadB sc4 rfl) z1 z1 z4 (fun _ => rfl) fun _ => ?_
 refine pu (Pu.build (us := [vI p0.Fuse, .bool p0.Dead]) (cs := [.slice none 0 0, .slice none 0 0, vI p0.Fuse, .bool p0.Dead]) [(2, .tmp 9), (3, .tmp 11)] st27 rfl rfl rfl) z2 z3 ?_
 refine op [] [3] (OT.alloc zc27) trivial trivial z4 (fun _ => rfl) fun b3 => ?_
 refine HQ.opN [3] [3] [] (OT.storeC (cs' := [.slice none 0 0, .slice none 0 0, vI p0.Fuse, .bool p0.Dead]) sz27 rfl rfl rfl rfl rfl) z2 z1 rfl rfl rfl (fun _ => rfl) fun _ => ?_
 refine HQ.done ?_
 refine HQ.keep [(1, _), (2, _), (3, _)] z3 ?_
 refine HQ.seq ?_
 refine HQ.rseq ?_
 refine pu (Pu.fieldB fo27_0 rfl) z1 z3 ?_
 refine op [1] [1] (OT.loadB sc24 rfl) z1 z1 z4 (fun _ => rfl) fun _ => ?_
 refine pu (Pu.len ul24) z1 z3 ?_
 refine pu Pu.move z1 z3 ?_
 refine HQ.done ?_
 refine HQ.keep [(1, _), (2, _), (3, _), (14, _), (15, _), (16, _)] z6 ?_
 refine HQ.block ?_
 refine HQ.nil kTCell 8 rfl ?_
 obtain ⟨o56, h119, H⟩ := bnd H
 refine HQ.loop h119 0 (fun (s : Int × (List TCell)) (g : Option Addr × Nat) => match s, g with | (i20, l21), (a22, c23) => [(1, BP b1 0), (2, BP b2 0), (3, BP b3 0), (14, vS a_0 p0.Cells c_0), (15, vI ((List.length p0.Cells : Nat) : Int)), (16, vI i20)]) (fun (s : Int × (List TCell)) (g : Option Addr × Nat) => match s, g with | (i20, l21), (a22, c23) => [(1, Box b1 [vS a_0 p0.Cells c_0, vS a_1 p0.Wet c_1, vI p0.Fuse, .bool p0.Dead]), (2, Box b2 [.slice none 0 0, .slice none 0 0, vI 0, .bool false]), (3, Box b3 [vS a22 l21 c23, .slice none 0 0, vI p0.Fuse, .bool p0.Dead]), (8, OwnS kTCell a22 c23 l21)]) (fun _ _ _ => False) (none, 0) z6 z4 rfl ?_ ?_ ?_
 ·clear H h119
  rintro ⟨i20, l21⟩ ⟨a22, c23⟩ o H
  rw [impl_copyDisk_b0] at H
  refine HQ.keep [(1, _), (2, _), (3, _), (14, _), (15, _), (16, _)] z6 ?_
  refine HQ.keepR [(1, _), (2, _), (3, _), (8, _)] z4 rfl ?_
  refine HQ.rseq ?_
  refine pu Pu.lss z2 z3 ?_
  refine HQ.done ?_
  refine HQ.keep [(1, _), (2, _), (3, _), (14, _), (15, _), (16, _), (17, _)] z7 ?_
  refine HQ.seq ?_
  rcases brk H with ⟨hc, H⟩ | ⟨hc, H⟩
  ·refine HQ.condT rfl hc ?_
   clear hc
   refine HQ.skipThen ?_
   refine HQ.seq ?_
   refine HQ.block ?_
   refine HQ.rseq ?_
   obtain ⟨h40, H⟩ := asr H
   refine op [] [] (OT.indexB ul24 sz113 hb_0 h40) z2 trivial z4 (fun _ => rfl) fun _ => ?_
   obtain ⟨⟨a41, c42⟩, hb43, hn44⟩ := BorS.nest hb_0 h40
   refine op [] [] (OT.loadNA (vs := [.bool ((gt p0.Cells i20).Bad), vS a41 ((gt p0.Cells i20).B) c42]) ag113 sz113 hn44 hlTCell rfl rfl) z1 trivial z4 (fun _ => rfl) fun _ => ?_
   refine op [] [12] (OT.alloc zc113) trivial trivial z4 (fun _ => rfl) fun b45 => ?_
   refine HQ.opN [12] [12] [] (OT.storeC (cs' := [.bool ((gt p0.Cells i20).Bad), vS a41 ((gt p0.Cells i20).B) c42]) sz113 rfl rfl rfl rfl rfl) z2 z1 rfl rfl rfl (fun _ => rfl) fun _ => ?_
   refine HQ.done ?_
   refine HQ.keep [(1, _), (2, _), (3, _), (14, _), (15, _), (16, _), (5, _)] z7 ?_
   refine HQ.dStart mixd ?_
   obtain ⟨t47, h48, H⟩ := bnd H
   refine HQ.dPart [(1, BP b1 0), (2, BP b2 0), (3, BP b3 0), (14, vS a_0 p0.Cells c_0), (15, vI ((List.length p0.Cells : Nat) : Int)), (16, vI i20), (5, BP b45 0)] 9 [⟨[], [], []⟩, ⟨[0], [0], [0]⟩, ⟨[], [], []⟩, ⟨[1], [1], [2]⟩, ⟨[], [], []⟩, ⟨[1], [1], [4]⟩, ⟨[], [2], [5]⟩, ⟨[], [], [3, 6]⟩, ⟨[2], [3], [7]⟩] [⟨none, none⟩, ⟨none, none⟩, ⟨some 6, some 8⟩, ⟨some 8, none⟩] (fun (g46 : (Option Addr × Nat) × (Option Addr × Nat)) => [BP b3 0, vS a22 l21 c23, BP b45 0, .bool ((gt p0.Cells i20).Bad), BP b45 1, vS a41 ((gt p0.Cells i20).B) c42, vS g46.1.1 t47 g46.1.2, .agg #[.bool ((gt p0.Cells i20).Bad), vS g46.1.1 t47 g46.1.2], vS g46.2.1 ([(⟨(gt p0.Cells i20).Bad, t47⟩ : TCell)] : (List TCell)) g46.2.2]) (fun (g46 : (Option Addr × Nat) × (Option Addr × Nat)) => [Box b3 [vS a22 l21 c23, .slice none 0 0, vI p0.Fuse, .bool p0.Dead], Box b45 [.bool ((gt p0.Cells i20).Bad), vS a41 ((gt p0.Cells i20).B) c42], OwnS kU8 g46.1.1 g46.1.2 t47, OwnS kTCell g46.2.1 g46.2.2 ([(⟨(gt p0.Cells i20).Bad, t47⟩ : TCell)] : (List TCell))]) ((none, 0), (none, 0)) [3, 12] [3, 12, 14] [] z7 z2 rfl (by kernel_rfl) (by kernel_rfl) (fun _ => rfl) (by kernel_rfl) (fun _ => rfl) rfl ⟨?_, ?_, ?_, ?_, ?_, ?_, ?_, ?_, ?_, trivial⟩ fun g46 => ?_
   ·exact OpOK2.pu (fun g46 => [(.tmp 3, BP b3 0)]) z2 (fun _ => z1) (fun _ => (Pu.fieldB fo27_0 rfl)) (fun _ => z1) (fun _ _ => z6)
   ·exact OpOK2.of (fun g46 => [(.tmp 20, BP b3 0)]) _ _ (fun g46 _ => g46) rfl rfl (fun _ => z1) (fun g46 => OT.loadB sc24 rfl) (fun _ _ => z6)
   ·exact OpOK2.pu (fun g46 => [(.tmp 5, BP b45 0)]) z2 (fun _ => z1) (fun _ => (Pu.fieldB fo113_0 rfl)) (fun _ => z1) (fun _ _ => z6)
   ·exact OpOK2.of (fun g46 => [(.tmp 22, BP b45 0)]) _ _ (fun g46 _ => g46) rfl rfl (fun _ => z1) (fun g46 => OT.loadB sc4 rfl) (fun _ _ => z6)
   ·exact OpOK2.pu (fun g46 => [(.tmp 5, BP b45 0)]) z2 (fun _ => z1) (fun _ => (Pu.fieldB fo113_1 rfl)) (fun _ => z1) (fun _ _ => z6)
   ·exact OpOK2.of (fun g46 => [(.tmp 24, BP b45 1)]) _ _ (fun g46 _ => g46) rfl rfl (fun _ => z1) (fun g46 => OT.loadB sc22 rfl) (fun _ _ => z6)
   ·exact OpOK2.ofD [7] (by kernel_rfl) (fun g46 => [(.func 88, .func (.func 88) #[] #[]), (.tmp 25, vS a41 ((gt p0.Cells i20).B) c42)]) _ _ (fun g46 x => (x, g46.2)) rfl rfl (fun _ => z2) (fun g46 => OT.call (us := [_]) (Pre := []) [.tmp 25] Try.call88 rfl rfl fun w F hs hF hp => slices_Clone_byte_byte_c (hb43.pass hp) h48) (fun _ _ => ⟨⟨rfl, rfl, rfl, rfl, rfl, rfl, rfl, trivial, rfl, trivial⟩, rfl, z4⟩)
   ·exact OpOK2.pu (fun g46 => [(.tmp 23, .bool ((gt p0.Cells i20).Bad)), (.tmp 26, vS g46.1.1 t47 g46.1.2)]) z2 (fun _ => z2) (fun g46 => (Pu.build (us := [.bool ((gt p0.Cells i20).Bad), vS g46.1.1 t47 g46.1.2]) (cs := [.bool ((gt p0.Cells i20).Bad), vS g46.1.1 t47 g46.1.2]) [(0, .tmp 23), (1, .tmp 26)] st113 rfl rfl rfl)) (fun _ => z1) (fun _ _ => z6)
   ·exact OpOK2.of (fun g46 => [(.tmp 27, .agg #[.bool ((gt p0.Cells i20).Bad), vS g46.1.1 t47 g46.1.2])]) _ _ (fun g46 x => (g46.1, x)) rfl rfl (fun _ => z1) (fun g46 => OT.buildO (u := .agg #[.bool ((gt p0.Cells i20).Bad), vS g46.1.1 t47 g46.1.2]) (enc := encTCell) (hl := hlTCell) (sub := fun (x : TCell) => x.B) (.tmp 27) (⟨(gt p0.Cells i20).Bad, t47⟩ : TCell) sl24.ul sl24.szE sl24.zc rfl rfl rfl rfl) (fun _ _ => z6)
   refine HQ.keep [(1, _), (2, _), (3, _), (14, _), (15, _), (16, _), (21, _), (28, _)] z8 ?_
   refine HQ.keepR [(1, _), (2, _), (3, _), (8, _), (12, _), (14, _)] z6 rfl ?_
   refine HQ.dRun 3 rfl rfl (by kernel_rfl) (by kernel_rfl) ?_
   obtain ⟨h55, H⟩ := asr H
   refine HQ.opD [8, 14] [8] [14] (OT.appendO (K := kTCell) sl24 ul24 h55) z2 z2 rfl rfl rfl rfl (fun _ => rfl) fun ⟨a53, c54⟩ => ?_
   refine pu (Pu.fieldB fo27_0 rfl) z1 z3 ?_
   refine HQ.opN [3] [3] [] (OT.storeC (cs' := [vS a53 (l21 ++ ([(⟨(gt p0.Cells i20).Bad, t47⟩ : TCell)] : (List TCell))) c54, .slice none 0 0, vI p0.Fuse, .bool p0.Dead]) sz24 rfl rfl rfl rfl rfl) z2 z1 rfl rfl rfl (fun _ => rfl) fun _ => ?_
   refine HQ.done ?_
   refine HQ.dEnd rfl ?_
   refine HQ.keep [(1, _), (2, _), (3, _), (14, _), (15, _), (16, _)] z6 ?_
   refine HQ.blkN ?_
   refine HQ.thenN ?_
   refine HQ.regionQ ?_
   refine pu Pu.add z2 z3 ?_
   refine pu Pu.move z1 z3 ?_
   refine HQ.done ?_
   refine HQ.keep [(1, _), (2, _), (3, _), (14, _), (15, _), (16, _)] z6 ?_
   obtain rfl := Option.some.inj H
   exact HQ.next (a53, c54) z6 z4 rfl
  ·refine HQ.condF rfl hc ?_
   clear hc
   refine HQ.exit ?_
   refine HQ.thenE ?_
   obtain rfl := Option.some.inj H
   exact HQ.out (a22, c23) z6 z4 rfl
 ·rintro ⟨i57, l58⟩ rfl ⟨a59, c60⟩
  clear h119
  replace H := H
  refine HQ.keep [(1, _), (2, _), (3, _), (14, _), (15, _), (16, _)] z6 ?_
  refine HQ.keepR [(1, _), (2, _), (3, _), (8, _)] z4 rfl ?_
  refine HQ.blkE ?_
  refine HQ.thenN ?_
  refine HQ.seq ?_
  refine HQ.rseq ?_
  refine pu (Pu.fieldB fo27_1 rfl) z1 z3 ?_
  refine op [1] [1] (OT.loadB sc25 rfl) z1 z1 z4 (fun _ => rfl) fun _ => ?_
  refine pu (Pu.len ul25) z1 z3 ?_
  refine pu Pu.move z1 z3 ?_
  refine HQ.done ?_
  refine HQ.keep [(2, _), (3, _), (33, _), (34, _), (35, _)] z5 ?_
  refine HQ.block ?_
  refine HQ.nil kTWet 19 rfl ?_
  obtain ⟨o113, h118, H⟩ := bnd H
  refine HQ.loop h118 2 (fun (s : Int × (List TWet)) (g : Option Addr × Nat) => match s, g with | (i77, l78), (a79, c80) => [(2, BP b2 0), (3, BP b3 0), (33, vS a_1 p0.Wet c_1), (34, vI ((List.length p0.Wet : Nat) : Int)), (35, vI i77)]) (fun (s : Int × (List TWet)) (g : Option Addr × Nat) => match s, g with | (i77, l78), (a79, c80) => [(2, Box b2 [.slice none 0 0, .slice none 0 0, vI 0, .bool false]), (3, Box b3 [vS a59 l58 c60, vS a79 l78 c80, vI p0.Fuse, .bool p0.Dead]), (8, OwnS kTCell a59 c60 l58), (19, OwnS kTWet a79 c80 l78)]) (fun _ _ _ => False) (none, 0) z5 z4 rfl ?_ ?_ ?_
  ·clear H h118
   rintro ⟨i77, l78⟩ ⟨a79, c80⟩ o H
   rw [impl_copyDisk_b1] at H
   refine HQ.keep [(2, _), (3, _), (33, _), (34, _), (35, _)] z5 ?_
   refine HQ.keepR [(2, _), (3, _), (8, _), (19, _)] z4 rfl ?_
   refine HQ.rseq ?_
   refine pu Pu.lss z2 z3 ?_
   refine HQ.done ?_
   refine HQ.keep [(2, _), (3, _), (33, _), (34, _), (35, _), (36, _)] z6 ?_
   refine HQ.seq ?_
   rcases brk H with ⟨hc, H⟩ | ⟨hc, H⟩
   ·refine HQ.condT rfl hc ?_
    clear hc
    refine HQ.skipThen ?_
    refine HQ.seq ?_
    refine HQ.block ?_
    refine HQ.rseq ?_
    obtain ⟨h97, H⟩ := asr H
    refine op [] [] (OT.indexB ul25 sz110 hb_1 h97) z2 trivial z4 (fun _ => rfl) fun _ => ?_
    obtain ⟨⟨a98, c99⟩, hb100, hn101⟩ := BorS.nest hb_1 h97
    refine op [] [] (OT.loadNA (vs := [vI ((gt p0.Wet i77).At), vS a98 ((gt p0.Wet i77).B) c99]) ag110 sz110 hn101 hlTWet rfl rfl) z1 trivial z4 (fun _ => rfl) fun _ => ?_
    refine op [] [23] (OT.alloc zc110) trivial trivial z4 (fun _ => rfl) fun b102 => ?_
    refine HQ.opN [23] [23] [] (OT.storeC (cs' := [vI ((gt p0.Wet i77).At), vS a98 ((gt p0.Wet i77).B) c99]) sz110 rfl rfl rfl rfl rfl) z2 z1 rfl rfl rfl (fun _ => rfl) fun _ => ?_
    refine HQ.done ?_
    refine HQ.keep [(2, _), (3, _), (33, _), (34, _), (35, _), (7, _)] z6 ?_
    refine HQ.dStart mixd ?_
    obtain ⟨t104, h105, H⟩ := bnd H
    refine HQ.dPart [(2, BP b2 0), (3, BP b3 0), (33, vS a_1 p0.Wet c_1), (34, vI ((List.length p0.Wet : Nat) : Int)), (35, vI i77), (7, BP b102 0)] 9 [⟨[], [], []⟩, ⟨[0], [0], [0]⟩, ⟨[], [], []⟩, ⟨[1], [1], [2]⟩, ⟨[], [], []⟩, ⟨[1], [1], [4]⟩, ⟨[], [2], [5]⟩, ⟨[], [], [3, 6]⟩, ⟨[2], [3], [7]⟩] [⟨none, none⟩, ⟨none, none⟩, ⟨some 6, some 8⟩, ⟨some 8, none⟩] (fun (g103 : (Option Addr × Nat) × (Option Addr × Nat)) => [BP b3 1, vS a79 l78 c80, BP b102 0, vI ((gt p0.Wet i77).At), BP b102 1, vS a98 ((gt p0.Wet i77).B) c99, vS g103.1.1 t104 g103.1.2, .agg #[vI ((gt p0.Wet i77).At), vS g103.1.1 t104 g103.1.2], vS g103.2.1 ([(⟨(gt p0.Wet i77).At, t104⟩ : TWet)] : (List TWet)) g103.2.2]) (fun (g103 : (Option Addr × Nat) × (Option Addr × Nat)) => [Box b3 [vS a59 l58 c60, vS a79 l78 c80, vI p0.Fuse, .bool p0.Dead], Box b102 [vI ((gt p0.Wet i77).At), vS a98 ((gt p0.Wet i77).B) c99], OwnS kU8 g103.1.1 g103.1.2 t104, OwnS kTWet g103.2.1 g103.2.2 ([(⟨(gt p0.Wet i77).At, t104⟩ : TWet)] : (List TWet))]) ((none, 0), (none, 0)) [3, 23] [3, 23, 25] [] z6 z2 rfl (by kernel_rfl) (by kernel_rfl) (fun _ => rfl) (by kernel_rfl) (fun _ => rfl) rfl ⟨?_, ?_, ?_, ?_, ?_, ?_, ?_, ?_, ?_, trivial⟩ fun g103 => ?_
    ·exact OpOK2.pu (fun g103 => [(.tmp 3, BP b3 0)]) z2 (fun _ => z1) (fun _ => (Pu.fieldB fo27_1 rfl)) (fun _ => z1) (fun _ _ => z6)
    ·exact OpOK2.of (fun g103 => [(.tmp 39, BP b3 1)]) _ _ (fun g103 _ => g103) rfl rfl (fun _ => z1) (fun g103 => OT.loadB sc25 rfl) (fun _ _ => z6)
    ·exact OpOK2.pu (fun g103 => [(.tmp 7, BP b102 0)]) z2 (fun _ => z1) (fun _ => (Pu.fieldB fo110_0 rfl)) (fun _ => z1) (fun _ _ => z6)
    ·exact OpOK2.of (fun g103 => [(.tmp 41, BP b102 0)]) _ _ (fun g103 _ => g103) rfl rfl (fun _ => z1) (fun g103 => OT.loadB sc3 rfl) (fun _ _ => z6)
    ·exact OpOK2.pu (fun g103 => [(.tmp 7, BP b102 0)]) z2 (fun _ => z1) (fun _ => (Pu.fieldB fo110_1 rfl)) (fun _ => z1) (fun _ _ => z6)
    ·exact OpOK2.of (fun g103 => [(.tmp 43, BP b102 1)]) _ _ (fun g103 _ => g103) rfl rfl (fun _ => z1) (fun g103 => OT.loadB sc22 rfl) (fun _ _ => z6)
    ·exact OpOK2.ofD [7] (by kernel_rfl) (fun g103 => [(.func 88, .func (.func 88) #[] #[]), (.tmp 44, vS a98 ((gt p0.Wet i77).B) c99)]) _ _ (fun g103 x => (x, g103.2)) rfl rfl (fun _ => z2) (fun g103 => OT.call (us := [_]) (Pre := []) [.tmp 44] Try.call88 rfl rfl fun w F hs hF hp => slices_Clone_byte_byte_c (hb100.pass hp) h105) (fun _ _ => ⟨⟨rfl, rfl, rfl, rfl, rfl, rfl, rfl, trivial, rfl, trivial⟩, rfl, z4⟩)
    ·exact OpOK2.pu (fun g103 => [(.tmp 42, vI ((gt p0.Wet i77).At)), (.tmp 45, vS g103.1.1 t104 g103.1.2)]) z2 (fun _ => z2) (fun g103 => (Pu.build (us := [vI ((gt p0.Wet i77).At), vS g103.1.1 t104 g103.1.2]) (cs := [vI ((gt p0.Wet i77).At), vS g103.1.1 t104 g103.1.2]) [(0, .tmp 42), (1, .tmp 45)] st110 rfl rfl rfl)) (fun _ => z1) (fun _ _ => z6)
    ·exact OpOK2.of (fun g103 => [(.tmp 46, .agg #[vI ((gt p0.Wet i77).At), vS g103.1.1 t104 g103.1.2])]) _ _ (fun g103 x => (g103.1, x)) rfl rfl (fun _ => z1) (fun g103 => OT.buildO (u := .agg #[vI ((gt p0.Wet i77).At), vS g103.1.1 t104 g103.1.2]) (enc := encTWet) (hl := hlTWet) (sub := fun (x : TWet) => x.B) (.tmp 46) (⟨(gt p0.Wet i77).At, t104⟩ : TWet) sl25.ul sl25.szE sl25.zc rfl rfl rfl rfl) (fun _ _ => z6)
    refine HQ.keep [(2, _), (3, _), (33, _), (34, _), (35, _), (40, _), (47, _)] z7 ?_
    refine HQ.keepR [(2, _), (3, _), (8, _), (19, _), (23, _), (25, _)] z6 rfl ?_
    refine HQ.dRun 3 rfl rfl (by kernel_rfl) (by kernel_rfl) ?_
    obtain ⟨h112, H⟩ := asr H
    refine HQ.opD [19, 25] [19] [25] (OT.appendO (K := kTWet) sl25 ul25 h112) z2 z2 rfl rfl rfl rfl (fun _ => rfl) fun ⟨a110, c111⟩ => ?_
    refine pu (Pu.fieldB fo27_1 rfl) z1 z3 ?_
    refine HQ.opN [3] [3] [] (OT.storeC (cs' := [vS a59 l58 c60, vS a110 (l78 ++ ([(⟨(gt p0.Wet i77).At, t104⟩ : TWet)] : (List TWet))) c111, vI p0.Fuse, .bool p0.Dead]) sz25 rfl rfl rfl rfl rfl) z2 z1 rfl rfl rfl (fun _ => rfl) fun _ => ?_
    refine HQ.done ?_
    refine HQ.dEnd rfl ?_
    refine HQ.keep [(2, _), (3, _), (33, _), (34, _), (35, _)] z5 ?_
    refine HQ.blkN ?_
    refine HQ.thenN ?_
    refine HQ.regionQ ?_
    refine pu Pu.add z2 z3 ?_
    refine pu Pu.move z1 z3 ?_
    refine HQ.done ?_
    refine HQ.keep [(2, _), (3, _), (33, _), (34, _), (35, _)] z5 ?_
    obtain rfl := Option.some.inj H
    exact HQ.next (a110, c111) z5 z4 rfl
   ·refine HQ.condF rfl hc ?_
    clear hc
    refine HQ.exit ?_
    refine HQ.thenE ?_
    obtain rfl := Option.some.inj H
    exact HQ.out (a79, c80) z5 z4 rfl
  ·rintro ⟨i114, l115⟩ rfl ⟨a116, c117⟩
   clear h118
   replace H := H
   refine HQ.keep [(2, _), (3, _), (33, _), (34, _), (35, _)] z5 ?_
   refine HQ.keepR [(2, _), (3, _), (8, _), (19, _)] z4 rfl ?_
   refine HQ.blkE ?_
   refine HQ.thenN ?_
   refine HQ.rseq ?_
   refine op [3] [3] (OT.loadBA (vs := [vS a59 l58 c60, vS a116 l115 c117, vI p0.Fuse, .bool p0.Dead]) ag27 sz27 rfl rfl) z1 z1 z4 (fun _ => rfl) fun _ => ?_
   refine HQ.opN [2] [2] [] (OT.storeC (cs' := [vS a59 l58 c60, vS a116 l115 c117, vI p0.Fuse, .bool p0.Dead]) sz27 rfl rfl rfl rfl rfl) z2 z1 rfl rfl rfl (fun _ => rfl) fun _ => ?_
   refine HQ.done ?_
   refine HQ.keep [(2, _)] z1 ?_
   refine HQ.ret ?_
   obtain rfl := Option.some.inj H
   exact HQ.fin (vs := [_]) Try.results81 ((a59, c60), (a116, c117)) ⟨⟨_, _, 2, rfl, rfl, ag27, sz27, rfl⟩, trivial⟩ rfl [8, 19] z2 rfl
  ·exact fun r h a w hf => hf.elim
 ·exact fun r h a w hf => hf.elim

theorem impl_Disk_burn_c {w : World} {p0 : TDisk} {β_0 : Nat} {a_0 : Option Addr} {c_0 : Nat} {a_1 : Option Addr} {c_1 : Nat} {F0 : Fp} (hs0 : Sat [Box β_0 [vS a_0 p0.Cells c_0, vS a_1 p0.Wet c_1, vI p0.Fuse, .bool p0.Dead]] w.heap F0) (hF0 : ∀ b, F0 b → b < w.heap.size)  {r : Bool × TDisk} (H : impl_Disk_burn p0 = some r) :
  Calls Try.prog 82 #[BP β_0 0] w (Rt w F0 (fun _ : Unit => .bool r.1) (fun _ => [Box β_0 [vS a_0 p0.Cells c_0, vS a_1 p0.Wet c_1, vI r.2.Fuse, .bool r.2.Dead]])) := by
 rw [impl_Disk_burn] at H
 refine Calls.enter (N := 27) (us := [_]) (F0 := F0) (Γ0 := [(1, Box β_0 [vS a_0 p0.Cells c_0, vS a_1 p0.Wet c_1, vI p0.Fuse, .bool p0.Dead])]) Try.func82 rfl rfl rfl hs0 hF0 ?_
 refine HQ.rseq ?_
 refine pu Pu.assign z1 z3 ?_
 refine HQ.done ?_
 refine HQ.keep [(0, _), (2, _)] z2 ?_
 refine HQ.seq ?_
 refine HQ.rseq ?_
 refine pu Pu.move z1 z3 ?_
 refine pu Pu.nilCheck z1 z3 ?_
 refine pu (Pu.fieldB fo27_3 rfl) z1 z3 ?_
 refine op [1] [1] (OT.loadB sc4 rfl) z1 z1 z4 (fun _ => rfl) fun _ => ?_
 refine HQ.done ?_
 refine HQ.keep [(0, _), (2, _), (6, _)] z3 ?_
 rcases brk H with ⟨hc, H⟩ | ⟨hc, H⟩
 ·refine HQ.condT rfl hc ?_
  clear hc
  refine HQ.rseq ?_
  refine pu Pu.assign z1 z3 ?_
  refine HQ.done ?_
  refine HQ.keep [(0, _), (2, _)] z2 ?_
  refine HQ.ret ?_
  refine HQ.thenR ?_
  obtain rfl := Option.some.inj H
  exact HQ.fin (vs := [_]) Try.results82 () z1 rfl [1] z1 rfl
 ·refine HQ.condF rfl hc ?_
  clear hc
  refine HQ.skipThen ?_
  refine HQ.seq ?_
  refine HQ.rseq ?_
  refine pu Pu.move z1 z3 ?_
  refine pu Pu.nilCheck z1 z3 ?_
  refine pu (Pu.fieldB fo27_2 rfl) z1 z3 ?_
  refine op [1] [1] (OT.loadB sc3 rfl) z1 z1 z4 (fun _ => rfl) fun _ => ?_
  refine pu Pu.eql z2 z3 ?_
  refine HQ.done ?_
  refine HQ.keep [(0, _), (2, _), (11, _)] z3 ?_
  rcases brk H with ⟨hc, H⟩ | ⟨hc, H⟩
  ·refine HQ.condT rfl hc ?_
   clear hc
   refine HQ.rseq ?_
   refine pu Pu.move z1 z3 ?_
   refine pu Pu.nilCheck z1 z3 ?_
   refine pu (Pu.fieldB fo27_3 rfl) z1 z3 ?_
   refine HQ.opN [1] [1] [] (OT.storeC (cs' := [vS a_0 p0.Cells c_0, vS a_1 p0.Wet c_1, vI p0.Fuse, .bool true]) sz4 rfl rfl rfl rfl rfl) z2 z1 rfl rfl rfl (fun _ => rfl) fun _ => ?_
   refine HQ.done ?_
   refine HQ.keep [(0, _), (2, _)] z2 ?_
   refine HQ.rseq ?_
   refine pu Pu.assign z1 z3 ?_
   refine HQ.done ?_
   refine HQ.keep [(0, _), (2, _)] z2 ?_
   refine HQ.ret ?_
   refine HQ.thenR ?_
   obtain rfl := Option.some.inj H
   exact HQ.fin (vs := [_]) Try.results82 () z1 rfl [1] z1 rfl
  ·refine HQ.condF rfl hc ?_
   clear hc
   refine HQ.skipThen ?_
   refine HQ.seq ?_
   refine HQ.rseq ?_
   refine pu Pu.move z1 z3 ?_
   refine pu Pu.nilCheck z1 z3 ?_
   refine pu (Pu.fieldB fo27_2 rfl) z1 z3 ?_
   refine op [1] [1] (OT.loadB sc3 rfl) z1 z1 z4 (fun _ => rfl) fun _ => ?_
   refine pu Pu.gtr z2 z3 ?_
   refine HQ.done ?_
   refine HQ.keep [(0, _), (2, _), (19, _)] z3 ?_
   rcases brk H with ⟨hc, H⟩ | ⟨hc, H⟩
   ·refine HQ.condT rfl hc ?_
    clear hc
    refine HQ.region ?_
    refine pu Pu.move z1 z3 ?_
    refine pu Pu.nilCheck z1 z3 ?_
    refine pu (Pu.fieldB fo27_2 rfl) z1 z3 ?_
    refine op [1] [1] (OT.loadB sc3 rfl) z1 z1 z4 (fun _ => rfl) fun _ => ?_
    refine pu Pu.sub z2 z3 ?_
    refine pu Pu.nilCheck z1 z3 ?_
    refine pu (Pu.fieldB fo27_2 rfl) z1 z3 ?_
    refine HQ.opN [1] [1] [] (OT.storeC (cs' := [vS a_0 p0.Cells c_0, vS a_1 p0.Wet c_1, vI (wrap64 (p0.Fuse - 1)), .bool p0.Dead]) sz3 rfl rfl rfl rfl rfl) z2 z1 rfl rfl rfl (fun _ => rfl) fun _ => ?_
    refine HQ.done ?_
    refine HQ.keep [(2, _)] z1 ?_
    refine HQ.rseq ?_
    refine pu Pu.assign z1 z3 ?_
    refine HQ.done ?_
    refine HQ.keep [(2, _)] z1 ?_
    refine HQ.ret ?_
    obtain rfl := Option.some.inj H
    exact HQ.fin (vs := [_]) Try.results82 () z1 rfl [1] z1 rfl
   ·refine HQ.condF rfl hc ?_
    clear hc
    refine HQ.skipThen ?_
    refine HQ.rseq ?_
    refine pu Pu.assign z1 z3 ?_
    refine HQ.done ?_
    refine HQ.keep [(2, _)] z1 ?_
    refine HQ.ret ?_
    obtain rfl := Option.some.inj H
    exact HQ.fin (vs := [_]) Try.results82 () z1 rfl [1] z1 rfl

theorem impl_Write_c {w : World} {k : Nat} {p0 : TDisk} {p1 : Int} {p2 : (List Int)} {a_0 : Option Addr} {c_0 : Nat} {a_1 : Option Addr} {c_1 : Nat} {a_2 : Option Addr} {c_2 : Nat} (hb_0 : BorS kTCell a_0 c_0 p0.Cells w.heap (Lt w Nil)) (hb_1 : BorS kTWet a_1 c_1 p0.Wet w.heap (Lt w Nil)) (hb_2 : BorS kU8 a_2 c_2 p2 w.heap (Lt w Nil)) {r : TDisk} (H : impl_Write k p0 p1 p2 = some r) :
  Calls Try.prog 11 #[.agg #[vS a_0 p0.Cells c_0, vS a_1 p0.Wet c_1, vI p0.Fuse, .bool p0.Dead], vI p1, vS a_2 p2 c_2] w (Rt w Nil (fun g : (Option Addr × Nat) × (Option Addr × Nat) => .agg #[vS g.1.1 r.Cells g.1.2, vS g.2.1 r.Wet g.2.2, vI r.Fuse, .bool r.Dead]) (fun g => [OwnS kTCell g.1.1 g.1.2 r.Cells, OwnS kTWet g.2.1 g.2.2 r.Wet])) := by
 rw [impl_Write] at H
 refine Calls.enter0 (N := 30) (us := [_, _, _]) Try.func11 rfl rfl rfl ?_
 refine HQ.rseq ?_
 refine op [] [1] (OT.box (cs := [vS a_0 p0.Cells c_0, vS a_1 p0.Wet c_1, vI p0.Fuse, .bool p0.Dead]) rfl) z1 trivial z4 (fun _ => rfl) fun b1 => ?_
 refine op [] [2] (OT.alloc zc27) trivial trivial z4 (fun _ => rfl) fun b2 => ?_
 refine HQ.done ?_
 refine HQ.keep [(1, _), (2, _), (3, _), (6, _)] z4 ?_
 refine HQ.rseq ?_
 refine op [1] [1] (OT.loadBA (vs := [vS a_0 p0.Cells c_0, vS a_1 p0.Wet c_1, vI p0.Fuse, .bool p0.Dead]) ag27 sz27 rfl rfl) z1 z1 z4 (fun _ => rfl) fun _ => ?_
 obtain ⟨t3, h4, H⟩ := bnd H
 refine op [] [3, 4] (OT.call (us := [_]) (Pre := []) [.tmp 8] Try.call81 rfl rfl fun w F hs hF hp => impl_copyDisk_c (hb_0.pass hp) (hb_1.pass hp) h4) z2 trivial z4 (fun _ => rfl) fun ⟨⟨a5, c6⟩, ⟨a7, c8⟩⟩ => ?_
 refine op [] [5] (OT.alloc zc27) trivial trivial z4 (fun _ => rfl) fun b9 => ?_
 refine HQ.opN [5] [5] [] (OT.storeC (cs' := [vS a5 t3.Cells c6, vS a7 t3.Wet c8, vI t3.Fuse, .bool t3.Dead]) sz27 rfl rfl rfl rfl rfl) z2 z1 rfl rfl rfl (fun _ => rfl) fun _ => ?_
 refine HQ.done ?_
 refine HQ.keep [(1, _), (2, _), (6, _), (7, _)] z4 ?_
 refine HQ.seq ?_
 refine HQ.rseq ?_
 obtain ⟨t10, h11, H⟩ := bnd H
 refine op [5] [5] (OT.callM (us := [_]) (PreX := [Box b9 [vS a5 t3.Cells c6, vS a7 t3.Wet c8, vI t3.Fuse, .bool t3.Dead]]) (PreL := []) [.tmp 7] Try.call82 rfl rfl fun w FX FL hs1 hF1 hs2 hF2 hp => impl_Disk_burn_c (p0 := t3) hs1 hF1 h11) z2 z1 z4 (fun _ => rfl) fun _ => ?_
 refine pu Pu.move z1 z3 ?_
 obtain ⟨c15, h16, H⟩ := bnd H
 refine HQ.cutAt 3 [(14, .bool c15), (1, vI p1), (2, vS a_2 p2 c_2), (6, BP b2 0), (7, BP b9 0)] [(1, Box b1 [vS a_0 p0.Cells c_0, vS a_1 p0.Wet c_1, vI p0.Fuse, .bool p0.Dead]), (2, Box b2 [.slice none 0 0, .slice none 0 0, vI 0, .bool false]), (3, OwnS kTCell a5 c6 t3.Cells), (4, OwnS kTWet a7 c8 t3.Wet), (5, Box b9 [vS a5 t3.Cells c6, vS a7 t3.Wet c8, vI t10.2.Fuse, .bool t10.2.Dead])] ?_ ?_
 ·clear H
  have H := h16
  rcases brk H with ⟨hg12, H⟩ | ⟨hg12, H⟩
  ·refine HQ.on rfl rfl hg12 ?_
   refine pu Pu.move z1 z3 ?_
   refine HQ.on rfl rfl hg12 ?_
   obtain ⟨t13, h14, H⟩ := bnd H
   refine op [] [] (OT.call (us := [_, _, _]) (Pre := []) [.tmp 12, .const (vI 0), .const (vI 113)] Try.call83 rfl rfl fun w F hs hF hp => impl_in_c h14) z4 trivial z4 (fun _ => rfl) fun _ => ?_
   obtain rfl := Option.some.inj H
   refine pu (Pu.pickC1 hg12) z2 z3 ?_
   exact HQ.mid z5 z5 rfl
  ·obtain rfl := Option.some.inj H
   refine HQ.off rfl rfl hg12 rfl ?_
   refine HQ.off rfl rfl hg12 rfl ?_
   refine pu (Pu.pickC0 hg12) z2 z3 ?_
   exact HQ.mid z5 z5 rfl
 refine pu Pu.move z1 z3 ?_
 refine HQ.cutAt 4 [(19, .bool (c15 && (decide (((List.length p2 : Nat) : Int) ≤ 32)))), (1, vI p1), (2, vS a_2 p2 c_2), (6, BP b2 0), (7, BP b9 0)] [(1, Box b1 [vS a_0 p0.Cells c_0, vS a_1 p0.Wet c_1, vI p0.Fuse, .bool p0.Dead]), (2, Box b2 [.slice none 0 0, .slice none 0 0, vI 0, .bool false]), (3, OwnS kTCell a5 c6 t3.Cells), (4, OwnS kTWet a7 c8 t3.Wet), (5, Box b9 [vS a5 t3.Cells c6, vS a7 t3.Wet c8, vI t10.2.Fuse, .bool t10.2.Dead])] ?_ ?_
 ·rcases Bool.eq_false_or_eq_true c15 with hg17 | hg17
  ·refine HQ.on rfl rfl hg17 ?_
   refine pu Pu.move z1 z3 ?_
   refine HQ.on rfl rfl hg17 ?_
   refine pu (Pu.len ul22) z1 z3 ?_
   refine HQ.on rfl rfl hg17 ?_
   refine pu Pu.leq z2 z3 ?_
   refine pu (Pu.pickAT hg17) z2 z3 ?_
   exact HQ.mid z5 z5 rfl
  ·refine HQ.off rfl rfl hg17 rfl ?_
   refine HQ.off rfl rfl hg17 rfl ?_
   refine HQ.off rfl rfl hg17 rfl ?_
   refine pu (Pu.pickAF (u := (decide (((List.length p2 : Nat) : Int) ≤ 32))) hg17) z2 z3 ?_
   exact HQ.mid z5 z5 rfl
 refine HQ.done ?_
 refine HQ.keep [(19, _), (1, _), (2, _), (6, _), (7, _)] z5 ?_
 rcases brk H with ⟨hc, H⟩ | ⟨hc, H⟩
 ·refine HQ.condT rfl hc ?_
  clear hc
  refine HQ.dStart mixd ?_
  obtain ⟨t19, h20, H⟩ := bnd H
  refine HQ.dPart [(1, vI p1), (2, vS a_2 p2 c_2), (6, BP b2 0), (7, BP b9 0)] 7 [⟨[], [], []⟩, ⟨[0], [0], [0]⟩, ⟨[], [], []⟩, ⟨[], [], []⟩, ⟨[], [1], [3]⟩, ⟨[], [], [2, 4]⟩, ⟨[1], [2], [5]⟩] [⟨none, none⟩, ⟨some 4, some 6⟩, ⟨some 6, none⟩] (fun (g18 : (Option Addr × Nat) × (Option Addr × Nat)) => [BP b9 1, vS a7 t3.Wet c8, vI p1, vS a_2 p2 c_2, vS g18.1.1 t19 g18.1.2, .agg #[vI p1, vS g18.1.1 t19 g18.1.2], vS g18.2.1 ([(⟨p1, t19⟩ : TWet)] : (List TWet)) g18.2.2]) (fun (g18 : (Option Addr × Nat) × (Option Addr × Nat)) => [Box b9 [vS a5 t3.Cells c6, vS a7 t3.Wet c8, vI t10.2.Fuse, .bool t10.2.Dead], OwnS kU8 g18.1.1 g18.1.2 t19, OwnS kTWet g18.2.1 g18.2.2 ([(⟨p1, t19⟩ : TWet)] : (List TWet))]) ((none, 0), (none, 0)) [5] [5, 7] [] z4 z1 rfl (by kernel_rfl) (by kernel_rfl) (fun _ => rfl) (by kernel_rfl) (fun _ => rfl) rfl ⟨?_, ?_, ?_, ?_, ?_, ?_, ?_, trivial⟩ fun g18 => ?_
  ·exact OpOK2.pu (fun g18 => [(.tmp 7, BP b9 0)]) z2 (fun _ => z1) (fun _ => (Pu.fieldB fo27_1 rfl)) (fun _ => z1) (fun _ _ => z5)
  ·exact OpOK2.of (fun g18 => [(.tmp 20, BP b9 1)]) _ _ (fun g18 _ => g18) rfl rfl (fun _ => z1) (fun g18 => OT.loadB sc25 rfl) (fun _ _ => z5)
  ·exact OpOK2.pu (fun g18 => [(.tmp 1, vI p1)]) z2 (fun _ => z1) (fun _ => Pu.move) (fun _ => z1) (fun _ _ => z5)
  ·exact OpOK2.pu (fun g18 => [(.tmp 2, vS a_2 p2 c_2)]) z2 (fun _ => z1) (fun _ => Pu.move) (fun _ => z1) (fun _ _ => z5)
  ·exact OpOK2.ofD [5] (by kernel_rfl) (fun g18 => [(.func 24, .func (.func 24) #[] #[]), (.tmp 23, vS a_2 p2 c_2), (.const (vI 32), vI 32)]) _ _ (fun g18 x => (x, g18.2)) rfl rfl (fun _ => z3) (fun g18 => OT.call (us := [_, _]) (Pre := []) [.tmp 23, .const (vI 32)] Try.call24 rfl rfl fun w F hs hF hp => impl_Pad_c (hb_2.pass hp) h20) (fun _ _ => ⟨⟨rfl, rfl, rfl, rfl, rfl, trivial, rfl, trivial⟩, rfl, z3⟩)
  ·exact OpOK2.pu (fun g18 => [(.tmp 22, vI p1), (.tmp 24, vS g18.1.1 t19 g18.1.2)]) z2 (fun _ => z2) (fun g18 => (Pu.build (us := [vI p1, vS g18.1.1 t19 g18.1.2]) (cs := [vI p1, vS g18.1.1 t19 g18.1.2]) [(0, .tmp 22), (1, .tmp 24)] st110 rfl rfl rfl)) (fun _ => z1) (fun _ _ => z5)
  ·exact OpOK2.of (fun g18 => [(.tmp 25, .agg #[vI p1, vS g18.1.1 t19 g18.1.2])]) _ _ (fun g18 x => (g18.1, x)) rfl rfl (fun _ => z1) (fun g18 => OT.buildO (u := .agg #[vI p1, vS g18.1.1 t19 g18.1.2]) (enc := encTWet) (hl := hlTWet) (sub := fun (x : TWet) => x.B) (.tmp 25) (⟨p1, t19⟩ : TWet) sl25.ul sl25.szE sl25.zc rfl rfl rfl rfl) (fun _ _ => z5)
  refine HQ.keep [(6, _), (7, _), (21, _), (26, _)] z4 ?_
  refine HQ.keepR [(1, _), (2, _), (3, _), (4, _), (5, _), (7, _)] z6 rfl ?_
  refine HQ.dRun 3 rfl rfl (by kernel_rfl) (by kernel_rfl) ?_
  obtain ⟨h27, H⟩ := asr H
  refine HQ.opD [4, 7] [4] [7] (OT.appendO (K := kTWet) sl25 ul25 h27) z2 z2 rfl rfl rfl rfl (fun _ => rfl) fun ⟨a25, c26⟩ => ?_
  refine pu (Pu.fieldB fo27_1 rfl) z1 z3 ?_
  refine HQ.opN [5] [5] [] (OT.storeC (cs' := [vS a5 t3.Cells c6, vS a25 (t3.Wet ++ ([(⟨p1, t19⟩ : TWet)] : (List TWet))) c26, vI t10.2.Fuse, .bool t10.2.Dead]) sz25 rfl rfl rfl rfl rfl) z2 z1 rfl rfl rfl (fun _ => rfl) fun _ => ?_
  refine HQ.done ?_
  refine HQ.dEnd rfl ?_
  refine HQ.thenN ?_
  refine HQ.keep [(6, _), (7, _)] z2 ?_
  refine HQ.rseq ?_
  refine op [5] [5] (OT.loadBA (vs := [vS a5 t3.Cells c6, vS a25 (t3.Wet ++ ([(⟨p1, t19⟩ : TWet)] : (List TWet))) c26, vI t10.2.Fuse, .bool t10.2.Dead]) ag27 sz27 rfl rfl) z1 z1 z4 (fun _ => rfl) fun _ => ?_
  refine HQ.opN [2] [2] [] (OT.storeC (cs' := [vS a5 t3.Cells c6, vS a25 (t3.Wet ++ ([(⟨p1, t19⟩ : TWet)] : (List TWet))) c26, vI t10.2.Fuse, .bool t10.2.Dead]) sz27 rfl rfl rfl rfl rfl) z2 z1 rfl rfl rfl (fun _ => rfl) fun _ => ?_
  refine HQ.done ?_
  refine HQ.keep [(6, _)] z1 ?_
  refine HQ.ret ?_
  obtain rfl := Option.some.inj H
  exact HQ.fin (vs := [_]) Try.results11 ((a5, c6), (a25, c26)) ⟨⟨_, _, 2, rfl, rfl, ag27, sz27, rfl⟩, trivial⟩ rfl [3, 4] z2 rfl
 ·refine HQ.condF rfl hc ?_
  clear hc
  refine HQ.skipThen ?_
  refine HQ.rseq ?_
  refine op [5] [5] (OT.loadBA (vs := [vS a5 t3.Cells c6, vS a7 t3.Wet c8, vI t10.2.Fuse, .bool t10.2.Dead]) ag27 sz27 rfl rfl) z1 z1 z4 (fun _ => rfl) fun _ => ?_
  refine HQ.opN [2] [2] [] (OT.storeC (cs' := [vS a5 t3.Cells c6, vS a7 t3.Wet c8, vI t10.2.Fuse, .bool t10.2.Dead]) sz27 rfl rfl rfl rfl rfl) z2 z1 rfl rfl rfl (fun _ => rfl) fun _ => ?_
  refine HQ.done ?_
  refine HQ.keep [(6, _)] z1 ?_
  refine HQ.ret ?_
  obtain rfl := Option.some.inj H
  exact HQ.fin (vs := [_]) Try.results11 ((a5, c6), (a7, c8)) ⟨⟨_, _, 2, rfl, rfl, ag27, sz27, rfl⟩, trivial⟩ rfl [3, 4] z2 rfl

theorem impl_Append_c {w : World} {k : Nat} {p0 : TDisk} {p1 : Int} {p2 : Int} {p3 : TTx} {a_0 : Option Addr} {c_0 : Nat} {a_1 : Option Addr} {c_1 : Nat} {a_2 : Option Addr} {c_2 : Nat} (hb_0 : BorS kTCell a_0 c_0 p0.Cells w.heap (Lt w Nil)) (hb_1 : BorS kTWet a_1 c_1 p0.Wet w.heap (Lt w Nil)) (hb_2 : BorS kTChange a_2 c_2 p3.Puts w.heap (Lt w Nil)) {r : TDisk × Int} (H : impl_Append k p0 p1 p2 p3 = some r) :
  Calls Try.prog 68 #[.agg #[vS a_0 p0.Cells c_0, vS a_1 p0.Wet c_1, vI p0.Fuse, .bool p0.Dead], vI p1, vI p2, .agg #[vI p3.Seq, vI p3.Root, vI p3.Size, vS a_2 p3.Puts c_2]] w (Rt w Nil (fun g : (Option Addr × Nat) × (Option Addr × Nat) => .tuple #[.agg #[vS g.1.1 r.1.Cells g.1.2, vS g.2.1 r.1.Wet g.2.2, vI r.1.Fuse, .bool r.1.Dead], vI r.2]) (fun g => [OwnS kTCell g.1.1 g.1.2 r.1.Cells, OwnS kTWet g.2.1 g.2.2 r.1.Wet])) := by
 rw [impl_Append] at H
 refine Calls.enter0 (N := 54) (us := [_, _, _, _]) Try.func68 rfl rfl rfl ?_
 refine HQ.rseq ?_
 refine op [] [1] (OT.box (cs := [vS a_0 p0.Cells c_0, vS a_1 p0.Wet c_1, vI p0.Fuse, .bool p0.Dead]) rfl) z1 trivial z4 (fun _ => rfl) fun b1 => ?_
 refine op [] [2] (OT.box (cs := [vI p3.Seq, vI p3.Root, vI p3.Size, vS a_2 p3.Puts c_2]) rfl) z1 trivial z4 (fun _ => rfl) fun b2 => ?_
 refine op [] [3] (OT.alloc zc27) trivial trivial z4 (fun _ => rfl) fun b3 => ?_
 refine pu Pu.assign z1 z3 ?_
 refine HQ.done ?_
 refine HQ.keep [(1, _), (2, _), (4, _), (7, _), (8, _), (9, _)] z6 ?_
 refine HQ.rseq ?_
 refine pu Pu.move z1 z3 ?_
 refine op [2] [2] (OT.loadBA (vs := [vI p3.Seq, vI p3.Root, vI p3.Size, vS a_2 p3.Puts c_2]) ag57 sz57 rfl rfl) z1 z1 z4 (fun _ => rfl) fun _ => ?_
 obtain ⟨t4, h5, H⟩ := bnd H
 refine op [] [4] (OT.call (us := [_, _]) (Pre := []) [.tmp 14, .tmp 15] Try.call64 rfl rfl fun w F hs hF hp => impl_TxCells_c (hb_2.pass hp) h5) z3 trivial z4 (fun _ => rfl) fun ⟨a6, c7⟩ => ?_
 refine pu Pu.assign z1 z3 ?_
 refine HQ.done ?_
 refine HQ.keep [(1, _), (4, _), (8, _), (9, _), (10, _)] z5 ?_
 refine HQ.rseq ?_
 refine op [1] [1] (OT.loadBA (vs := [vS a_0 p0.Cells c_0, vS a_1 p0.Wet c_1, vI p0.Fuse, .bool p0.Dead]) ag27 sz27 rfl rfl) z1 z1 z4 (fun _ => rfl) fun _ => ?_
 obtain ⟨t8, h9, H⟩ := bnd H
 refine op [] [5, 6] (OT.call (us := [_]) (Pre := []) [.tmp 17] Try.call81 rfl rfl fun w F hs hF hp => impl_copyDisk_c (hb_0.pass hp) (hb_1.pass hp) h9) z2 trivial z4 (fun _ => rfl) fun ⟨⟨a10, c11⟩, ⟨a12, c13⟩⟩ => ?_
 refine op [] [7] (OT.alloc zc27) trivial trivial z4 (fun _ => rfl) fun b14 => ?_
 refine HQ.opN [7] [7] [] (OT.storeC (cs' := [vS a10 t8.Cells c11, vS a12 t8.Wet c13, vI t8.Fuse, .bool t8.Dead]) sz27 rfl rfl rfl rfl rfl) z2 z1 rfl rfl rfl (fun _ => rfl) fun _ => ?_
 refine HQ.done ?_
 refine HQ.keep [(1, _), (8, _), (9, _), (10, _), (11, _)] z5 ?_
 refine HQ.seq ?_
 refine HQ.rseq ?_
 refine pu Pu.move z1 z3 ?_
 refine pu (Pu.len ul91) z1 z3 ?_
 refine pu Pu.eql z2 z3 ?_
 refine pu Pu.move z1 z3 ?_
 refine HQ.cutAt 3 [(25, .bool ((decide (((List.length t4 : Nat) : Int) = 0)) || (decide (p1 < 0)))), (1, vI p1), (8, BP b3 0), (9, vI 0), (10, vS a6 t4 c7), (11, BP b14 0)] [(1, Box b1 [vS a_0 p0.Cells c_0, vS a_1 p0.Wet c_1, vI p0.Fuse, .bool p0.Dead]), (2, Box b2 [vI p3.Seq, vI p3.Root, vI p3.Size, vS a_2 p3.Puts c_2]), (3, Box b3 [.slice none 0 0, .slice none 0 0, vI 0, .bool false]), (4, OwnS (kS kU8) a6 c7 t4), (5, OwnS kTCell a10 c11 t8.Cells), (6, OwnS kTWet a12 c13 t8.Wet), (7, Box b14 [vS a10 t8.Cells c11, vS a12 t8.Wet c13, vI t8.Fuse, .bool t8.Dead])] ?_ ?_
 ·rcases Bool.eq_false_or_eq_true (decide (((List.length t4 : Nat) : Int) = 0)) with hg15 | hg15
  ·refine HQ.off rfl rfl hg15 rfl ?_
   refine HQ.off rfl rfl hg15 rfl ?_
   refine pu (Pu.pickOT (u := (decide (p1 < 0))) hg15) z2 z3 ?_
   exact HQ.mid z6 z7 rfl
  ·refine HQ.on rfl rfl hg15 ?_
   refine pu Pu.move z1 z3 ?_
   refine HQ.on rfl rfl hg15 ?_
   refine pu Pu.lss z2 z3 ?_
   refine pu (Pu.pickOF hg15) z2 z3 ?_
   exact HQ.mid z6 z7 rfl
 refine pu Pu.move z1 z3 ?_
 refine HQ.cutAt 6 [(32, .bool (((decide (((List.length t4 : Nat) : Int) = 0)) || (decide (p1 < 0))) || (decide (p1 > (wrap64 (64 - ((List.length t4 : Nat) : Int))))))), (1, vI p1), (8, BP b3 0), (9, vI 0), (10, vS a6 t4 c7), (11, BP b14 0)] [(1, Box b1 [vS a_0 p0.Cells c_0, vS a_1 p0.Wet c_1, vI p0.Fuse, .bool p0.Dead]), (2, Box b2 [vI p3.Seq, vI p3.Root, vI p3.Size, vS a_2 p3.Puts c_2]), (3, Box b3 [.slice none 0 0, .slice none 0 0, vI 0, .bool false]), (4, OwnS (kS kU8) a6 c7 t4), (5, OwnS kTCell a10 c11 t8.Cells), (6, OwnS kTWet a12 c13 t8.Wet), (7, Box b14 [vS a10 t8.Cells c11, vS a12 t8.Wet c13, vI t8.Fuse, .bool t8.Dead])] ?_ ?_
 ·rcases Bool.eq_false_or_eq_true ((decide (((List.length t4 : Nat) : Int) = 0)) || (decide (p1 < 0))) with hg16 | hg16
  ·refine HQ.off rfl rfl hg16 rfl ?_
   refine HQ.off rfl rfl hg16 rfl ?_
   refine HQ.off rfl rfl hg16 rfl ?_
   refine HQ.off rfl rfl hg16 rfl ?_
   refine HQ.off rfl rfl hg16 rfl ?_
   refine pu (Pu.pickOT (u := (decide (p1 > (wrap64 (64 - ((List.length t4 : Nat) : Int)))))) hg16) z2 z3 ?_
   exact HQ.mid z6 z7 rfl
  ·refine HQ.on rfl rfl hg16 ?_
   refine pu Pu.move z1 z3 ?_
   refine HQ.on rfl rfl hg16 ?_
   refine pu Pu.move z1 z3 ?_
   refine HQ.on rfl rfl hg16 ?_
   refine pu (Pu.len ul91) z1 z3 ?_
   refine HQ.on rfl rfl hg16 ?_
   refine pu Pu.sub z2 z3 ?_
   refine HQ.on rfl rfl hg16 ?_
   refine pu Pu.gtr z2 z3 ?_
   refine pu (Pu.pickOF hg16) z2 z3 ?_
   exact HQ.mid z6 z7 rfl
 refine HQ.done ?_
 refine HQ.keep [(32, _), (1, _), (8, _), (9, _), (10, _), (11, _)] z6 ?_
 rcases brk H with ⟨hc, H⟩ | ⟨hc, H⟩
 ·refine HQ.condT rfl hc ?_
  clear hc
  refine HQ.rseq ?_
  refine op [7] [7] (OT.loadBA (vs := [vS a10 t8.Cells c11, vS a12 t8.Wet c13, vI t8.Fuse, .bool t8.Dead]) ag27 sz27 rfl rfl) z1 z1 z4 (fun _ => rfl) fun _ => ?_
  refine HQ.opN [3] [3] [] (OT.storeC (cs' := [vS a10 t8.Cells c11, vS a12 t8.Wet c13, vI t8.Fuse, .bool t8.Dead]) sz27 rfl rfl rfl rfl rfl) z2 z1 rfl rfl rfl (fun _ => rfl) fun _ => ?_
  refine pu Pu.assign z1 z3 ?_
  refine HQ.done ?_
  refine HQ.keep [(1, _), (8, _), (9, _), (10, _), (11, _)] z5 ?_
  refine HQ.ret ?_
  refine HQ.thenR ?_
  obtain rfl := Option.some.inj H
  exact HQ.fin (vs := [_, _]) Try.results68 ((a10, c11), (a12, c13)) ⟨⟨_, _, 3, rfl, rfl, ag27, sz27, rfl⟩, rfl, trivial⟩ rfl [5, 6] z2 rfl
 ·refine HQ.condF rfl hc ?_
  clear hc
  refine HQ.skipThen ?_
  refine HQ.seq ?_
  refine HQ.rseq ?_
  refine pu Pu.move z1 z3 ?_
  refine pu (Pu.len ul91) z1 z3 ?_
  refine pu Pu.move z1 z3 ?_
  refine HQ.done ?_
  refine HQ.keep [(1, _), (8, _), (9, _), (10, _), (11, _), (34, _), (35, _), (36, _)] z8 ?_
  refine HQ.block ?_
  obtain ⟨o53, h63, H⟩ := bnd H
  refine HQ.loop h63 0 (fun (s : Int × (List TCell) × (List TWet) × Int × Bool) (g : (Option Addr × Nat) × (Option Addr × Nat)) => match s, g with | (i26, l27, l30, i33, q34), ((a28, c29), (a31, c32)) => [(1, vI p1), (8, BP b3 0), (9, vI 0), (10, vS a6 t4 c7), (11, BP b14 0), (34, vS a6 t4 c7), (35, vI ((List.length t4 : Nat) : Int)), (36, vI i26)]) (fun (s : Int × (List TCell) × (List TWet) × Int × Bool) (g : (Option Addr × Nat) × (Option Addr × Nat)) => match s, g with | (i26, l27, l30, i33, q34), ((a28, c29), (a31, c32)) => [(3, Box b3 [.slice none 0 0, .slice none 0 0, vI 0, .bool false]), (7, Box b14 [vS a28 l27 c29, vS a31 l30 c32, vI i33, .bool q34]), (4, OwnS (kS kU8) a6 c7 t4), (5, OwnS kTCell a28 c29 l27), (6, OwnS kTWet a31 c32 l30)]) (fun _ _ _ => False) ((a10, c11), (a12, c13)) z8 z5 rfl ?_ ?_ ?_
  ·clear H h63
   rintro ⟨i26, l27, l30, i33, q34⟩ ⟨⟨a28, c29⟩, ⟨a31, c32⟩⟩ o H
   rw [impl_Append_b0] at H
   refine HQ.keep [(1, _), (8, _), (9, _), (10, _), (11, _), (34, _), (35, _), (36, _)] z8 ?_
   refine HQ.keepR [(3, _), (7, _), (4, _), (5, _), (6, _)] z5 rfl ?_
   refine HQ.rseq ?_
   refine pu Pu.lss z2 z3 ?_
   refine HQ.done ?_
   refine HQ.keep [(1, _), (8, _), (9, _), (10, _), (11, _), (34, _), (35, _), (36, _), (37, _)] z9 ?_
   refine HQ.seq ?_
   rcases brk H with ⟨hc, H⟩ | ⟨hc, H⟩
   ·refine HQ.condT rfl hc ?_
    clear hc
    refine HQ.skipThen ?_
    refine HQ.seq ?_
    refine HQ.block ?_
    refine HQ.rseq ?_
    refine pu Pu.move z1 z3 ?_
    obtain ⟨h44, H⟩ := asr H
    refine op [4] [4] (OT.indexO ul91 sz22 h44) z2 z1 z4 (fun _ => rfl) fun _ => ?_
    refine op [4] [4, 14] (OT.focus (v := fun a45 c46 => vS a45 (gt t4 i26) c46) (fun _ ys => ys) sc22 h44 (fun _ _ => rfl) (fun _ _ _ => rfl) (fun _ _ => rfl)) z1 z1 z4 (fun _ => rfl) fun ⟨a45, c46⟩ => ?_
    refine pu Pu.assign z1 z3 ?_
    refine pu Pu.assign z1 z3 ?_
    refine HQ.done ?_
    refine HQ.keep [(1, _), (8, _), (9, _), (10, _), (11, _), (34, _), (35, _), (36, _), (12, _), (13, _)] z10 ?_
    refine HQ.regionQ ?_
    refine op [7] [7] (OT.loadBA (vs := [vS a28 l27 c29, vS a31 l30 c32, vI i33, .bool q34]) ag27 sz27 rfl rfl) z1 z1 z4 (fun _ => rfl) fun _ => ?_
    refine pu Pu.move z1 z3 ?_
    refine pu Pu.add z2 z3 ?_
    refine pu Pu.move z1 z3 ?_
    refine pu Pu.add z2 z3 ?_
    refine pu Pu.move z1 z3 ?_
    obtain ⟨t47, h48, H⟩ := bnd H
    refine op [5, 6, 14] [15, 16, 5, 6, 14] (OT.call (us := [_, _, _]) (Pre := [OwnS kTCell a28 c29 l27, OwnS kTWet a31 c32 l30, OwnS kU8 a45 c46 (gt t4 i26)]) [.tmp 41, .tmp 45, .tmp 46] Try.call11 rfl rfl fun w F hs hF hp => impl_Write_c (hs.lend hF 0 rfl) (hs.lend hF 1 rfl) (hs.lend hF 2 rfl) h48) z4 z3 z4 (fun _ => rfl) fun ⟨⟨a49, c50⟩, ⟨a51, c52⟩⟩ => ?_
    refine HQ.opN [7] [7] [] (OT.storeC (cs' := [vS a49 t47.Cells c50, vS a51 t47.Wet c52, vI t47.Fuse, .bool t47.Dead]) sz27 rfl rfl rfl rfl rfl) z2 z1 rfl rfl rfl (fun _ => rfl) fun _ => ?_
    refine HQ.done ?_
    refine HQ.keep [(1, _), (8, _), (9, _), (10, _), (11, _), (34, _), (35, _), (36, _)] z8 ?_
    refine HQ.blkN ?_
    refine HQ.thenN ?_
    refine HQ.regionQ ?_
    refine pu Pu.add z2 z3 ?_
    refine pu Pu.move z1 z3 ?_
    refine HQ.done ?_
    refine HQ.keep [(1, _), (8, _), (9, _), (10, _), (11, _), (34, _), (35, _), (36, _)] z8 ?_
    refine HQ.unfocus (xs' := t4) 4 14 rfl rfl rfl rfl (set_put rfl h44) ?_
    refine HQ.mv 5 15 rfl rfl ?_
    refine HQ.mv 6 16 rfl rfl ?_
    obtain rfl := Option.some.inj H
    exact HQ.next ((a49, c50), (a51, c52)) z8 z5 rfl
   ·refine HQ.condF rfl hc ?_
    clear hc
    refine HQ.exit ?_
    refine HQ.thenE ?_
    obtain rfl := Option.some.inj H
    exact HQ.out ((a28, c29), (a31, c32)) z8 z5 rfl
  ·rintro ⟨i54, l55, l58, i61, q62⟩ rfl ⟨⟨a56, c57⟩, ⟨a59, c60⟩⟩
   clear h63
   replace H := H
   refine HQ.keep [(1, _), (8, _), (9, _), (10, _), (11, _), (34, _), (35, _), (36, _)] z8 ?_
   refine HQ.keepR [(3, _), (7, _), (4, _), (5, _), (6, _)] z5 rfl ?_
   refine HQ.blkE ?_
   refine HQ.thenN ?_
   refine HQ.rseq ?_
   refine op [7] [7] (OT.loadBA (vs := [vS a56 l55 c57, vS a59 l58 c60, vI i61, .bool q62]) ag27 sz27 rfl rfl) z1 z1 z4 (fun _ => rfl) fun _ => ?_
   refine pu Pu.move z1 z3 ?_
   refine pu Pu.move z1 z3 ?_
   refine pu (Pu.len ul91) z1 z3 ?_
   refine pu Pu.add z2 z3 ?_
   refine HQ.opN [3] [3] [] (OT.storeC (cs' := [vS a56 l55 c57, vS a59 l58 c60, vI i61, .bool q62]) sz27 rfl rfl rfl rfl rfl) z2 z1 rfl rfl rfl (fun _ => rfl) fun _ => ?_
   refine pu Pu.assign z1 z3 ?_
   refine HQ.done ?_
   refine HQ.keep [(8, _), (9, _)] z2 ?_
   refine HQ.ret ?_
   obtain rfl := Option.some.inj H
   exact HQ.fin (vs := [_, _]) Try.results68 ((a56, c57), (a59, c60)) ⟨⟨_, _, 3, rfl, rfl, ag27, sz27, rfl⟩, rfl, trivial⟩ rfl [5, 6] z2 rfl
  ·exact fun r h a w hf => hf.elim

theorem spec_l18How_c {w : World} {k : Nat} {p0 : TCur} {p1 : Int} {β_0 : Nat} {a_0 : Option Addr} {c_0 : Nat} {F0 : Fp} (hs0 : Sat [Box β_0 [vS a_0 p0.b c_0, vI p0.i, vI p0.h]] w.heap F0) (hF0 : ∀ b, F0 b → b < w.heap.size) (hb_0 : BorS kU8 a_0 c_0 p0.b w.heap (Lt w F0)) {r : (List Int) × TCur} (H : spec_l18How k p0 p1 = some r) :
  Calls Try.prog 85 #[BP β_0 0, vI p1] w (Rt w F0 (fun g : Option Addr × Nat => vS g.1 r.1 g.2) (fun g => [OwnS kI g.1 g.2 r.1, Box β_0 [vS a_0 p0.b c_0, vI r.2.i, vI r.2.h]])) := by
 rw [spec_l18How] at H
 refine Calls.enter (N := 22) (us := [_, _]) (F0 := F0) (Γ0 := [(1, Box β_0 [vS a_0 p0.b c_0, vI p0.i, vI p0.h])]) Try.func85 rfl rfl rfl hs0 hF0 ?_
 refine HQ.rseq ?_
 refine pu Pu.assign z1 z3 ?_
 refine HQ.done ?_
 refine HQ.keep [(0, _), (1, _), (4, _)] z3 ?_
 refine HQ.rseq ?_
 refine op [] [2] (OT.buildF (us := []) (ys := ([] : (List Int))) (enc := (encI .i64)) (hl := fun _ => ⟨rfl, rfl⟩) [] sl33.ul sl33.szE sl33.zc rfl rfl rfl rfl rfl) trivial trivial z4 (fun _ => rfl) fun ⟨a1, c2⟩ => ?_
 refine pu Pu.assign z1 z3 ?_
 refine HQ.done ?_
 refine HQ.keep [(0, _), (1, _), (4, _), (5, _)] z4 ?_
 refine HQ.seq ?_
 refine HQ.rseq ?_
 refine pu Pu.move z1 z3 ?_
 refine pu Pu.move z1 z3 ?_
 obtain ⟨t3, h4, H⟩ := bnd H
 refine op [1] [1] (OT.callM (us := [_, _]) (PreX := [Box β_0 [vS a_0 p0.b c_0, vI p0.i, vI p0.h]]) (PreL := []) [.tmp 8, .tmp 9] Try.call86 rfl rfl fun w FX FL hs1 hF1 hs2 hF2 hp => spec_l1Below_c (p0 := p0) (p1 := p1) hs1 hF1 (hb_0.passY hp) h4) z3 z1 z4 (fun _ => rfl) fun _ => ?_
 refine pu Pu.assign z1 z3 ?_
 refine HQ.done ?_
 refine HQ.keep [(0, _), (4, _), (5, _), (6, _)] z4 ?_
 refine HQ.block ?_
 obtain ⟨o38, h45, H⟩ := bnd H
 refine HQ.loop h45 0 (fun (s : (List Int) × Int × Int × Int) (g : Option Addr × Nat) => match s, g with | (l14, i17, i18, i19), (a15, c16) => [(0, BP β_0 0), (4, .slice none 0 0), (5, vS a15 l14 c16), (6, vI i17)]) (fun (s : (List Int) × Int × Int × Int) (g : Option Addr × Nat) => match s, g with | (l14, i17, i18, i19), (a15, c16) => [(1, Box β_0 [vS a_0 p0.b c_0, vI i18, vI i19]), (2, OwnS kI a15 c16 l14)]) (fun _ _ _ => False) (a1, c2) z4 z2 rfl ?_ ?_ ?_
 ·clear H h45
  rintro ⟨l14, i17, i18, i19⟩ ⟨a15, c16⟩ o H
  rw [spec_l18How_b0] at H
  refine HQ.keep [(0, _), (4, _), (5, _), (6, _)] z4 ?_
  refine HQ.keepR [(1, _), (2, _)] z2 rfl ?_
  refine HQ.seq ?_
  refine HQ.rseq ?_
  refine pu Pu.move z1 z3 ?_
  refine pu Pu.gtr z2 z3 ?_
  refine HQ.done ?_
  refine HQ.keep [(0, _), (4, _), (5, _), (6, _), (12, _)] z5 ?_
  rcases brk H with ⟨hc, H⟩ | ⟨hc, H⟩
  ·refine HQ.condT rfl hc ?_
   clear hc
   refine HQ.skipThen ?_
   refine HQ.seq ?_
   refine HQ.block ?_
   refine HQ.regionQ ?_
   refine pu Pu.move z1 z3 ?_
   refine pu Pu.move z1 z3 ?_
   refine op [] [7] (OT.buildF (us := [vI 0, vI 1, vI 1, vI 2, vI 3]) (ys := ([0, 1, 1, 2, 3] : (List Int))) (enc := (encI .i64)) (hl := fun _ => ⟨rfl, rfl⟩) [.const (vI 0), .const (vI 1), .const (vI 1), .const (vI 2), .const (vI 3)] sl33.ul sl33.szE sl33.zc rfl rfl rfl rfl rfl) z5 trivial z4 (fun _ => rfl) fun ⟨a29, c30⟩ => ?_
   obtain ⟨t31, h32, H⟩ := bnd H
   refine op [1, 7] [1, 7] (OT.callM (us := [_, _]) (PreX := [Box β_0 [vS a_0 p0.b c_0, vI i18, vI i19]]) (PreL := [OwnS kI a29 c30 ([0, 1, 1, 2, 3] : (List Int))]) [.tmp 16, .tmp 17] Try.call79 rfl rfl fun w FX FL hs1 hF1 hs2 hF2 hp => spec_l1Int_c (p0 := (⟨p0.b, i18, i19⟩ : TCur)) (p1 := ([0, 1, 1, 2, 3] : (List Int))) hs1 hF1 (hb_0.passY hp) (hs2.lendY hF2 0 rfl) h32) z3 z2 z4 (fun _ => rfl) fun _ => ?_
   refine op [] [8] (OT.buildF (us := [vI t31.1]) (ys := ([t31.1] : (List Int))) (enc := (encI .i64)) (hl := fun _ => ⟨rfl, rfl⟩) [.tmp 18] sl33.ul sl33.szE sl33.zc rfl rfl rfl rfl rfl) z1 trivial z4 (fun _ => rfl) fun ⟨a33, c34⟩ => ?_
   obtain ⟨h37, H⟩ := asr H
   refine op [2, 8] [2, 8] (OT.appendG (enc := (encI .i64)) (hl := fun _ => ⟨rfl, rfl⟩) sl33 ul33 h37) z2 z2 z4 (fun _ => rfl) fun ⟨a35, c36⟩ => ?_
   refine pu Pu.assign z1 z3 ?_
   refine HQ.done ?_
   refine HQ.keep [(0, _), (4, _), (5, _), (6, _)] z4 ?_
   refine HQ.blkN ?_
   refine HQ.thenN ?_
   refine HQ.regionQ ?_
   refine pu Pu.move z1 z3 ?_
   refine pu Pu.sub z2 z3 ?_
   refine pu Pu.assign z1 z3 ?_
   refine HQ.done ?_
   refine HQ.keep [(0, _), (4, _), (5, _), (6, _)] z4 ?_
   obtain rfl := Option.some.inj H
   exact HQ.next (a35, c36) z4 z2 rfl
  ·refine HQ.condF rfl hc ?_
   clear hc
   refine HQ.exit ?_
   refine HQ.thenE ?_
   obtain rfl := Option.some.inj H
   exact HQ.out (a15, c16) z4 z2 rfl
 ·rintro ⟨l39, i42, i43, i44⟩ rfl ⟨a40, c41⟩
  clear h45
  replace H := H
  refine HQ.keep [(0, _), (4, _), (5, _), (6, _)] z4 ?_
  refine HQ.keepR [(1, _), (2, _)] z2 rfl ?_
  refine HQ.blkE ?_
  refine HQ.thenN ?_
  refine HQ.rseq ?_
  refine pu Pu.move z1 z3 ?_
  refine pu Pu.assign z1 z3 ?_
  refine HQ.done ?_
  refine HQ.keep [(4, _)] z1 ?_
  refine HQ.ret ?_
  obtain rfl := Option.some.inj H
  exact HQ.fin (vs := [_]) Try.results85 (a40, c41) z1 rfl [2, 1] z2 rfl
 ·exact fun r h a w hf => hf.elim

theorem spec_Most_c {w : World} {p0 : Int} {p1 : Int}   {r : Int} (H : spec_Most p0 p1 = some r) :
  Calls Try.prog 94 #[vI p0, vI p1] w (Rt w Nil (fun _ : Unit => vI r) (fun _ => [])) := by
 rw [spec_Most] at H
 refine Calls.enter0 (N := 10) (us := [_, _]) Try.func94 rfl rfl rfl ?_
 refine HQ.rseq ?_
 refine pu Pu.assign z1 z3 ?_
 refine HQ.done ?_
 refine HQ.keep [(0, _), (1, _), (4, _)] z3 ?_
 refine HQ.seq ?_
 refine HQ.rseq ?_
 refine pu Pu.move z1 z3 ?_
 refine pu Pu.move z1 z3 ?_
 refine pu Pu.gtr z2 z3 ?_
 refine HQ.done ?_
 refine HQ.keep [(0, _), (1, _), (4, _), (7, _)] z4 ?_
 rcases brk H with ⟨hc, H⟩ | ⟨hc, H⟩
 ·refine HQ.condT rfl hc ?_
  clear hc
  refine HQ.rseq ?_
  refine pu Pu.move z1 z3 ?_
  refine pu Pu.assign z1 z3 ?_
  refine HQ.done ?_
  refine HQ.keep [(0, _), (4, _)] z2 ?_
  refine HQ.ret ?_
  refine HQ.thenR ?_
  obtain rfl := Option.some.inj H
  exact HQ.fin (vs := [_]) Try.results94 () z1 rfl [] trivial rfl
 ·refine HQ.condF rfl hc ?_
  clear hc
  refine HQ.skipThen ?_
  refine HQ.rseq ?_
  refine pu Pu.move z1 z3 ?_
  refine pu Pu.assign z1 z3 ?_
  refine HQ.done ?_
  refine HQ.keep [(4, _)] z1 ?_
  refine HQ.ret ?_
  obtain rfl := Option.some.inj H
  exact HQ.fin (vs := [_]) Try.results94 () z1 rfl [] trivial rfl

end Go.Proofs.Sx
