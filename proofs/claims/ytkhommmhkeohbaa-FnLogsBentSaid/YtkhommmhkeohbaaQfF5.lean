import Derived.Test.YtkhommmhkeohbaaQfF4
import Derived.KernelRfl
namespace Go.Proofs.Sx
open Go.RowKit
set_option linter.unusedVariables false
set_option linter.unusedSimpArgs false
set_option maxRecDepth 20000
set_option maxHeartbeats 1000000
theorem spec_l20Disk_c {w : World} {k : Nat} {p0 : TCur} {p1 : Int} {β_0 : Nat} {a_0 : Option Addr} {c_0 : Nat} {F0 : Fp} (hs0 : Sat [Box β_0 [vS a_0 p0.b c_0, vI p0.i, vI p0.h]] w.heap F0) (hF0 : ∀ b, F0 b → b < w.heap.size) (hb_0 : BorS kU8 a_0 c_0 p0.b w.heap (Lt w F0)) {r : TDisk × (List TTx) × TCur} (H : spec_l20Disk k p0 p1 = some r) :
  Calls Try.prog 117 #[BP β_0 0, vI p1] w (Rt w F0 (fun g : (Option Addr × Nat) × (Option Addr × Nat) × (Option Addr × Nat) => .tuple #[.agg #[vS g.1.1 r.1.Cells g.1.2, vS g.2.1.1 r.1.Wet g.2.1.2, vI r.1.Fuse, .bool r.1.Dead], vS g.2.2.1 r.2.1 g.2.2.2]) (fun g => [OwnS kTCell g.1.1 g.1.2 r.1.Cells, OwnS kTWet g.2.1.1 g.2.1.2 r.1.Wet, OwnS kTTx g.2.2.1 g.2.2.2 r.2.1, Box β_0 [vS a_0 p0.b c_0, vI r.2.2.i, vI r.2.2.h]])) := by
 rw [spec_l20Disk] at H
 refine Calls.enter (N := 46) (us := [_, _]) (F0 := F0) (Γ0 := [(1, Box β_0 [vS a_0 p0.b c_0, vI p0.i, vI p0.h])]) Try.func117 rfl rfl rfl hs0 hF0 ?_
 refine HQ.rseq ?_
 refine op [] [2] (OT.alloc zc27) trivial trivial z4 (fun _ => rfl) fun b1 => ?_
 refine pu Pu.assign z1 z3 ?_
 refine HQ.done ?_
 refine HQ.keep [(0, _), (1, _), (4, _), (5, _)] z4 ?_
 refine HQ.rseq ?_
 obtain ⟨t2, h3, H⟩ := bnd H
 refine op [] [3, 4] (OT.call (us := []) (Pre := []) [] Try.call115 rfl rfl fun w F hs hF hp => spec_DiskNew_c h3) z1 trivial z4 (fun _ => rfl) fun ⟨⟨a4, c5⟩, ⟨a6, c7⟩⟩ => ?_
 refine op [] [5] (OT.alloc zc27) trivial trivial z4 (fun _ => rfl) fun b8 => ?_
 refine HQ.opN [5] [5] [] (OT.storeC (cs' := [vS a4 t2.Cells c5, vS a6 t2.Wet c7, vI t2.Fuse, .bool t2.Dead]) sz27 rfl rfl rfl rfl rfl) z2 z1 rfl rfl rfl (fun _ => rfl) fun _ => ?_
 refine HQ.done ?_
 refine HQ.keep [(0, _), (1, _), (4, _), (5, _), (6, _)] z5 ?_
 refine HQ.rseq ?_
 refine pu Pu.assign z1 z3 ?_
 refine HQ.done ?_
 refine HQ.keep [(0, _), (1, _), (4, _), (5, _), (6, _), (7, _)] z6 ?_
 refine HQ.rseq ?_
 refine pu Pu.move z1 z3 ?_
 refine pu Pu.move z1 z3 ?_
 obtain ⟨t9, h10, H⟩ := bnd H
 refine op [1] [6, 1] (OT.callM (us := [_, _]) (PreX := [Box β_0 [vS a_0 p0.b c_0, vI p0.i, vI p0.h]]) (PreL := []) [.tmp 13, .tmp 14] Try.call121 rfl rfl fun w FX FL hs1 hF1 hs2 hF2 hp => spec_l20Txs_c (p0 := p0) (p1 := p1) hs1 hF1 (hb_0.passY hp) h10) z3 z1 z4 (fun _ => rfl) fun ⟨a11, c12⟩ => ?_
 refine pu Pu.assign z1 z3 ?_
 refine HQ.done ?_
 refine HQ.keep [(0, _), (4, _), (5, _), (6, _), (7, _), (8, _)] z6 ?_
 refine HQ.seq ?_
 refine HQ.rseq ?_
 refine pu Pu.assign z1 z3 ?_
 refine HQ.done ?_
 refine HQ.keep [(0, _), (4, _), (5, _), (6, _), (7, _), (8, _), (9, _)] z7 ?_
 refine HQ.block ?_
 obtain ⟨o103, h116, H⟩ := bnd H
 refine HQ.loop h116 0 (fun (s : Int × Int × Int × Int × (List TCell) × (List TWet) × Int × Bool) (g : (Option Addr × Nat) × (Option Addr × Nat)) => match s, g with | (i39, i40, i41, i42, l43, l46, i49, q50), ((a44, c45), (a47, c48)) => [(0, BP β_0 0), (4, BP b1 0), (5, .slice none 0 0), (6, BP b8 0), (7, vI i39), (8, vS a11 t9.1 c12), (9, vI i40)]) (fun (s : Int × Int × Int × Int × (List TCell) × (List TWet) × Int × Bool) (g : (Option Addr × Nat) × (Option Addr × Nat)) => match s, g with | (i39, i40, i41, i42, l43, l46, i49, q50), ((a44, c45), (a47, c48)) => [(1, Box β_0 [vS a_0 p0.b c_0, vI i41, vI i42]), (2, Box b1 [.slice none 0 0, .slice none 0 0, vI 0, .bool false]), (5, Box b8 [vS a44 l43 c45, vS a47 l46 c48, vI i49, .bool q50]), (6, OwnS kTTx a11 c12 t9.1), (3, OwnS kTCell a44 c45 l43), (4, OwnS kTWet a47 c48 l46)]) (fun r => bodyPost Try.prog Try.f117 (Rt w F0 (fun g : (Option Addr × Nat) × (Option Addr × Nat) × (Option Addr × Nat) => .tuple #[.agg #[vS g.1.1 r.1.Cells g.1.2, vS g.2.1.1 r.1.Wet g.2.1.2, vI r.1.Fuse, .bool r.1.Dead], vS g.2.2.1 r.2.1 g.2.2.2]) (fun g => [OwnS kTCell g.1.1 g.1.2 r.1.Cells, OwnS kTWet g.2.1.1 g.2.1.2 r.1.Wet, OwnS kTTx g.2.2.1 g.2.2.2 r.2.1, Box β_0 [vS a_0 p0.b c_0, vI r.2.2.i, vI r.2.2.h]])) .ret) ((a4, c5), (a6, c7)) z7 z6 rfl ?_ ?_ ?_
 ·clear H h116
  rintro ⟨i39, i40, i41, i42, l43, l46, i49, q50⟩ ⟨⟨a44, c45⟩, ⟨a47, c48⟩⟩ o H
  rw [spec_l20Disk_b0] at H
  refine HQ.keep [(0, _), (4, _), (5, _), (6, _), (7, _), (8, _), (9, _)] z7 ?_
  refine HQ.keepR [(1, _), (2, _), (5, _), (6, _), (3, _), (4, _)] z6 rfl ?_
  refine HQ.seq ?_
  refine HQ.rseq ?_
  refine pu Pu.move z1 z3 ?_
  refine pu Pu.move z1 z3 ?_
  refine pu (Pu.len ul80) z1 z3 ?_
  refine pu Pu.lss z2 z3 ?_
  refine HQ.done ?_
  refine HQ.keep [(0, _), (4, _), (5, _), (6, _), (7, _), (8, _), (9, _), (19, _)] z8 ?_
  rcases brk H with ⟨hc, H⟩ | ⟨hc, H⟩
  ·refine HQ.condT rfl hc ?_
   clear hc
   refine HQ.skipThen ?_
   refine HQ.seq ?_
   refine HQ.block ?_
   refine HQ.lend 6 rfl fun w77 P78 hL79 => ?_
   refine HQ.seq ?_
   refine HQ.dStart mixd ?_
   obtain ⟨h81, H⟩ := asr H
   obtain ⟨t86, h87, H⟩ := bnd H
   obtain ⟨⟨a82, c83⟩, hb84, hn85⟩ := BorS.nest hL79.get h81
   refine HQ.dPart [(0, BP β_0 0), (4, BP b1 0), (5, .slice none 0 0), (6, BP b8 0), (7, vI i39), (8, vS a11 t9.1 c12), (9, vI i40)] 12 [⟨[0], [0], []⟩, ⟨[], [], []⟩, ⟨[], [], []⟩, ⟨[], [], []⟩, ⟨[], [], [2, 3]⟩, ⟨[], [], [4]⟩, ⟨[1, 2], [3, 4, 1, 2], [0, 1, 5]⟩, ⟨[], [], [6]⟩, ⟨[], [], [7]⟩, ⟨[], [], [7]⟩, ⟨[], [5], []⟩, ⟨[5], [6], [8, 10]⟩] [⟨none, none⟩, ⟨none, none⟩, ⟨none, none⟩, ⟨some 6, none⟩, ⟨some 6, none⟩, ⟨some 10, some 11⟩, ⟨some 11, none⟩] (fun (g80 : ((Option Addr × Nat) × (Option Addr × Nat)) × Nat) => [.agg #[vS a44 l43 c45, vS a47 l46 c48, vI i49, .bool q50], vI i39, vS a11 t9.1 c12, vI i40, EP a11 i40 4 0, .agg #[vI ((gt t9.1 i40).Seq), vI ((gt t9.1 i40).Root), vI ((gt t9.1 i40).Size), vS a82 ((gt t9.1 i40).Puts) c83], .tuple #[.agg #[vS g80.1.1.1 t86.1.Cells g80.1.1.2, vS g80.1.2.1 t86.1.Wet g80.1.2.2, vI t86.1.Fuse, .bool t86.1.Dead], vI t86.2], .tuple #[.agg #[vS g80.1.1.1 t86.1.Cells g80.1.1.2, vS g80.1.2.1 t86.1.Wet g80.1.2.2, vI t86.1.Fuse, .bool t86.1.Dead], vI t86.2], .agg #[vS g80.1.1.1 t86.1.Cells g80.1.1.2, vS g80.1.2.1 t86.1.Wet g80.1.2.2, vI t86.1.Fuse, .bool t86.1.Dead], vI t86.2, BP g80.2 0, undef]) (fun (g80 : ((Option Addr × Nat) × (Option Addr × Nat)) × Nat) => [Box b8 [vS a44 l43 c45, vS a47 l46 c48, vI i49, .bool q50], OwnS kTCell a44 c45 l43, OwnS kTWet a47 c48 l46, OwnS kTCell g80.1.1.1 g80.1.1.2 t86.1.Cells, OwnS kTWet g80.1.2.1 g80.1.2.2 t86.1.Wet, Box g80.2 [.slice none 0 0, .slice none 0 0, vI 0, .bool false], Box g80.2 [vS g80.1.1.1 t86.1.Cells g80.1.1.2, vS g80.1.2.1 t86.1.Wet g80.1.2.2, vI t86.1.Fuse, .bool t86.1.Dead]]) (((none, 0), (none, 0)), 0) [5, 3, 4] [5, 3, 4, 17, 18, 19] [] z7 z3 rfl (by kernel_rfl) (by kernel_rfl) (fun _ => rfl) (by kernel_rfl) (fun _ => rfl) rfl ⟨?_, ?_, ?_, ?_, ?_, ?_, ?_, ?_, ?_, ?_, ?_, ?_, trivial⟩ fun g80 => ?_
   ·exact OpOK2.of (fun g80 => [(.tmp 6, BP b8 0)]) _ _ (fun g80 _ => g80) rfl rfl (fun _ => z1) (fun g80 => OT.loadBA (vs := [vS a44 l43 c45, vS a47 l46 c48, vI i49, .bool q50]) ag27 sz27 rfl rfl) (fun _ _ => z9)
   ·exact OpOK2.pu (fun g80 => [(.tmp 7, vI i39)]) z2 (fun _ => z1) (fun _ => Pu.move) (fun _ => z1) (fun _ _ => z9)
   ·exact OpOK2.pu (fun g80 => [(.tmp 8, vS a11 t9.1 c12)]) z2 (fun _ => z1) (fun _ => Pu.move) (fun _ => z1) (fun _ _ => z9)
   ·exact OpOK2.pu (fun g80 => [(.tmp 9, vI i40)]) z2 (fun _ => z1) (fun _ => Pu.move) (fun _ => z1) (fun _ _ => z9)
   ·exact OpOK2.of (fun g80 => [(.tmp 25, vS a11 t9.1 c12), (.tmp 26, vI i40)]) _ _ (fun g80 _ => g80) rfl rfl (fun _ => z2) (fun g80 => OT.indexB ul80 sz57 hL79.get h81) (fun _ _ => z9)
   ·exact OpOK2.of (fun g80 => [(.tmp 27, EP a11 i40 4 0)]) _ _ (fun g80 _ => g80) rfl rfl (fun _ => z1) (fun g80 => OT.loadNA (vs := [vI ((gt t9.1 i40).Seq), vI ((gt t9.1 i40).Root), vI ((gt t9.1 i40).Size), vS a82 ((gt t9.1 i40).Puts) c83]) ag57 sz57 hn85 hlTTx rfl rfl) (fun _ _ => z9)
   ·exact OpOK2.ofD [7, 8, 11] (by kernel_rfl) (fun g80 => [(.func 69, .func (.func 69) #[] #[]), (.tmp 23, .agg #[vS a44 l43 c45, vS a47 l46 c48, vI i49, .bool q50]), (.tmp 24, vI i39), (.const (vI 2), vI 2), (.tmp 28, .agg #[vI ((gt t9.1 i40).Seq), vI ((gt t9.1 i40).Root), vI ((gt t9.1 i40).Size), vS a82 ((gt t9.1 i40).Puts) c83])]) _ _ (fun g80 x => (x, g80.2)) rfl rfl (fun _ => z5) (fun g80 => OT.call (us := [_, _, _, _]) (Pre := [OwnS kTCell a44 c45 l43, OwnS kTWet a47 c48 l46]) [.tmp 23, .tmp 24, .const (vI 2), .tmp 28] Try.call69 rfl rfl fun w F hs hF hp => spec_Append_c (p0 := (⟨l43, l46, i49, q50⟩ : TDisk)) (p1 := i39) (p2 := 2) (p3 := (gt t9.1 i40)) (hs.lend hF 0 rfl) (hs.lend hF 1 rfl) (hb84.pass hp) h87) (fun _ _ => ⟨⟨rfl, rfl, rfl, rfl, rfl, rfl, rfl, trivial, trivial, rfl, rfl, trivial, trivial⟩, rfl, z7⟩)
   ·exact OpOK2.pu (fun g80 => [(.tmp 29, .tuple #[.agg #[vS g80.1.1.1 t86.1.Cells g80.1.1.2, vS g80.1.2.1 t86.1.Wet g80.1.2.2, vI t86.1.Fuse, .bool t86.1.Dead], vI t86.2])]) z2 (fun _ => z1) (fun _ => Pu.move) (fun _ => z1) (fun _ _ => z9)
   ·exact OpOK2.pu (fun g80 => [(.tmp 22, .tuple #[.agg #[vS g80.1.1.1 t86.1.Cells g80.1.1.2, vS g80.1.2.1 t86.1.Wet g80.1.2.2, vI t86.1.Fuse, .bool t86.1.Dead], vI t86.2])]) z2 (fun _ => z1) (fun _ => (Pu.extract rfl)) (fun _ => z1) (fun _ _ => z9)
   ·exact OpOK2.pu (fun g80 => [(.tmp 22, .tuple #[.agg #[vS g80.1.1.1 t86.1.Cells g80.1.1.2, vS g80.1.2.1 t86.1.Wet g80.1.2.2, vI t86.1.Fuse, .bool t86.1.Dead], vI t86.2])]) z2 (fun _ => z1) (fun _ => (Pu.extract rfl)) (fun _ => z1) (fun _ _ => z9)
   ·exact OpOK2.ofD [11] (by kernel_rfl) (fun g80 => []) _ _ (fun g80 x => (g80.1, x)) rfl rfl (fun _ => trivial) (fun g80 => OT.alloc zc27) (fun _ _ => ⟨⟨rfl, rfl, rfl, rfl, rfl, rfl, rfl, rfl, rfl, rfl, rfl, trivial, trivial⟩, rfl, z7⟩)
   ·exact OpOK2.of (fun g80 => [(.tmp 10, BP g80.2 0), (.tmp 30, .agg #[vS g80.1.1.1 t86.1.Cells g80.1.1.2, vS g80.1.2.1 t86.1.Wet g80.1.2.2, vI t86.1.Fuse, .bool t86.1.Dead])]) _ _ (fun g80 _ => g80) rfl rfl (fun _ => z2) (fun g80 => OT.storeC (cs' := [vS g80.1.1.1 t86.1.Cells g80.1.1.2, vS g80.1.2.1 t86.1.Wet g80.1.2.2, vI t86.1.Fuse, .bool t86.1.Dead]) sz27 rfl rfl rfl rfl rfl) (fun _ _ => z9)
   refine HQ.keep [(0, _), (4, _), (5, _), (6, _), (7, _), (8, _), (9, _), (31, _), (10, _)] z9 ?_
   refine HQ.keepR [(1, _), (2, _), (5, _), (6, _), (3, _), (4, _), (17, _), (18, _), (19, _)] z9 rfl ?_
   refine HQ.dRun 1 rfl rfl (by kernel_rfl) (by kernel_rfl) ?_
   refine pu Pu.assign z1 z3 ?_
   refine HQ.done ?_
   refine HQ.dEnd rfl ?_
   refine HQ.thenN ?_
   refine HQ.unlend hL79 6 rfl ?_
   refine HQ.keep [(0, _), (4, _), (5, _), (6, _), (7, _), (8, _), (9, _), (10, _), (11, _)] z9 ?_
   refine HQ.seq ?_
   refine HQ.rseq ?_
   refine pu Pu.move z1 z3 ?_
   refine pu Pu.lss z2 z3 ?_
   refine HQ.done ?_
   refine HQ.keep [(0, _), (4, _), (5, _), (6, _), (7, _), (8, _), (9, _), (10, _), (11, _), (33, _)] z10 ?_
   rcases brk H with ⟨hc, H⟩ | ⟨hc, H⟩
   ·refine HQ.condT rfl hc ?_
    clear hc
    obtain ⟨h94, H⟩ := asr H
    refine HQ.drawS mixd [(0, BP β_0 0), (4, BP b1 0), (5, .slice none 0 0), (6, BP b8 0), (7, vI i39), (8, vS a11 t9.1 c12), (9, vI i40), (10, BP g80.2 0), (11, vI t86.2)] 5 [⟨[0], [0], []⟩, ⟨[], [], []⟩, ⟨[], [], []⟩, ⟨[1], [2], [1, 2]⟩, ⟨[3], [4], [0]⟩] [⟨none, none⟩, ⟨none, some 3⟩, ⟨some 3, none⟩, ⟨none, some 4⟩, ⟨some 4, none⟩] (fun (g93 : Unit) => [.agg #[vS g80.1.1.1 t86.1.Cells g80.1.1.2, vS g80.1.2.1 t86.1.Wet g80.1.2.2, vI t86.1.Fuse, .bool t86.1.Dead], vS a11 t9.1 c12, vI i40, vS (sAd a11 c12 4 0) (slc t9.1 0 i40) (c12 - Int.toNat 0), undef]) (fun (g93 : Unit) => [Box g80.2 [vS g80.1.1.1 t86.1.Cells g80.1.1.2, vS g80.1.2.1 t86.1.Wet g80.1.2.2, vI t86.1.Fuse, .bool t86.1.Dead], OwnS kTTx a11 c12 t9.1, OwnS kTTx (sAd a11 c12 4 0) (c12 - Int.toNat 0) (slc t9.1 0 i40), Box b1 [.slice none 0 0, .slice none 0 0, vI 0, .bool false], Box b1 [vS g80.1.1.1 t86.1.Cells g80.1.1.2, vS g80.1.2.1 t86.1.Wet g80.1.2.2, vI t86.1.Fuse, .bool t86.1.Dead]]) () [19, 6, 2] [19, 6, 2] [] z9 z3 rfl (by kernel_rfl) (fun _ => rfl) (by kernel_rfl) (fun _ => rfl) ⟨?_, ?_, ?_, ?_, ?_, trivial⟩ fun g93 => ?_
    ·exact OpOK.of (fun g93 => [(.tmp 10, BP g80.2 0)]) _ _ (fun g93 _ => g93) rfl rfl (fun _ => z1) (fun g93 => OT.loadBA (vs := [vS g80.1.1.1 t86.1.Cells g80.1.1.2, vS g80.1.2.1 t86.1.Wet g80.1.2.2, vI t86.1.Fuse, .bool t86.1.Dead]) ag27 sz27 rfl rfl) (fun _ _ => z7)
    ·exact OpOK.pu (fun g93 => [(.tmp 8, vS a11 t9.1 c12)]) z2 (fun _ => z1) (fun _ => Pu.move) (fun _ => z1) (fun _ _ => z7)
    ·exact OpOK.pu (fun g93 => [(.tmp 9, vI i40)]) z2 (fun _ => z1) (fun _ => Pu.move) (fun _ => z1) (fun _ _ => z7)
    ·exact OpOK.of (fun g93 => [(.tmp 35, vS a11 t9.1 c12), (.tmp 36, vI i40)]) _ _ (fun g93 _ => g93) rfl rfl (fun _ => z2) (fun g93 => OT.cutO (vs := [(.tmp 36, vI i40)]) (K := kTTx) (l := 0) (h := i40) ul80 sz57 (.inl ⟨rfl, rfl⟩) (.inr ⟨_, _, rfl, .tail _ (.head _)⟩) h94) (fun _ _ => z7)
    ·exact OpOK.of (fun g93 => [(.tmp 4, BP b1 0), (.tmp 34, .agg #[vS g80.1.1.1 t86.1.Cells g80.1.1.2, vS g80.1.2.1 t86.1.Wet g80.1.2.2, vI t86.1.Fuse, .bool t86.1.Dead])]) _ _ (fun g93 _ => g93) rfl rfl (fun _ => z2) (fun g93 => OT.storeC (cs' := [vS g80.1.1.1 t86.1.Cells g80.1.1.2, vS g80.1.2.1 t86.1.Wet g80.1.2.2, vI t86.1.Fuse, .bool t86.1.Dead]) sz27 rfl rfl rfl rfl rfl) (fun _ _ => z7)
    refine HQ.keep [(0, _), (4, _), (5, _), (6, _), (7, _), (8, _), (9, _), (10, _), (11, _), (37, _)] z10 ?_
    refine HQ.keepR [(1, _), (2, _), (5, _), (3, _), (4, _), (17, _), (18, _), (19, _), (6, _)] z9 rfl ?_
    refine pu Pu.assign z1 z3 ?_
    refine HQ.done ?_
    refine HQ.keep [(0, _), (4, _), (5, _), (6, _), (7, _), (8, _), (9, _), (10, _), (11, _)] z9 ?_
    refine HQ.ret ?_
    refine HQ.thenR ?_
    refine HQ.blkR ?_
    refine HQ.thenR ?_
    obtain rfl := Option.some.inj H
    refine HQ.retL ?_
    exact HQ.fin (vs := [_, _]) Try.results117 ((g80.1.1.1, g80.1.1.2), (g80.1.2.1, g80.1.2.2), ((sAd a11 c12 4 0), (c12 - Int.toNat 0))) ⟨⟨_, _, 2, rfl, rfl, ag27, sz27, rfl⟩, rfl, trivial⟩ rfl [17, 18, 6, 1] z4 rfl
   ·refine HQ.condF rfl hc ?_
    clear hc
    refine HQ.skipThen ?_
    refine HQ.rseq ?_
    refine op [19] [19] (OT.loadBA (vs := [vS g80.1.1.1 t86.1.Cells g80.1.1.2, vS g80.1.2.1 t86.1.Wet g80.1.2.2, vI t86.1.Fuse, .bool t86.1.Dead]) ag27 sz27 rfl rfl) z1 z1 z4 (fun _ => rfl) fun _ => ?_
    refine HQ.opN [5] [5] [] (OT.storeC (cs' := [vS g80.1.1.1 t86.1.Cells g80.1.1.2, vS g80.1.2.1 t86.1.Wet g80.1.2.2, vI t86.1.Fuse, .bool t86.1.Dead]) sz27 rfl rfl rfl rfl rfl) z2 z1 rfl rfl rfl (fun _ => rfl) fun _ => ?_
    refine HQ.done ?_
    refine HQ.keep [(0, _), (4, _), (5, _), (6, _), (7, _), (8, _), (9, _), (11, _)] z8 ?_
    refine HQ.rseq ?_
    refine pu Pu.move z1 z3 ?_
    refine pu Pu.assign z1 z3 ?_
    refine HQ.done ?_
    refine HQ.keep [(0, _), (4, _), (5, _), (6, _), (7, _), (8, _), (9, _)] z7 ?_
    refine HQ.rseq ?_
    refine pu Pu.move z1 z3 ?_
    obtain ⟨t95, h96, H⟩ := bnd H
    refine op [1] [1] (OT.callM (us := [_, _]) (PreX := [Box β_0 [vS a_0 p0.b c_0, vI i41, vI i42]]) (PreL := []) [.tmp 40, .const (vI 3)] Try.call87 rfl rfl fun w FX FL hs1 hF1 hs2 hF2 hp => spec_l1Once_c (p0 := (⟨p0.b, i41, i42⟩ : TCur)) (p1 := 3) hs1 hF1 (hb_0.passY hp) h96) z3 z1 z4 (fun _ => rfl) fun _ => ?_
    refine HQ.done ?_
    refine HQ.keep [(0, _), (4, _), (5, _), (6, _), (7, _), (8, _), (9, _), (41, _)] z8 ?_
    rcases brk H with ⟨hc, H⟩ | ⟨hc, H⟩
    ·refine HQ.condT rfl hc ?_
     clear hc
     refine HQ.regionQ ?_
     refine op [5] [5] (OT.loadBA (vs := [vS g80.1.1.1 t86.1.Cells g80.1.1.2, vS g80.1.2.1 t86.1.Wet g80.1.2.2, vI t86.1.Fuse, .bool t86.1.Dead]) ag27 sz27 rfl rfl) z1 z1 z4 (fun _ => rfl) fun _ => ?_
     obtain ⟨t97, h98, H⟩ := bnd H
     refine op [17, 18] [20, 21, 17, 18] (OT.call (us := [_]) (Pre := [OwnS kTCell g80.1.1.1 g80.1.1.2 t86.1.Cells, OwnS kTWet g80.1.2.1 g80.1.2.2 t86.1.Wet]) [.tmp 42] Try.call21 rfl rfl fun w F hs hF hp => spec_Flush_c (hs.lend hF 0 rfl) (hs.lend hF 1 rfl) h98) z2 z2 z4 (fun _ => rfl) fun ⟨⟨a99, c100⟩, ⟨a101, c102⟩⟩ => ?_
     refine HQ.opN [5] [5] [] (OT.storeC (cs' := [vS a99 t97.Cells c100, vS a101 t97.Wet c102, vI t97.Fuse, .bool t97.Dead]) sz27 rfl rfl rfl rfl rfl) z2 z1 rfl rfl rfl (fun _ => rfl) fun _ => ?_
     refine HQ.done ?_
     refine HQ.keep [(0, _), (4, _), (5, _), (6, _), (7, _), (8, _), (9, _)] z7 ?_
     refine HQ.blkN ?_
     refine HQ.thenN ?_
     refine HQ.regionQ ?_
     refine pu Pu.move z1 z3 ?_
     refine pu Pu.add z2 z3 ?_
     refine pu Pu.assign z1 z3 ?_
     refine HQ.done ?_
     refine HQ.keep [(0, _), (4, _), (5, _), (6, _), (7, _), (8, _), (9, _)] z7 ?_
     refine HQ.mv 3 20 rfl rfl ?_
     refine HQ.mv 4 21 rfl rfl ?_
     obtain rfl := Option.some.inj H
     exact HQ.next ((a99, c100), (a101, c102)) z7 z6 rfl
    ·refine HQ.condF rfl hc ?_
     clear hc
     refine HQ.skip ?_
     refine HQ.blkN ?_
     refine HQ.thenN ?_
     refine HQ.regionQ ?_
     refine pu Pu.move z1 z3 ?_
     refine pu Pu.add z2 z3 ?_
     refine pu Pu.assign z1 z3 ?_
     refine HQ.done ?_
     refine HQ.keep [(0, _), (4, _), (5, _), (6, _), (7, _), (8, _), (9, _)] z7 ?_
     refine HQ.mv 3 17 rfl rfl ?_
     refine HQ.mv 4 18 rfl rfl ?_
     obtain rfl := Option.some.inj H
     exact HQ.next ((g80.1.1.1, g80.1.1.2), (g80.1.2.1, g80.1.2.2)) z7 z6 rfl
  ·refine HQ.condF rfl hc ?_
   clear hc
   refine HQ.exit ?_
   refine HQ.thenE ?_
   obtain rfl := Option.some.inj H
   exact HQ.out ((a44, c45), (a47, c48)) z7 z6 rfl
 ·rintro ⟨i104, i105, i106, i107, l108, l111, i114, q115⟩ rfl ⟨⟨a109, c110⟩, ⟨a112, c113⟩⟩
  clear h116
  replace H := H
  refine HQ.keep [(0, _), (4, _), (5, _), (6, _), (7, _), (8, _), (9, _)] z7 ?_
  refine HQ.keepR [(1, _), (2, _), (5, _), (6, _), (3, _), (4, _)] z6 rfl ?_
  refine HQ.blkE ?_
  refine HQ.thenN ?_
  refine HQ.rseq ?_
  refine op [5] [5] (OT.loadBA (vs := [vS a109 l108 c110, vS a112 l111 c113, vI i114, .bool q115]) ag27 sz27 rfl rfl) z1 z1 z4 (fun _ => rfl) fun _ => ?_
  refine pu Pu.move z1 z3 ?_
  refine HQ.opN [2] [2] [] (OT.storeC (cs' := [vS a109 l108 c110, vS a112 l111 c113, vI i114, .bool q115]) sz27 rfl rfl rfl rfl rfl) z2 z1 rfl rfl rfl (fun _ => rfl) fun _ => ?_
  refine pu Pu.assign z1 z3 ?_
  refine HQ.done ?_
  refine HQ.keep [(4, _), (5, _)] z2 ?_
  refine HQ.ret ?_
  obtain rfl := Option.some.inj H
  exact HQ.fin (vs := [_, _]) Try.results117 ((a109, c110), (a112, c113), (a11, c12)) ⟨⟨_, _, 2, rfl, rfl, ag27, sz27, rfl⟩, rfl, trivial⟩ rfl [3, 4, 6, 1] z4 rfl
 ·rintro r rfl a w hr
  obtain rfl := Option.some.inj H
  exact hr

theorem spec_l19Epoch_c {w : World} {p0 : TCur} {β_0 : Nat} {a_0 : Option Addr} {c_0 : Nat} {F0 : Fp} (hs0 : Sat [Box β_0 [vS a_0 p0.b c_0, vI p0.i, vI p0.h]] w.heap F0) (hF0 : ∀ b, F0 b → b < w.heap.size) (hb_0 : BorS kU8 a_0 c_0 p0.b w.heap (Lt w F0)) {r : Int × TCur} (H : spec_l19Epoch p0 = some r) :
  Calls Try.prog 95 #[BP β_0 0] w (Rt w F0 (fun _ : Unit => vI r.1) (fun _ => [Box β_0 [vS a_0 p0.b c_0, vI r.2.i, vI r.2.h]])) := by
 rw [spec_l19Epoch] at H
 refine Calls.enter (N := 6) (us := [_]) (F0 := F0) (Γ0 := [(1, Box β_0 [vS a_0 p0.b c_0, vI p0.i, vI p0.h])]) Try.func95 rfl rfl rfl hs0 hF0 ?_
 refine HQ.rseq ?_
 refine pu Pu.assign z1 z3 ?_
 refine HQ.done ?_
 refine HQ.keep [(0, _), (2, _)] z2 ?_
 refine HQ.rseq ?_
 refine pu Pu.move z1 z3 ?_
 refine op [] [2] (OT.buildF (us := [vI 1, vI 2, vI 2, vI 300, vI 0, vI 65535, vI 65536, vI (-1)]) (ys := ([1, 2, 2, 300, 0, 65535, 65536, (-1)] : (List Int))) (enc := (encI .i64)) (hl := fun _ => ⟨rfl, rfl⟩) [.const (vI 1), .const (vI 2), .const (vI 2), .const (vI 300), .const (vI 0), .const (vI 65535), .const (vI 65536), .const (vI (-1))] sl33.ul sl33.szE sl33.zc rfl rfl rfl rfl rfl) z8 trivial z4 (fun _ => rfl) fun ⟨a1, c2⟩ => ?_
 obtain ⟨t3, h4, H⟩ := bnd H
 refine op [1, 2] [1, 2] (OT.callM (us := [_, _]) (PreX := [Box β_0 [vS a_0 p0.b c_0, vI p0.i, vI p0.h]]) (PreL := [OwnS kI a1 c2 ([1, 2, 2, 300, 0, 65535, 65536, (-1)] : (List Int))]) [.tmp 3, .tmp 4] Try.call79 rfl rfl fun w FX FL hs1 hF1 hs2 hF2 hp => spec_l1Int_c (p0 := p0) (p1 := ([1, 2, 2, 300, 0, 65535, 65536, (-1)] : (List Int))) hs1 hF1 (hb_0.passY hp) (hs2.lendY hF2 0 rfl) h4) z3 z2 z4 (fun _ => rfl) fun _ => ?_
 refine pu Pu.assign z1 z3 ?_
 refine HQ.done ?_
 refine HQ.keep [(2, _)] z1 ?_
 refine HQ.ret ?_
 obtain rfl := Option.some.inj H
 exact HQ.fin (vs := [_]) Try.results95 () z1 rfl [1] z1 rfl

theorem spec_l1Odd_c {w : World} {p0 : TCur} {β_0 : Nat} {a_0 : Option Addr} {c_0 : Nat} {F0 : Fp} (hs0 : Sat [Box β_0 [vS a_0 p0.b c_0, vI p0.i, vI p0.h]] w.heap F0) (hF0 : ∀ b, F0 b → b < w.heap.size) (hb_0 : BorS kU8 a_0 c_0 p0.b w.heap (Lt w F0)) {r : Int × TCur} (H : spec_l1Odd p0 = some r) :
  Calls Try.prog 144 #[BP β_0 0] w (Rt w F0 (fun _ : Unit => vI r.1) (fun _ => [Box β_0 [vS a_0 p0.b c_0, vI r.2.i, vI r.2.h]])) := by
 rw [spec_l1Odd] at H
 refine Calls.enter (N := 6) (us := [_]) (F0 := F0) (Γ0 := [(1, Box β_0 [vS a_0 p0.b c_0, vI p0.i, vI p0.h])]) Try.func144 rfl rfl rfl hs0 hF0 ?_
 refine HQ.rseq ?_
 refine pu Pu.assign z1 z3 ?_
 refine HQ.done ?_
 refine HQ.keep [(0, _), (2, _)] z2 ?_
 refine HQ.rseq ?_
 refine pu Pu.move z1 z3 ?_
 refine op [] [2] (OT.buildF (us := [vI (-1), vI 0, vI 1, vI 2, vI 255, vI 256, vI 65535, vI 2147483647, vI 2147483648, vI 4294967295, vI 4294967296, vI (-2147483648), vI 9223372036854775807, vI (-9223372036854775808)]) (ys := ([(-1), 0, 1, 2, 255, 256, 65535, 2147483647, 2147483648, 4294967295, 4294967296, (-2147483648), 9223372036854775807, (-9223372036854775808)] : (List Int))) (enc := (encI .i64)) (hl := fun _ => ⟨rfl, rfl⟩) [.const (vI (-1)), .const (vI 0), .const (vI 1), .const (vI 2), .const (vI 255), .const (vI 256), .const (vI 65535), .const (vI 2147483647), .const (vI 2147483648), .const (vI 4294967295), .const (vI 4294967296), .const (vI (-2147483648)), .const (vI 9223372036854775807), .const (vI (-9223372036854775808))] sl33.ul sl33.szE sl33.zc rfl rfl rfl rfl rfl) z14 trivial z4 (fun _ => rfl) fun ⟨a1, c2⟩ => ?_
 obtain ⟨t3, h4, H⟩ := bnd H
 refine op [1, 2] [1, 2] (OT.callM (us := [_, _]) (PreX := [Box β_0 [vS a_0 p0.b c_0, vI p0.i, vI p0.h]]) (PreL := [OwnS kI a1 c2 ([(-1), 0, 1, 2, 255, 256, 65535, 2147483647, 2147483648, 4294967295, 4294967296, (-2147483648), 9223372036854775807, (-9223372036854775808)] : (List Int))]) [.tmp 3, .tmp 4] Try.call79 rfl rfl fun w FX FL hs1 hF1 hs2 hF2 hp => spec_l1Int_c (p0 := p0) (p1 := ([(-1), 0, 1, 2, 255, 256, 65535, 2147483647, 2147483648, 4294967295, 4294967296, (-2147483648), 9223372036854775807, (-9223372036854775808)] : (List Int))) hs1 hF1 (hb_0.passY hp) (hs2.lendY hF2 0 rfl) h4) z3 z2 z4 (fun _ => rfl) fun _ => ?_
 refine pu Pu.assign z1 z3 ?_
 refine HQ.done ?_
 refine HQ.keep [(2, _)] z1 ?_
 refine HQ.ret ?_
 obtain rfl := Option.some.inj H
 exact HQ.fin (vs := [_]) Try.results144 () z1 rfl [1] z1 rfl

theorem spec_l1Raw_c {w : World} {p0 : TCur} {β_0 : Nat} {a_0 : Option Addr} {c_0 : Nat} {F0 : Fp} (hs0 : Sat [Box β_0 [vS a_0 p0.b c_0, vI p0.i, vI p0.h]] w.heap F0) (hF0 : ∀ b, F0 b → b < w.heap.size) (hb_0 : BorS kU8 a_0 c_0 p0.b w.heap (Lt w F0)) {r : Int × TCur} (H : spec_l1Raw p0 = some r) :
  Calls Try.prog 142 #[BP β_0 0] w (Rt w F0 (fun _ : Unit => vI r.1) (fun _ => [Box β_0 [vS a_0 p0.b c_0, vI r.2.i, vI r.2.h]])) := by
 rw [spec_l1Raw] at H
 refine Calls.enter (N := 10) (us := [_]) (F0 := F0) (Γ0 := [(1, Box β_0 [vS a_0 p0.b c_0, vI p0.i, vI p0.h])]) Try.func142 rfl rfl rfl hs0 hF0 ?_
 refine HQ.rseq ?_
 refine pu Pu.assign z1 z3 ?_
 refine HQ.done ?_
 refine HQ.keep [(0, _), (2, _)] z2 ?_
 refine HQ.seq ?_
 refine HQ.rseq ?_
 refine pu Pu.move z1 z3 ?_
 obtain ⟨t1, h2, H⟩ := bnd H
 refine op [1] [1] (OT.callM (us := [_, _]) (PreX := [Box β_0 [vS a_0 p0.b c_0, vI p0.i, vI p0.h]]) (PreL := []) [.tmp 3, .const (vI 2)] Try.call87 rfl rfl fun w FX FL hs1 hF1 hs2 hF2 hp => spec_l1Once_c (p0 := p0) (p1 := 2) hs1 hF1 (hb_0.passY hp) h2) z3 z1 z4 (fun _ => rfl) fun _ => ?_
 refine HQ.done ?_
 refine HQ.keep [(0, _), (2, _), (4, _)] z3 ?_
 rcases brk H with ⟨hc, H⟩ | ⟨hc, H⟩
 ·refine HQ.condT rfl hc ?_
  clear hc
  refine HQ.rseq ?_
  refine pu Pu.move z1 z3 ?_
  obtain ⟨t3, h4, H⟩ := bnd H
  refine op [1] [1] (OT.callM (us := [_]) (PreX := [Box β_0 [vS a_0 p0.b c_0, vI t1.2.i, vI t1.2.h]]) (PreL := []) [.tmp 5] Try.call144 rfl rfl fun w FX FL hs1 hF1 hs2 hF2 hp => spec_l1Odd_c (p0 := (⟨p0.b, t1.2.i, t1.2.h⟩ : TCur)) hs1 hF1 (hb_0.passY hp) h4) z2 z1 z4 (fun _ => rfl) fun _ => ?_
  refine pu Pu.assign z1 z3 ?_
  refine HQ.done ?_
  refine HQ.keep [(0, _), (2, _)] z2 ?_
  refine HQ.ret ?_
  refine HQ.thenR ?_
  obtain rfl := Option.some.inj H
  exact HQ.fin (vs := [_]) Try.results142 () z1 rfl [1] z1 rfl
 ·refine HQ.condF rfl hc ?_
  clear hc
  refine HQ.skipThen ?_
  refine HQ.rseq ?_
  refine pu Pu.move z1 z3 ?_
  refine op [] [2] (OT.buildF (us := [vI (-1), vI 0, vI 1, vI 4, vI 255, vI 256, vI 65535, vI 65536]) (ys := ([(-1), 0, 1, 4, 255, 256, 65535, 65536] : (List Int))) (enc := (encI .i64)) (hl := fun _ => ⟨rfl, rfl⟩) [.const (vI (-1)), .const (vI 0), .const (vI 1), .const (vI 4), .const (vI 255), .const (vI 256), .const (vI 65535), .const (vI 65536)] sl33.ul sl33.szE sl33.zc rfl rfl rfl rfl rfl) z8 trivial z4 (fun _ => rfl) fun ⟨a5, c6⟩ => ?_
  obtain ⟨t7, h8, H⟩ := bnd H
  refine op [1, 2] [1, 2] (OT.callM (us := [_, _]) (PreX := [Box β_0 [vS a_0 p0.b c_0, vI t1.2.i, vI t1.2.h]]) (PreL := [OwnS kI a5 c6 ([(-1), 0, 1, 4, 255, 256, 65535, 65536] : (List Int))]) [.tmp 7, .tmp 8] Try.call79 rfl rfl fun w FX FL hs1 hF1 hs2 hF2 hp => spec_l1Int_c (p0 := (⟨p0.b, t1.2.i, t1.2.h⟩ : TCur)) (p1 := ([(-1), 0, 1, 4, 255, 256, 65535, 65536] : (List Int))) hs1 hF1 (hb_0.passY hp) (hs2.lendY hF2 0 rfl) h8) z3 z2 z4 (fun _ => rfl) fun _ => ?_
  refine pu Pu.assign z1 z3 ?_
  refine HQ.done ?_
  refine HQ.keep [(2, _)] z1 ?_
  refine HQ.ret ?_
  obtain rfl := Option.some.inj H
  exact HQ.fin (vs := [_]) Try.results142 () z1 rfl [1] z1 rfl

theorem spec_l2Any_c {w : World} {p0 : TCur} {β_0 : Nat} {a_0 : Option Addr} {c_0 : Nat} {F0 : Fp} (hs0 : Sat [Box β_0 [vS a_0 p0.b c_0, vI p0.i, vI p0.h]] w.heap F0) (hF0 : ∀ b, F0 b → b < w.heap.size) (hb_0 : BorS kU8 a_0 c_0 p0.b w.heap (Lt w F0)) {r : TBox × TCur} (H : spec_l2Any p0 = some r) :
  Calls Try.prog 138 #[BP β_0 0] w (Rt w F0 (fun _ : Unit => .agg #[vI r.1.X0, vI r.1.Y0, vI r.1.X1, vI r.1.Y1]) (fun _ => [Box β_0 [vS a_0 p0.b c_0, vI r.2.i, vI r.2.h]])) := by
 rw [spec_l2Any] at H
 refine Calls.enter (N := 29) (us := [_]) (F0 := F0) (Γ0 := [(1, Box β_0 [vS a_0 p0.b c_0, vI p0.i, vI p0.h])]) Try.func138 rfl rfl rfl hs0 hF0 ?_
 refine HQ.rseq ?_
 refine op [] [2] (OT.alloc zc132) trivial trivial z4 (fun _ => rfl) fun b1 => ?_
 refine HQ.done ?_
 refine HQ.keep [(0, _), (2, _)] z2 ?_
 refine HQ.rseq ?_
 refine pu Pu.move z1 z3 ?_
 obtain ⟨t2, h3, H⟩ := bnd H
 refine op [1] [1] (OT.callM (us := [_]) (PreX := [Box β_0 [vS a_0 p0.b c_0, vI p0.i, vI p0.h]]) (PreL := []) [.tmp 4] Try.call139 rfl rfl fun w FX FL hs1 hF1 hs2 hF2 hp => spec_l2Draw_c (p0 := p0) hs1 hF1 (hb_0.passY hp) h3) z2 z1 z4 (fun _ => rfl) fun _ => ?_
 refine op [] [3] (OT.alloc zc132) trivial trivial z4 (fun _ => rfl) fun b4 => ?_
 refine HQ.opN [3] [3] [] (OT.storeC (cs' := [vI t2.1.X0, vI t2.1.Y0, vI t2.1.X1, vI t2.1.Y1]) sz132 rfl rfl rfl rfl rfl) z2 z1 rfl rfl rfl (fun _ => rfl) fun _ => ?_
 refine HQ.done ?_
 refine HQ.keep [(0, _), (2, _), (3, _)] z3 ?_
 refine HQ.seq ?_
 refine HQ.rseq ?_
 refine pu Pu.move z1 z3 ?_
 obtain ⟨t5, h6, H⟩ := bnd H
 refine op [1] [1] (OT.callM (us := [_, _]) (PreX := [Box β_0 [vS a_0 p0.b c_0, vI t2.2.i, vI t2.2.h]]) (PreL := []) [.tmp 6, .const (vI 12)] Try.call86 rfl rfl fun w FX FL hs1 hF1 hs2 hF2 hp => spec_l1Below_c (p0 := (⟨p0.b, t2.2.i, t2.2.h⟩ : TCur)) (p1 := 12) hs1 hF1 (hb_0.passY hp) h6) z3 z1 z4 (fun _ => rfl) fun _ => ?_
 refine HQ.done ?_
 refine HQ.keep [(0, _), (2, _), (3, _), (7, _)] z4 ?_
 refine HQ.block ?_
 refine HQ.rseq ?_
 refine pu Pu.eql z2 z3 ?_
 refine pu Pu.assign z1 z3 ?_
 refine HQ.done ?_
 refine HQ.keep [(0, _), (2, _), (3, _), (7, _), (8, _)] z5 ?_
 rcases brk H with ⟨hc, H⟩ | ⟨hc, H⟩
 ·refine HQ.condT rfl hc ?_
  clear hc
  refine HQ.regionQ ?_
  refine pu Pu.move z1 z3 ?_
  obtain ⟨t7, h8, H⟩ := bnd H
  refine op [1] [1] (OT.callM (us := [_]) (PreX := [Box β_0 [vS a_0 p0.b c_0, vI t5.2.i, vI t5.2.h]]) (PreL := []) [.tmp 10] Try.call142 rfl rfl fun w FX FL hs1 hF1 hs2 hF2 hp => spec_l1Raw_c (p0 := (⟨p0.b, t5.2.i, t5.2.h⟩ : TCur)) hs1 hF1 (hb_0.passY hp) h8) z2 z1 z4 (fun _ => rfl) fun _ => ?_
  refine pu (Pu.fieldB fo132_0 rfl) z1 z3 ?_
  refine HQ.opN [3] [3] [] (OT.storeC (cs' := [vI t7.1, vI t2.1.Y0, vI t2.1.X1, vI t2.1.Y1]) sz3 rfl rfl rfl rfl rfl) z2 z1 rfl rfl rfl (fun _ => rfl) fun _ => ?_
  refine HQ.done ?_
  refine HQ.keep [(2, _), (3, _)] z2 ?_
  refine HQ.blkN ?_
  refine HQ.thenN ?_
  refine HQ.rseq ?_
  refine op [3] [3] (OT.loadBA (vs := [vI t7.1, vI t2.1.Y0, vI t2.1.X1, vI t2.1.Y1]) ag132 sz132 rfl rfl) z1 z1 z4 (fun _ => rfl) fun _ => ?_
  refine HQ.opN [2] [2] [] (OT.storeC (cs' := [vI t7.1, vI t2.1.Y0, vI t2.1.X1, vI t2.1.Y1]) sz132 rfl rfl rfl rfl rfl) z2 z1 rfl rfl rfl (fun _ => rfl) fun _ => ?_
  refine HQ.done ?_
  refine HQ.keep [(2, _)] z1 ?_
  refine HQ.ret ?_
  obtain rfl := Option.some.inj H
  exact HQ.fin (vs := [_]) Try.results138 () ⟨⟨_, _, 2, rfl, rfl, ag132, sz132, rfl⟩, trivial⟩ rfl [1] z1 rfl
 ·refine HQ.condF rfl hc ?_
  clear hc
  refine HQ.rseq ?_
  refine pu Pu.eql z2 z3 ?_
  refine pu Pu.assign z1 z3 ?_
  refine HQ.done ?_
  refine HQ.keep [(0, _), (2, _), (3, _), (7, _), (13, _)] z5 ?_
  rcases brk H with ⟨hc, H⟩ | ⟨hc, H⟩
  ·refine HQ.condT rfl hc ?_
   clear hc
   refine HQ.regionQ ?_
   refine pu Pu.move z1 z3 ?_
   obtain ⟨t9, h10, H⟩ := bnd H
   refine op [1] [1] (OT.callM (us := [_]) (PreX := [Box β_0 [vS a_0 p0.b c_0, vI t5.2.i, vI t5.2.h]]) (PreL := []) [.tmp 15] Try.call142 rfl rfl fun w FX FL hs1 hF1 hs2 hF2 hp => spec_l1Raw_c (p0 := (⟨p0.b, t5.2.i, t5.2.h⟩ : TCur)) hs1 hF1 (hb_0.passY hp) h10) z2 z1 z4 (fun _ => rfl) fun _ => ?_
   refine pu (Pu.fieldB fo132_3 rfl) z1 z3 ?_
   refine HQ.opN [3] [3] [] (OT.storeC (cs' := [vI t2.1.X0, vI t2.1.Y0, vI t2.1.X1, vI t9.1]) sz3 rfl rfl rfl rfl rfl) z2 z1 rfl rfl rfl (fun _ => rfl) fun _ => ?_
   refine HQ.done ?_
   refine HQ.keep [(2, _), (3, _)] z2 ?_
   refine HQ.blkN ?_
   refine HQ.thenN ?_
   refine HQ.rseq ?_
   refine op [3] [3] (OT.loadBA (vs := [vI t2.1.X0, vI t2.1.Y0, vI t2.1.X1, vI t9.1]) ag132 sz132 rfl rfl) z1 z1 z4 (fun _ => rfl) fun _ => ?_
   refine HQ.opN [2] [2] [] (OT.storeC (cs' := [vI t2.1.X0, vI t2.1.Y0, vI t2.1.X1, vI t9.1]) sz132 rfl rfl rfl rfl rfl) z2 z1 rfl rfl rfl (fun _ => rfl) fun _ => ?_
   refine HQ.done ?_
   refine HQ.keep [(2, _)] z1 ?_
   refine HQ.ret ?_
   obtain rfl := Option.some.inj H
   exact HQ.fin (vs := [_]) Try.results138 () ⟨⟨_, _, 2, rfl, rfl, ag132, sz132, rfl⟩, trivial⟩ rfl [1] z1 rfl
  ·refine HQ.condF rfl hc ?_
   clear hc
   refine HQ.rseq ?_
   refine pu Pu.eql z2 z3 ?_
   refine pu Pu.assign z1 z3 ?_
   refine HQ.done ?_
   refine HQ.keep [(2, _), (3, _), (7, _), (18, _)] z4 ?_
   rcases brk H with ⟨hc, H⟩ | ⟨hc, H⟩
   ·refine HQ.condT rfl hc ?_
    clear hc
    refine HQ.regionQ ?_
    refine pu (Pu.fieldB fo132_0 rfl) z1 z3 ?_
    refine op [3] [3] (OT.loadB sc3 rfl) z1 z1 z4 (fun _ => rfl) fun _ => ?_
    refine pu Pu.sub z2 z3 ?_
    refine pu (Pu.fieldB fo132_2 rfl) z1 z3 ?_
    refine HQ.opN [3] [3] [] (OT.storeC (cs' := [vI t2.1.X0, vI t2.1.Y0, vI (wrap64 (t2.1.X0 - 1)), vI t2.1.Y1]) sz3 rfl rfl rfl rfl rfl) z2 z1 rfl rfl rfl (fun _ => rfl) fun _ => ?_
    refine HQ.done ?_
    refine HQ.keep [(2, _), (3, _)] z2 ?_
    refine HQ.blkN ?_
    refine HQ.thenN ?_
    refine HQ.rseq ?_
    refine op [3] [3] (OT.loadBA (vs := [vI t2.1.X0, vI t2.1.Y0, vI (wrap64 (t2.1.X0 - 1)), vI t2.1.Y1]) ag132 sz132 rfl rfl) z1 z1 z4 (fun _ => rfl) fun _ => ?_
    refine HQ.opN [2] [2] [] (OT.storeC (cs' := [vI t2.1.X0, vI t2.1.Y0, vI (wrap64 (t2.1.X0 - 1)), vI t2.1.Y1]) sz132 rfl rfl rfl rfl rfl) z2 z1 rfl rfl rfl (fun _ => rfl) fun _ => ?_
    refine HQ.done ?_
    refine HQ.keep [(2, _)] z1 ?_
    refine HQ.ret ?_
    obtain rfl := Option.some.inj H
    exact HQ.fin (vs := [_]) Try.results138 () ⟨⟨_, _, 2, rfl, rfl, ag132, sz132, rfl⟩, trivial⟩ rfl [1] z1 rfl
   ·refine HQ.condF rfl hc ?_
    clear hc
    refine HQ.rseq ?_
    refine pu Pu.eql z2 z3 ?_
    refine pu Pu.assign z1 z3 ?_
    refine HQ.done ?_
    refine HQ.keep [(2, _), (3, _), (24, _)] z3 ?_
    rcases brk H with ⟨hc, H⟩ | ⟨hc, H⟩
    ·refine HQ.condT rfl hc ?_
     clear hc
     refine HQ.rseq ?_
     refine pu (Pu.fieldB fo132_1 rfl) z1 z3 ?_
     refine HQ.opN [3] [3] [] (OT.storeC (cs' := [vI t2.1.X0, vI 0, vI t2.1.X1, vI t2.1.Y1]) sz3 rfl rfl rfl rfl rfl) z2 z1 rfl rfl rfl (fun _ => rfl) fun _ => ?_
     refine HQ.done ?_
     refine HQ.keep [(2, _), (3, _)] z2 ?_
     refine HQ.regionQ ?_
     refine pu (Pu.fieldB fo132_3 rfl) z1 z3 ?_
     refine HQ.opN [3] [3] [] (OT.storeC (cs' := [vI t2.1.X0, vI 0, vI t2.1.X1, vI 255]) sz3 rfl rfl rfl rfl rfl) z2 z1 rfl rfl rfl (fun _ => rfl) fun _ => ?_
     refine HQ.done ?_
     refine HQ.keep [(2, _), (3, _)] z2 ?_
     refine HQ.blkN ?_
     refine HQ.thenN ?_
     refine HQ.rseq ?_
     refine op [3] [3] (OT.loadBA (vs := [vI t2.1.X0, vI 0, vI t2.1.X1, vI 255]) ag132 sz132 rfl rfl) z1 z1 z4 (fun _ => rfl) fun _ => ?_
     refine HQ.opN [2] [2] [] (OT.storeC (cs' := [vI t2.1.X0, vI 0, vI t2.1.X1, vI 255]) sz132 rfl rfl rfl rfl rfl) z2 z1 rfl rfl rfl (fun _ => rfl) fun _ => ?_
     refine HQ.done ?_
     refine HQ.keep [(2, _)] z1 ?_
     refine HQ.ret ?_
     obtain rfl := Option.some.inj H
     exact HQ.fin (vs := [_]) Try.results138 () ⟨⟨_, _, 2, rfl, rfl, ag132, sz132, rfl⟩, trivial⟩ rfl [1] z1 rfl
    ·refine HQ.condF rfl hc ?_
     clear hc
     refine HQ.skip ?_
     refine HQ.blkN ?_
     refine HQ.thenN ?_
     refine HQ.rseq ?_
     refine op [3] [3] (OT.loadBA (vs := [vI t2.1.X0, vI t2.1.Y0, vI t2.1.X1, vI t2.1.Y1]) ag132 sz132 rfl rfl) z1 z1 z4 (fun _ => rfl) fun _ => ?_
     refine HQ.opN [2] [2] [] (OT.storeC (cs' := [vI t2.1.X0, vI t2.1.Y0, vI t2.1.X1, vI t2.1.Y1]) sz132 rfl rfl rfl rfl rfl) z2 z1 rfl rfl rfl (fun _ => rfl) fun _ => ?_
     refine HQ.done ?_
     refine HQ.keep [(2, _)] z1 ?_
     refine HQ.ret ?_
     obtain rfl := Option.some.inj H
     exact HQ.fin (vs := [_]) Try.results138 () ⟨⟨_, _, 2, rfl, rfl, ag132, sz132, rfl⟩, trivial⟩ rfl [1] z1 rfl

theorem spec_l5Any_c {w : World} {k : Nat} {p0 : TCur} {β_0 : Nat} {a_0 : Option Addr} {c_0 : Nat} {F0 : Fp} (hs0 : Sat [Box β_0 [vS a_0 p0.b c_0, vI p0.i, vI p0.h]] w.heap F0) (hF0 : ∀ b, F0 b → b < w.heap.size) (hb_0 : BorS kU8 a_0 c_0 p0.b w.heap (Lt w F0)) {r : TNode × TCur} (H : spec_l5Any k p0 = some r) :
  Calls Try.prog 125 #[BP β_0 0] w (Rt w F0 (fun g : Option Addr × Nat => .agg #[.bool r.1.Leaf, vS g.1 r.1.L g.2]) (fun g => [OwnS kTEntry g.1 g.2 r.1.L, Box β_0 [vS a_0 p0.b c_0, vI r.2.i, vI r.2.h]])) := by
 rw [spec_l5Any] at H
 refine Calls.enter (N := 57) (us := [_]) (F0 := F0) (Γ0 := [(1, Box β_0 [vS a_0 p0.b c_0, vI p0.i, vI p0.h])]) Try.func125 rfl rfl rfl hs0 hF0 ?_
 refine HQ.rseq ?_
 refine op [] [2] (OT.alloc zc47) trivial trivial z4 (fun _ => rfl) fun b1 => ?_
 refine HQ.done ?_
 refine HQ.keep [(0, _), (2, _)] z2 ?_
 refine HQ.rseq ?_
 refine pu Pu.move z1 z3 ?_
 obtain ⟨t2, h3, H⟩ := bnd H
 refine op [1] [3, 1] (OT.callM (us := [_]) (PreX := [Box β_0 [vS a_0 p0.b c_0, vI p0.i, vI p0.h]]) (PreL := []) [.tmp 5] Try.call124 rfl rfl fun w FX FL hs1 hF1 hs2 hF2 hp => spec_l5Draw_c (p0 := p0) hs1 hF1 (hb_0.passY hp) h3) z2 z1 z4 (fun _ => rfl) fun ⟨a4, c5⟩ => ?_
 refine op [] [4] (OT.alloc zc47) trivial trivial z4 (fun _ => rfl) fun b6 => ?_
 refine HQ.opN [4] [4] [] (OT.storeC (cs' := [.bool t2.1.Leaf, vS a4 t2.1.L c5]) sz47 rfl rfl rfl rfl rfl) z2 z1 rfl rfl rfl (fun _ => rfl) fun _ => ?_
 refine HQ.done ?_
 refine HQ.keep [(0, _), (2, _), (3, _)] z3 ?_
 refine HQ.seq ?_
 refine HQ.rseq ?_
 refine pu Pu.move z1 z3 ?_
 obtain ⟨t7, h8, H⟩ := bnd H
 refine op [1] [1] (OT.callM (us := [_, _]) (PreX := [Box β_0 [vS a_0 p0.b c_0, vI t2.2.i, vI t2.2.h]]) (PreL := []) [.tmp 7, .const (vI 12)] Try.call86 rfl rfl fun w FX FL hs1 hF1 hs2 hF2 hp => spec_l1Below_c (p0 := (⟨p0.b, t2.2.i, t2.2.h⟩ : TCur)) (p1 := 12) hs1 hF1 (hb_0.passY hp) h8) z3 z1 z4 (fun _ => rfl) fun _ => ?_
 refine HQ.done ?_
 refine HQ.keep [(0, _), (2, _), (3, _), (8, _)] z4 ?_
 refine HQ.block ?_
 refine HQ.rseq ?_
 refine pu Pu.eql z2 z3 ?_
 refine pu Pu.assign z1 z3 ?_
 refine HQ.done ?_
 refine HQ.keep [(0, _), (2, _), (3, _), (8, _), (9, _)] z5 ?_
 rcases brk H with ⟨hc, H⟩ | ⟨hc, H⟩
 ·refine HQ.condT rfl hc ?_
  clear hc
  refine HQ.regionQ ?_
  refine pu (Pu.fieldB fo47_0 rfl) z1 z3 ?_
  refine op [4] [4] (OT.loadB sc4 rfl) z1 z1 z4 (fun _ => rfl) fun _ => ?_
  refine pu Pu.not z1 z3 ?_
  refine pu (Pu.fieldB fo47_0 rfl) z1 z3 ?_
  refine HQ.opN [4] [4] [] (OT.storeC (cs' := [.bool (!t2.1.Leaf), vS a4 t2.1.L c5]) sz4 rfl rfl rfl rfl rfl) z2 z1 rfl rfl rfl (fun _ => rfl) fun _ => ?_
  refine HQ.done ?_
  refine HQ.keep [(2, _), (3, _)] z2 ?_
  refine HQ.blkN ?_
  refine HQ.thenN ?_
  refine HQ.rseq ?_
  refine op [4] [4] (OT.loadBA (vs := [.bool (!t2.1.Leaf), vS a4 t2.1.L c5]) ag47 sz47 rfl rfl) z1 z1 z4 (fun _ => rfl) fun _ => ?_
  refine HQ.opN [2] [2] [] (OT.storeC (cs' := [.bool (!t2.1.Leaf), vS a4 t2.1.L c5]) sz47 rfl rfl rfl rfl rfl) z2 z1 rfl rfl rfl (fun _ => rfl) fun _ => ?_
  refine HQ.done ?_
  refine HQ.keep [(2, _)] z1 ?_
  refine HQ.ret ?_
  obtain rfl := Option.some.inj H
  exact HQ.fin (vs := [_]) Try.results125 (a4, c5) ⟨⟨_, _, 2, rfl, rfl, ag47, sz47, rfl⟩, trivial⟩ rfl [3, 1] z2 rfl
 ·refine HQ.condF rfl hc ?_
  clear hc
  refine HQ.rseq ?_
  refine pu Pu.eql z2 z3 ?_
  refine pu Pu.assign z1 z3 ?_
  refine HQ.done ?_
  refine HQ.keep [(0, _), (2, _), (3, _), (8, _), (15, _)] z5 ?_
  rcases brk H with ⟨hc, H⟩ | ⟨hc, H⟩
  ·refine HQ.condT rfl hc ?_
   clear hc
   obtain ⟨t12, h13, H⟩ := bnd H
   obtain ⟨t14, h15, H⟩ := bnd H
   refine HQ.draw mixd [(0, BP β_0 0), (2, BP b1 0), (3, BP b6 0)] 9 [⟨[], [], []⟩, ⟨[0], [0], [0]⟩, ⟨[], [], []⟩, ⟨[], [1], []⟩, ⟨[2, 1], [3, 1], [2, 3]⟩, ⟨[], [], []⟩, ⟨[3], [4], [5]⟩, ⟨[], [], [4, 6]⟩, ⟨[], [5], [7]⟩] [⟨none, none⟩, ⟨some 3, none⟩, ⟨none, some 4⟩, ⟨some 4, some 6⟩, ⟨some 6, none⟩, ⟨some 8, none⟩] (fun (g9 : (Option Addr × Nat) × (Option Addr × Nat)) => [BP b6 1, vS a4 t2.1.L c5, BP β_0 0, vS g9.1.1 ([0, 47, 48, 999, 1000, (-1)] : (List Int)) g9.1.2, vI t12.1, BP β_0 0, .agg #[vI t14.1.X0, vI t14.1.Y0, vI t14.1.X1, vI t14.1.Y1], .agg #[vI t12.1, vI t14.1.X0, vI t14.1.Y0, vI t14.1.X1, vI t14.1.Y1], vS g9.2.1 ([(⟨t12.1, t14.1⟩ : TEntry)] : (List TEntry)) g9.2.2]) (fun (g9 : (Option Addr × Nat) × (Option Addr × Nat)) => [Box b6 [.bool t2.1.Leaf, vS a4 t2.1.L c5], OwnS kI g9.1.1 g9.1.2 ([0, 47, 48, 999, 1000, (-1)] : (List Int)), Box β_0 [vS a_0 p0.b c_0, vI t7.2.i, vI t7.2.h], Box β_0 [vS a_0 p0.b c_0, vI t12.2.i, vI t12.2.h], Box β_0 [vS a_0 p0.b c_0, vI t14.2.i, vI t14.2.h], OwnS kTEntry g9.2.1 g9.2.2 ([(⟨t12.1, t14.1⟩ : TEntry)] : (List TEntry))]) ((none, 0), (none, 0)) [4, 1] [4, 5, 1, 6] [] z3 z2 rfl (by kernel_rfl) (fun _ => rfl) (by kernel_rfl) (fun _ => rfl) ⟨?_, ?_, ?_, ?_, ?_, ?_, ?_, ?_, ?_, trivial⟩ fun g9 => ?_
   ·exact OpOK.pu (fun g9 => [(.tmp 3, BP b6 0)]) z2 (fun _ => z1) (fun _ => (Pu.fieldB fo47_1 rfl)) (fun _ => z1) (fun _ _ => z8)
   ·exact OpOK.of (fun g9 => [(.tmp 17, BP b6 1)]) _ _ (fun g9 _ => g9) rfl rfl (fun _ => z1) (fun g9 => OT.loadB sc45 rfl) (fun _ _ => z8)
   ·exact OpOK.pu (fun g9 => [(.tmp 0, BP β_0 0)]) z2 (fun _ => z1) (fun _ => Pu.move) (fun _ => z1) (fun _ _ => z8)
   ·exact OpOK.of (fun g9 => [(.const (vI 0), vI 0), (.const (vI 47), vI 47), (.const (vI 48), vI 48), (.const (vI 999), vI 999), (.const (vI 1000), vI 1000), (.const (vI (-1)), vI (-1))]) _ _ (fun g9 x => (x, g9.2)) rfl rfl (fun _ => z6) (fun g9 => OT.buildF (us := [vI 0, vI 47, vI 48, vI 999, vI 1000, vI (-1)]) (ys := ([0, 47, 48, 999, 1000, (-1)] : (List Int))) (enc := (encI .i64)) (hl := fun _ => ⟨rfl, rfl⟩) [.const (vI 0), .const (vI 47), .const (vI 48), .const (vI 999), .const (vI 1000), .const (vI (-1))] sl33.ul sl33.szE sl33.zc rfl rfl rfl rfl rfl) (fun _ _ => z8)
   ·exact OpOK.of (fun g9 => [(.func 79, .func (.func 79) #[] #[]), (.tmp 19, BP β_0 0), (.tmp 20, vS g9.1.1 ([0, 47, 48, 999, 1000, (-1)] : (List Int)) g9.1.2)]) _ _ (fun g9 _ => g9) rfl rfl (fun _ => z3) (fun g9 => OT.callM (us := [_, _]) (PreX := [Box β_0 [vS a_0 p0.b c_0, vI t7.2.i, vI t7.2.h]]) (PreL := [OwnS kI g9.1.1 g9.1.2 ([0, 47, 48, 999, 1000, (-1)] : (List Int))]) [.tmp 19, .tmp 20] Try.call79 rfl rfl fun w FX FL hs1 hF1 hs2 hF2 hp => spec_l1Int_c (p0 := (⟨p0.b, t7.2.i, t7.2.h⟩ : TCur)) (p1 := ([0, 47, 48, 999, 1000, (-1)] : (List Int))) hs1 hF1 (hb_0.passY hp) (hs2.lendY hF2 0 rfl) h13) (fun _ _ => z8)
   ·exact OpOK.pu (fun g9 => [(.tmp 0, BP β_0 0)]) z2 (fun _ => z1) (fun _ => Pu.move) (fun _ => z1) (fun _ _ => z8)
   ·exact OpOK.of (fun g9 => [(.func 138, .func (.func 138) #[] #[]), (.tmp 22, BP β_0 0)]) _ _ (fun g9 _ => g9) rfl rfl (fun _ => z2) (fun g9 => OT.callM (us := [_]) (PreX := [Box β_0 [vS a_0 p0.b c_0, vI t12.2.i, vI t12.2.h]]) (PreL := []) [.tmp 22] Try.call138 rfl rfl fun w FX FL hs1 hF1 hs2 hF2 hp => spec_l2Any_c (p0 := (⟨p0.b, t12.2.i, t12.2.h⟩ : TCur)) hs1 hF1 (hb_0.passY hp) h15) (fun _ _ => z8)
   ·exact OpOK.pu (fun g9 => [(.tmp 21, vI t12.1), (.tmp 23, .agg #[vI t14.1.X0, vI t14.1.Y0, vI t14.1.X1, vI t14.1.Y1])]) z2 (fun _ => z2) (fun _ => (Pu.build (us := [vI t12.1, .agg #[vI t14.1.X0, vI t14.1.Y0, vI t14.1.X1, vI t14.1.Y1]]) (cs := [vI t12.1, vI t14.1.X0, vI t14.1.Y0, vI t14.1.X1, vI t14.1.Y1]) [(0, .tmp 21), (1, .tmp 23)] st134 rfl rfl rfl)) (fun _ => z1) (fun _ _ => z8)
   ·exact OpOK.of (fun g9 => [(.tmp 24, .agg #[vI t12.1, vI t14.1.X0, vI t14.1.Y0, vI t14.1.X1, vI t14.1.Y1])]) _ _ (fun g9 x => (g9.1, x)) rfl rfl (fun _ => z1) (fun g9 => OT.buildF (us := [.agg #[vI t12.1, vI t14.1.X0, vI t14.1.Y0, vI t14.1.X1, vI t14.1.Y1]]) (ys := ([(⟨t12.1, t14.1⟩ : TEntry)] : (List TEntry))) (enc := encTEntry) (hl := fun _ => ⟨rfl, rfl⟩) [.tmp 24] sl45.ul sl45.szE sl45.zc rfl rfl rfl rfl rfl) (fun _ _ => z8)
   refine HQ.keep [(2, _), (3, _), (18, _), (25, _)] z4 ?_
   refine HQ.keepR [(1, _), (2, _), (3, _), (4, _), (5, _), (6, _)] z6 rfl ?_
   obtain ⟨h20, H⟩ := asr H
   refine op [3, 6] [3, 6] (OT.appendG (enc := encTEntry) (hl := fun _ => ⟨rfl, rfl⟩) sl45 ul45 h20) z2 z2 z4 (fun _ => rfl) fun ⟨a18, c19⟩ => ?_
   refine pu (Pu.fieldB fo47_1 rfl) z1 z3 ?_
   refine HQ.opN [4] [4] [] (OT.storeC (cs' := [.bool t2.1.Leaf, vS a18 (t2.1.L ++ ([(⟨t12.1, t14.1⟩ : TEntry)] : (List TEntry))) c19]) sz45 rfl rfl rfl rfl rfl) z2 z1 rfl rfl rfl (fun _ => rfl) fun _ => ?_
   refine HQ.done ?_
   refine HQ.keep [(2, _), (3, _)] z2 ?_
   refine HQ.blkN ?_
   refine HQ.thenN ?_
   refine HQ.rseq ?_
   refine op [4] [4] (OT.loadBA (vs := [.bool t2.1.Leaf, vS a18 (t2.1.L ++ ([(⟨t12.1, t14.1⟩ : TEntry)] : (List TEntry))) c19]) ag47 sz47 rfl rfl) z1 z1 z4 (fun _ => rfl) fun _ => ?_
   refine HQ.opN [2] [2] [] (OT.storeC (cs' := [.bool t2.1.Leaf, vS a18 (t2.1.L ++ ([(⟨t12.1, t14.1⟩ : TEntry)] : (List TEntry))) c19]) sz47 rfl rfl rfl rfl rfl) z2 z1 rfl rfl rfl (fun _ => rfl) fun _ => ?_
   refine HQ.done ?_
   refine HQ.keep [(2, _)] z1 ?_
   refine HQ.ret ?_
   obtain rfl := Option.some.inj H
   exact HQ.fin (vs := [_]) Try.results125 (a18, c19) ⟨⟨_, _, 2, rfl, rfl, ag47, sz47, rfl⟩, trivial⟩ rfl [3, 1] z2 rfl
  ·refine HQ.condF rfl hc ?_
   clear hc
   refine HQ.rseq ?_
   refine pu Pu.eql z2 z3 ?_
   refine pu Pu.assign z1 z3 ?_
   refine HQ.done ?_
   refine HQ.keep [(0, _), (2, _), (3, _), (8, _), (28, _)] z5 ?_
   rcases brk H with ⟨hc, H⟩ | ⟨hc, H⟩
   ·refine HQ.condT rfl hc ?_
    clear hc
    refine HQ.rseq ?_
    refine pu Pu.assign z1 z3 ?_
    refine HQ.done ?_
    refine HQ.keep [(0, _), (2, _), (3, _), (4, _)] z4 ?_
    refine HQ.block ?_
    obtain ⟨o51, h58, H⟩ := bnd H
    refine HQ.loop h58 1 (fun (s : Int × Int × Int × (List TEntry)) (g : Option Addr × Nat) => match s, g with | (i29, i30, i31, l32), (a33, c34) => [(0, BP β_0 0), (2, BP b1 0), (3, BP b6 0), (4, vI i29)]) (fun (s : Int × Int × Int × (List TEntry)) (g : Option Addr × Nat) => match s, g with | (i29, i30, i31, l32), (a33, c34) => [(1, Box β_0 [vS a_0 p0.b c_0, vI i30, vI i31]), (2, Box b1 [.bool false, .slice none 0 0]), (4, Box b6 [.bool t2.1.Leaf, vS a33 l32 c34]), (3, OwnS kTEntry a33 c34 l32)]) (fun _ _ _ => False) (a4, c5) z4 z4 rfl ?_ ?_ ?_
    ·clear H h58
     rintro ⟨i29, i30, i31, l32⟩ ⟨a33, c34⟩ o H
     rw [spec_l5Any_b0] at H
     refine HQ.keep [(0, _), (2, _), (3, _), (4, _)] z4 ?_
     refine HQ.keepR [(1, _), (2, _), (4, _), (3, _)] z4 rfl ?_
     refine HQ.seq ?_
     refine HQ.rseq ?_
     refine pu Pu.move z1 z3 ?_
     refine pu Pu.lss z2 z3 ?_
     refine HQ.done ?_
     refine HQ.keep [(0, _), (2, _), (3, _), (4, _), (31, _)] z5 ?_
     rcases brk H with ⟨hc, H⟩ | ⟨hc, H⟩
     ·refine HQ.condT rfl hc ?_
      clear hc
      refine HQ.skipThen ?_
      refine HQ.seq ?_
      refine HQ.block ?_
      obtain ⟨t44, h45, H⟩ := bnd H
      refine HQ.draw mixd [(0, BP β_0 0), (2, BP b1 0), (3, BP b6 0), (4, vI i29)] 8 [⟨[], [], []⟩, ⟨[0], [0], [0]⟩, ⟨[], [], []⟩, ⟨[], [], [2]⟩, ⟨[], [], []⟩, ⟨[1], [2], [4]⟩, ⟨[], [], [3, 5]⟩, ⟨[], [3], [6]⟩] [⟨none, none⟩, ⟨none, some 5⟩, ⟨some 5, none⟩, ⟨some 7, none⟩] (fun (g43 : (Option Addr × Nat)) => [BP b6 1, vS a33 l32 c34, vI i29, vI (wrap64 (31 + i29)), BP β_0 0, .agg #[vI t44.1.X0, vI t44.1.Y0, vI t44.1.X1, vI t44.1.Y1], .agg #[vI (wrap64 (31 + i29)), vI t44.1.X0, vI t44.1.Y0, vI t44.1.X1, vI t44.1.Y1], vS g43.1 ([(⟨(wrap64 (31 + i29)), t44.1⟩ : TEntry)] : (List TEntry)) g43.2]) (fun (g43 : (Option Addr × Nat)) => [Box b6 [.bool t2.1.Leaf, vS a33 l32 c34], Box β_0 [vS a_0 p0.b c_0, vI i30, vI i31], Box β_0 [vS a_0 p0.b c_0, vI t44.2.i, vI t44.2.h], OwnS kTEntry g43.1 g43.2 ([(⟨(wrap64 (31 + i29)), t44.1⟩ : TEntry)] : (List TEntry))]) (none, 0) [4, 1] [4, 1, 9] [] z4 z2 rfl (by kernel_rfl) (fun _ => rfl) (by kernel_rfl) (fun _ => rfl) ⟨?_, ?_, ?_, ?_, ?_, ?_, ?_, ?_, trivial⟩ fun g43 => ?_
      ·exact OpOK.pu (fun g43 => [(.tmp 3, BP b6 0)]) z2 (fun _ => z1) (fun _ => (Pu.fieldB fo47_1 rfl)) (fun _ => z1) (fun _ _ => z6)
      ·exact OpOK.of (fun g43 => [(.tmp 34, BP b6 1)]) _ _ (fun g43 _ => g43) rfl rfl (fun _ => z1) (fun g43 => OT.loadB sc45 rfl) (fun _ _ => z6)
      ·exact OpOK.pu (fun g43 => [(.tmp 4, vI i29)]) z2 (fun _ => z1) (fun _ => Pu.move) (fun _ => z1) (fun _ _ => z6)
      ·exact OpOK.pu (fun g43 => [(.const (vI 31), vI 31), (.tmp 36, vI i29)]) z2 (fun _ => z2) (fun _ => Pu.add) (fun _ => z1) (fun _ _ => z6)
      ·exact OpOK.pu (fun g43 => [(.tmp 0, BP β_0 0)]) z2 (fun _ => z1) (fun _ => Pu.move) (fun _ => z1) (fun _ _ => z6)
      ·exact OpOK.of (fun g43 => [(.func 139, .func (.func 139) #[] #[]), (.tmp 38, BP β_0 0)]) _ _ (fun g43 _ => g43) rfl rfl (fun _ => z2) (fun g43 => OT.callM (us := [_]) (PreX := [Box β_0 [vS a_0 p0.b c_0, vI i30, vI i31]]) (PreL := []) [.tmp 38] Try.call139 rfl rfl fun w FX FL hs1 hF1 hs2 hF2 hp => spec_l2Draw_c (p0 := (⟨p0.b, i30, i31⟩ : TCur)) hs1 hF1 (hb_0.passY hp) h45) (fun _ _ => z6)
      ·exact OpOK.pu (fun g43 => [(.tmp 37, vI (wrap64 (31 + i29))), (.tmp 39, .agg #[vI t44.1.X0, vI t44.1.Y0, vI t44.1.X1, vI t44.1.Y1])]) z2 (fun _ => z2) (fun _ => (Pu.build (us := [vI (wrap64 (31 + i29)), .agg #[vI t44.1.X0, vI t44.1.Y0, vI t44.1.X1, vI t44.1.Y1]]) (cs := [vI (wrap64 (31 + i29)), vI t44.1.X0, vI t44.1.Y0, vI t44.1.X1, vI t44.1.Y1]) [(0, .tmp 37), (1, .tmp 39)] st134 rfl rfl rfl)) (fun _ => z1) (fun _ _ => z6)
      ·exact OpOK.of (fun g43 => [(.tmp 40, .agg #[vI (wrap64 (31 + i29)), vI t44.1.X0, vI t44.1.Y0, vI t44.1.X1, vI t44.1.Y1])]) _ _ (fun g43 x => x) rfl rfl (fun _ => z1) (fun g43 => OT.buildF (us := [.agg #[vI (wrap64 (31 + i29)), vI t44.1.X0, vI t44.1.Y0, vI t44.1.X1, vI t44.1.Y1]]) (ys := ([(⟨(wrap64 (31 + i29)), t44.1⟩ : TEntry)] : (List TEntry))) (enc := encTEntry) (hl := fun _ => ⟨rfl, rfl⟩) [.tmp 40] sl45.ul sl45.szE sl45.zc rfl rfl rfl rfl rfl) (fun _ _ => z6)
      refine HQ.keep [(0, _), (2, _), (3, _), (4, _), (35, _), (41, _)] z6 ?_
      refine HQ.keepR [(1, _), (2, _), (4, _), (3, _), (9, _)] z5 rfl ?_
      obtain ⟨h50, H⟩ := asr H
      refine op [3, 9] [3, 9] (OT.appendG (enc := encTEntry) (hl := fun _ => ⟨rfl, rfl⟩) sl45 ul45 h50) z2 z2 z4 (fun _ => rfl) fun ⟨a48, c49⟩ => ?_
      refine pu (Pu.fieldB fo47_1 rfl) z1 z3 ?_
      refine HQ.opN [4] [4] [] (OT.storeC (cs' := [.bool t2.1.Leaf, vS a48 (l32 ++ ([(⟨(wrap64 (31 + i29)), t44.1⟩ : TEntry)] : (List TEntry))) c49]) sz45 rfl rfl rfl rfl rfl) z2 z1 rfl rfl rfl (fun _ => rfl) fun _ => ?_
      refine HQ.done ?_
      refine HQ.keep [(0, _), (2, _), (3, _), (4, _)] z4 ?_
      refine HQ.blkN ?_
      refine HQ.thenN ?_
      refine HQ.regionQ ?_
      refine pu Pu.move z1 z3 ?_
      refine pu Pu.add z2 z3 ?_
      refine pu Pu.assign z1 z3 ?_
      refine HQ.done ?_
      refine HQ.keep [(0, _), (2, _), (3, _), (4, _)] z4 ?_
      obtain rfl := Option.some.inj H
      exact HQ.next (a48, c49) z4 z4 rfl
     ·refine HQ.condF rfl hc ?_
      clear hc
      refine HQ.exit ?_
      refine HQ.thenE ?_
      obtain rfl := Option.some.inj H
      exact HQ.out (a33, c34) z4 z4 rfl
    ·rintro ⟨i52, i53, i54, l55⟩ rfl ⟨a56, c57⟩
     clear h58
     replace H := H
     refine HQ.keep [(0, _), (2, _), (3, _), (4, _)] z4 ?_
     refine HQ.keepR [(1, _), (2, _), (4, _), (3, _)] z4 rfl ?_
     refine HQ.blkE ?_
     refine HQ.blkN ?_
     refine HQ.thenN ?_
     refine HQ.rseq ?_
     refine op [4] [4] (OT.loadBA (vs := [.bool t2.1.Leaf, vS a56 l55 c57]) ag47 sz47 rfl rfl) z1 z1 z4 (fun _ => rfl) fun _ => ?_
     refine HQ.opN [2] [2] [] (OT.storeC (cs' := [.bool t2.1.Leaf, vS a56 l55 c57]) sz47 rfl rfl rfl rfl rfl) z2 z1 rfl rfl rfl (fun _ => rfl) fun _ => ?_
     refine HQ.done ?_
     refine HQ.keep [(2, _)] z1 ?_
     refine HQ.ret ?_
     obtain rfl := Option.some.inj H
     exact HQ.fin (vs := [_]) Try.results125 (a56, c57) ⟨⟨_, _, 2, rfl, rfl, ag47, sz47, rfl⟩, trivial⟩ rfl [3, 1] z2 rfl
    ·exact fun r h a w hf => hf.elim
   ·refine HQ.condF rfl hc ?_
    clear hc
    refine HQ.rseq ?_
    refine pu Pu.eql z2 z3 ?_
    refine pu Pu.assign z1 z3 ?_
    refine HQ.done ?_
    refine HQ.keep [(2, _), (3, _), (8, _), (44, _)] z4 ?_
    rcases brk H with ⟨hc, H⟩ | ⟨hc, H⟩
    ·refine HQ.condT rfl hc ?_
     clear hc
     refine HQ.regionQ ?_
     refine pu (Pu.fieldB fo47_1 rfl) z1 z3 ?_
     refine op [4] [4] (OT.loadB sc45 rfl) z1 z1 z4 (fun _ => rfl) fun _ => ?_
     refine pu (Pu.fieldB fo47_1 rfl) z1 z3 ?_
     refine op [4] [4] (OT.loadB sc45 rfl) z1 z1 z4 (fun _ => rfl) fun _ => ?_
     obtain ⟨h61, H⟩ := asr H
     refine op [3] [3] (OT.appendS (enc := encTEntry) (hl := fun _ => ⟨rfl, rfl⟩) sl45 ul45 h61) z2 z1 z4 (fun _ => rfl) fun ⟨a59, c60⟩ => ?_
     refine pu (Pu.fieldB fo47_1 rfl) z1 z3 ?_
     refine HQ.opN [4] [4] [] (OT.storeC (cs' := [.bool t2.1.Leaf, vS a59 (t2.1.L ++ t2.1.L) c60]) sz45 rfl rfl rfl rfl rfl) z2 z1 rfl rfl rfl (fun _ => rfl) fun _ => ?_
     refine HQ.done ?_
     refine HQ.keep [(2, _), (3, _)] z2 ?_
     refine HQ.blkN ?_
     refine HQ.thenN ?_
     refine HQ.rseq ?_
     refine op [4] [4] (OT.loadBA (vs := [.bool t2.1.Leaf, vS a59 (t2.1.L ++ t2.1.L) c60]) ag47 sz47 rfl rfl) z1 z1 z4 (fun _ => rfl) fun _ => ?_
     refine HQ.opN [2] [2] [] (OT.storeC (cs' := [.bool t2.1.Leaf, vS a59 (t2.1.L ++ t2.1.L) c60]) sz47 rfl rfl rfl rfl rfl) z2 z1 rfl rfl rfl (fun _ => rfl) fun _ => ?_
     refine HQ.done ?_
     refine HQ.keep [(2, _)] z1 ?_
     refine HQ.ret ?_
     obtain rfl := Option.some.inj H
     exact HQ.fin (vs := [_]) Try.results125 (a59, c60) ⟨⟨_, _, 2, rfl, rfl, ag47, sz47, rfl⟩, trivial⟩ rfl [3, 1] z2 rfl
    ·refine HQ.condF rfl hc ?_
     clear hc
     refine HQ.rseq ?_
     refine pu Pu.eql z2 z3 ?_
     refine pu Pu.assign z1 z3 ?_
     refine HQ.done ?_
     refine HQ.keep [(2, _), (3, _), (52, _)] z3 ?_
     rcases brk H with ⟨hc, H⟩ | ⟨hc, H⟩
     ·refine HQ.condT rfl hc ?_
      clear hc
      refine HQ.regionQ ?_
      refine op [] [10] (OT.buildF (us := []) (ys := ([] : (List TEntry))) (enc := encTEntry) (hl := fun _ => ⟨rfl, rfl⟩) [] sl45.ul sl45.szE sl45.zc rfl rfl rfl rfl rfl) trivial trivial z4 (fun _ => rfl) fun ⟨a62, c63⟩ => ?_
      refine pu (Pu.fieldB fo47_1 rfl) z1 z3 ?_
      refine HQ.opN [4] [4] [] (OT.storeC (cs' := [.bool t2.1.Leaf, vS a62 ([] : (List TEntry)) c63]) sz45 rfl rfl rfl rfl rfl) z2 z1 rfl rfl rfl (fun _ => rfl) fun _ => ?_
      refine HQ.done ?_
      refine HQ.keep [(2, _), (3, _)] z2 ?_
      refine HQ.blkN ?_
      refine HQ.thenN ?_
      refine HQ.rseq ?_
      refine op [4] [4] (OT.loadBA (vs := [.bool t2.1.Leaf, vS a62 ([] : (List TEntry)) c63]) ag47 sz47 rfl rfl) z1 z1 z4 (fun _ => rfl) fun _ => ?_
      refine HQ.opN [2] [2] [] (OT.storeC (cs' := [.bool t2.1.Leaf, vS a62 ([] : (List TEntry)) c63]) sz47 rfl rfl rfl rfl rfl) z2 z1 rfl rfl rfl (fun _ => rfl) fun _ => ?_
      refine HQ.done ?_
      refine HQ.keep [(2, _)] z1 ?_
      refine HQ.ret ?_
      obtain rfl := Option.some.inj H
      exact HQ.fin (vs := [_]) Try.results125 (a62, c63) ⟨⟨_, _, 2, rfl, rfl, ag47, sz47, rfl⟩, trivial⟩ rfl [10, 1] z2 rfl
     ·refine HQ.condF rfl hc ?_
      clear hc
      refine HQ.skip ?_
      refine HQ.blkN ?_
      refine HQ.thenN ?_
      refine HQ.rseq ?_
      refine op [4] [4] (OT.loadBA (vs := [.bool t2.1.Leaf, vS a4 t2.1.L c5]) ag47 sz47 rfl rfl) z1 z1 z4 (fun _ => rfl) fun _ => ?_
      refine HQ.opN [2] [2] [] (OT.storeC (cs' := [.bool t2.1.Leaf, vS a4 t2.1.L c5]) sz47 rfl rfl rfl rfl rfl) z2 z1 rfl rfl rfl (fun _ => rfl) fun _ => ?_
      refine HQ.done ?_
      refine HQ.keep [(2, _)] z1 ?_
      refine HQ.ret ?_
      obtain rfl := Option.some.inj H
      exact HQ.fin (vs := [_]) Try.results125 (a4, c5) ⟨⟨_, _, 2, rfl, rfl, ag47, sz47, rfl⟩, trivial⟩ rfl [3, 1] z2 rfl

end Go.Proofs.Sx
