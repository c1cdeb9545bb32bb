import Derived.Test.YtkhommmhkeohbaaQfF5
import Derived.KernelRfl
namespace Go.Proofs.Sx
open Go.RowKit
set_option linter.unusedVariables false
set_option linter.unusedSimpArgs false
set_option maxRecDepth 20000
set_option maxHeartbeats 1000000
theorem spec_l19Any_c {w : World} {k : Nat} {p0 : TCur} {β_0 : Nat} {a_0 : Option Addr} {c_0 : Nat} {F0 : Fp} (hs0 : Sat [Box β_0 [vS a_0 p0.b c_0, vI p0.i, vI p0.h]] w.heap F0) (hF0 : ∀ b, F0 b → b < w.heap.size) (hb_0 : BorS kU8 a_0 c_0 p0.b w.heap (Lt w F0)) {r : TTx × TCur} (H : spec_l19Any k p0 = some r) :
  Calls Try.prog 101 #[BP β_0 0] w (Rt w F0 (fun g : Option Addr × Nat => .agg #[vI r.1.Seq, vI r.1.Root, vI r.1.Size, vS g.1 r.1.Puts g.2]) (fun g => [OwnS kTChange g.1 g.2 r.1.Puts, Box β_0 [vS a_0 p0.b c_0, vI r.2.i, vI r.2.h]])) := by
 rw [spec_l19Any] at H
 refine Calls.enter (N := 41) (us := [_]) (F0 := F0) (Γ0 := [(1, Box β_0 [vS a_0 p0.b c_0, vI p0.i, vI p0.h])]) Try.func101 rfl rfl rfl hs0 hF0 ?_
 refine HQ.rseq ?_
 refine op [] [2] (OT.alloc zc57) trivial trivial z4 (fun _ => rfl) fun b1 => ?_
 refine HQ.done ?_
 refine HQ.keep [(0, _), (2, _)] z2 ?_
 refine HQ.rseq ?_
 refine pu Pu.move z1 z3 ?_
 obtain ⟨t2, h3, H⟩ := bnd H
 refine op [1] [3, 1] (OT.callM (us := [_]) (PreX := [Box β_0 [vS a_0 p0.b c_0, vI p0.i, vI p0.h]]) (PreL := []) [.tmp 4] Try.call119 rfl rfl fun w FX FL hs1 hF1 hs2 hF2 hp => spec_l19Draw_c (p0 := p0) hs1 hF1 (hb_0.passY hp) h3) z2 z1 z4 (fun _ => rfl) fun ⟨a4, c5⟩ => ?_
 refine op [] [4] (OT.alloc zc57) trivial trivial z4 (fun _ => rfl) fun b6 => ?_
 refine HQ.opN [4] [4] [] (OT.storeC (cs' := [vI t2.1.Seq, vI t2.1.Root, vI t2.1.Size, vS a4 t2.1.Puts c5]) sz57 rfl rfl rfl rfl rfl) z2 z1 rfl rfl rfl (fun _ => rfl) fun _ => ?_
 refine HQ.done ?_
 refine HQ.keep [(0, _), (2, _), (3, _)] z3 ?_
 refine HQ.seq ?_
 refine HQ.rseq ?_
 refine pu Pu.move z1 z3 ?_
 obtain ⟨t7, h8, H⟩ := bnd H
 refine op [1] [1] (OT.callM (us := [_, _]) (PreX := [Box β_0 [vS a_0 p0.b c_0, vI t2.2.i, vI t2.2.h]]) (PreL := []) [.tmp 6, .const (vI 12)] Try.call86 rfl rfl fun w FX FL hs1 hF1 hs2 hF2 hp => spec_l1Below_c (p0 := (⟨p0.b, t2.2.i, t2.2.h⟩ : TCur)) (p1 := 12) hs1 hF1 (hb_0.passY hp) h8) z3 z1 z4 (fun _ => rfl) fun _ => ?_
 refine HQ.done ?_
 refine HQ.keep [(0, _), (2, _), (3, _), (7, _)] z4 ?_
 refine HQ.block ?_
 refine HQ.rseq ?_
 refine pu Pu.eql z2 z3 ?_
 refine pu Pu.assign z1 z3 ?_
 refine HQ.done ?_
 refine HQ.keep [(0, _), (2, _), (3, _), (7, _), (8, _)] z5 ?_
 rcases brk H with ⟨hc, H⟩ | ⟨hc, H⟩
 ·refine HQ.condT rfl hc ?_
  clear hc
  refine HQ.regionQ ?_
  refine pu Pu.move z1 z3 ?_
  refine op [] [5] (OT.buildF (us := [vI 0, vI 65535, vI 65536]) (ys := ([0, 65535, 65536] : (List Int))) (enc := (encI .i64)) (hl := fun _ => ⟨rfl, rfl⟩) [.const (vI 0), .const (vI 65535), .const (vI 65536)] sl33.ul sl33.szE sl33.zc rfl rfl rfl rfl rfl) z3 trivial z4 (fun _ => rfl) fun ⟨a9, c10⟩ => ?_
  obtain ⟨t11, h12, H⟩ := bnd H
  refine op [1, 5] [1, 5] (OT.callM (us := [_, _]) (PreX := [Box β_0 [vS a_0 p0.b c_0, vI t7.2.i, vI t7.2.h]]) (PreL := [OwnS kI a9 c10 ([0, 65535, 65536] : (List Int))]) [.tmp 10, .tmp 11] Try.call79 rfl rfl fun w FX FL hs1 hF1 hs2 hF2 hp => spec_l1Int_c (p0 := (⟨p0.b, t7.2.i, t7.2.h⟩ : TCur)) (p1 := ([0, 65535, 65536] : (List Int))) hs1 hF1 (hb_0.passY hp) (hs2.lendY hF2 0 rfl) h12) z3 z2 z4 (fun _ => rfl) fun _ => ?_
  refine pu (Pu.fieldB fo57_0 rfl) z1 z3 ?_
  refine HQ.opN [4] [4] [] (OT.storeC (cs' := [vI t11.1, vI t2.1.Root, vI t2.1.Size, vS a4 t2.1.Puts c5]) sz3 rfl rfl rfl rfl rfl) z2 z1 rfl rfl rfl (fun _ => rfl) fun _ => ?_
  refine HQ.done ?_
  refine HQ.keep [(2, _), (3, _)] z2 ?_
  refine HQ.blkN ?_
  refine HQ.thenN ?_
  refine HQ.rseq ?_
  refine op [4] [4] (OT.loadBA (vs := [vI t11.1, vI t2.1.Root, vI t2.1.Size, vS a4 t2.1.Puts c5]) ag57 sz57 rfl rfl) z1 z1 z4 (fun _ => rfl) fun _ => ?_
  refine HQ.opN [2] [2] [] (OT.storeC (cs' := [vI t11.1, vI t2.1.Root, vI t2.1.Size, vS a4 t2.1.Puts c5]) sz57 rfl rfl rfl rfl rfl) z2 z1 rfl rfl rfl (fun _ => rfl) fun _ => ?_
  refine HQ.done ?_
  refine HQ.keep [(2, _)] z1 ?_
  refine HQ.ret ?_
  obtain rfl := Option.some.inj H
  exact HQ.fin (vs := [_]) Try.results101 (a4, c5) ⟨⟨_, _, 2, rfl, rfl, ag57, sz57, rfl⟩, trivial⟩ rfl [3, 1] z2 rfl
 ·refine HQ.condF rfl hc ?_
  clear hc
  refine HQ.rseq ?_
  refine pu Pu.eql z2 z3 ?_
  refine pu Pu.assign z1 z3 ?_
  refine HQ.done ?_
  refine HQ.keep [(0, _), (2, _), (3, _), (7, _), (14, _)] z5 ?_
  rcases brk H with ⟨hc, H⟩ | ⟨hc, H⟩
  ·refine HQ.condT rfl hc ?_
   clear hc
   refine HQ.regionQ ?_
   refine pu Pu.move z1 z3 ?_
   refine op [] [6] (OT.buildF (us := [vI 0, vI 1, vI 48, vI 49]) (ys := ([0, 1, 48, 49] : (List Int))) (enc := (encI .i64)) (hl := fun _ => ⟨rfl, rfl⟩) [.const (vI 0), .const (vI 1), .const (vI 48), .const (vI 49)] sl33.ul sl33.szE sl33.zc rfl rfl rfl rfl rfl) z4 trivial z4 (fun _ => rfl) fun ⟨a13, c14⟩ => ?_
   obtain ⟨t15, h16, H⟩ := bnd H
   refine op [1, 6] [1, 6] (OT.callM (us := [_, _]) (PreX := [Box β_0 [vS a_0 p0.b c_0, vI t7.2.i, vI t7.2.h]]) (PreL := [OwnS kI a13 c14 ([0, 1, 48, 49] : (List Int))]) [.tmp 16, .tmp 17] Try.call79 rfl rfl fun w FX FL hs1 hF1 hs2 hF2 hp => spec_l1Int_c (p0 := (⟨p0.b, t7.2.i, t7.2.h⟩ : TCur)) (p1 := ([0, 1, 48, 49] : (List Int))) hs1 hF1 (hb_0.passY hp) (hs2.lendY hF2 0 rfl) h16) z3 z2 z4 (fun _ => rfl) fun _ => ?_
   refine pu (Pu.fieldB fo57_2 rfl) z1 z3 ?_
   refine HQ.opN [4] [4] [] (OT.storeC (cs' := [vI t2.1.Seq, vI t2.1.Root, vI t15.1, vS a4 t2.1.Puts c5]) sz3 rfl rfl rfl rfl rfl) z2 z1 rfl rfl rfl (fun _ => rfl) fun _ => ?_
   refine HQ.done ?_
   refine HQ.keep [(2, _), (3, _)] z2 ?_
   refine HQ.blkN ?_
   refine HQ.thenN ?_
   refine HQ.rseq ?_
   refine op [4] [4] (OT.loadBA (vs := [vI t2.1.Seq, vI t2.1.Root, vI t15.1, vS a4 t2.1.Puts c5]) ag57 sz57 rfl rfl) z1 z1 z4 (fun _ => rfl) fun _ => ?_
   refine HQ.opN [2] [2] [] (OT.storeC (cs' := [vI t2.1.Seq, vI t2.1.Root, vI t15.1, vS a4 t2.1.Puts c5]) sz57 rfl rfl rfl rfl rfl) z2 z1 rfl rfl rfl (fun _ => rfl) fun _ => ?_
   refine HQ.done ?_
   refine HQ.keep [(2, _)] z1 ?_
   refine HQ.ret ?_
   obtain rfl := Option.some.inj H
   exact HQ.fin (vs := [_]) Try.results101 (a4, c5) ⟨⟨_, _, 2, rfl, rfl, ag57, sz57, rfl⟩, trivial⟩ rfl [3, 1] z2 rfl
  ·refine HQ.condF rfl hc ?_
   clear hc
   refine HQ.rseq ?_
   refine pu Pu.eql z2 z3 ?_
   refine pu Pu.assign z1 z3 ?_
   refine HQ.done ?_
   refine HQ.keep [(0, _), (2, _), (3, _), (7, _), (20, _)] z5 ?_
   rcases brk H with ⟨hc, H⟩ | ⟨hc, H⟩
   ·refine HQ.condT rfl hc ?_
    clear hc
    refine HQ.regionQ ?_
    refine pu Pu.move z1 z3 ?_
    refine pu (Pu.fieldB fo57_2 rfl) z1 z3 ?_
    refine op [4] [4] (OT.loadB sc3 rfl) z1 z1 z4 (fun _ => rfl) fun _ => ?_
    refine op [] [7] (OT.buildF (us := [vI (-1), vI t2.1.Size]) (ys := ([(-1), t2.1.Size] : (List Int))) (enc := (encI .i64)) (hl := fun _ => ⟨rfl, rfl⟩) [.const (vI (-1)), .tmp 24] sl33.ul sl33.szE sl33.zc rfl rfl rfl rfl rfl) z2 trivial z4 (fun _ => rfl) fun ⟨a17, c18⟩ => ?_
    obtain ⟨t19, h20, H⟩ := bnd H
    refine op [1, 7] [1, 7] (OT.callM (us := [_, _]) (PreX := [Box β_0 [vS a_0 p0.b c_0, vI t7.2.i, vI t7.2.h]]) (PreL := [OwnS kI a17 c18 ([(-1), t2.1.Size] : (List Int))]) [.tmp 22, .tmp 25] Try.call79 rfl rfl fun w FX FL hs1 hF1 hs2 hF2 hp => spec_l1Int_c (p0 := (⟨p0.b, t7.2.i, t7.2.h⟩ : TCur)) (p1 := ([(-1), t2.1.Size] : (List Int))) hs1 hF1 (hb_0.passY hp) (hs2.lendY hF2 0 rfl) h20) z3 z2 z4 (fun _ => rfl) fun _ => ?_
    refine pu (Pu.fieldB fo57_1 rfl) z1 z3 ?_
    refine HQ.opN [4] [4] [] (OT.storeC (cs' := [vI t2.1.Seq, vI t19.1, vI t2.1.Size, vS a4 t2.1.Puts c5]) sz3 rfl rfl rfl rfl rfl) z2 z1 rfl rfl rfl (fun _ => rfl) fun _ => ?_
    refine HQ.done ?_
    refine HQ.keep [(2, _), (3, _)] z2 ?_
    refine HQ.blkN ?_
    refine HQ.thenN ?_
    refine HQ.rseq ?_
    refine op [4] [4] (OT.loadBA (vs := [vI t2.1.Seq, vI t19.1, vI t2.1.Size, vS a4 t2.1.Puts c5]) ag57 sz57 rfl rfl) z1 z1 z4 (fun _ => rfl) fun _ => ?_
    refine HQ.opN [2] [2] [] (OT.storeC (cs' := [vI t2.1.Seq, vI t19.1, vI t2.1.Size, vS a4 t2.1.Puts c5]) sz57 rfl rfl rfl rfl rfl) z2 z1 rfl rfl rfl (fun _ => rfl) fun _ => ?_
    refine HQ.done ?_
    refine HQ.keep [(2, _)] z1 ?_
    refine HQ.ret ?_
    obtain rfl := Option.some.inj H
    exact HQ.fin (vs := [_]) Try.results101 (a4, c5) ⟨⟨_, _, 2, rfl, rfl, ag57, sz57, rfl⟩, trivial⟩ rfl [3, 1] z2 rfl
   ·refine HQ.condF rfl hc ?_
    clear hc
    refine HQ.rseq ?_
    refine pu Pu.eql z2 z3 ?_
    refine pu Pu.assign z1 z3 ?_
    refine HQ.done ?_
    refine HQ.keep [(0, _), (2, _), (3, _), (28, _)] z4 ?_
    rcases brk H with ⟨hc, H⟩ | ⟨hc, H⟩
    ·refine HQ.condT rfl hc ?_
     clear hc
     refine HQ.dStart mixd ?_
     obtain ⟨t22, h23, H⟩ := bnd H
     obtain ⟨t24, h25, H⟩ := bnd H
     refine HQ.dPart [(0, BP β_0 0), (2, BP b1 0), (3, BP b6 0)] 8 [⟨[], [], []⟩, ⟨[0], [0], [0]⟩, ⟨[], [], []⟩, ⟨[1], [2], [2]⟩, ⟨[], [], []⟩, ⟨[2], [3, 4], [4]⟩, ⟨[], [], [3, 5]⟩, ⟨[3], [5], [6]⟩] [⟨none, none⟩, ⟨none, some 3⟩, ⟨some 3, some 5⟩, ⟨some 5, some 7⟩, ⟨some 5, none⟩, ⟨some 7, none⟩] (fun (g21 : (Option Addr × Nat) × (Option Addr × Nat)) => [BP b6 3, vS a4 t2.1.Puts c5, BP β_0 0, vI t22.1, BP β_0 0, .agg #[.bool t24.1.Leaf, vS g21.1.1 t24.1.L g21.1.2], .agg #[vI t22.1, .bool t24.1.Leaf, vS g21.1.1 t24.1.L g21.1.2], vS g21.2.1 ([(⟨t22.1, t24.1⟩ : TChange)] : (List TChange)) g21.2.2]) (fun (g21 : (Option Addr × Nat) × (Option Addr × Nat)) => [Box b6 [vI t2.1.Seq, vI t2.1.Root, vI t2.1.Size, vS a4 t2.1.Puts c5], Box β_0 [vS a_0 p0.b c_0, vI t7.2.i, vI t7.2.h], Box β_0 [vS a_0 p0.b c_0, vI t22.2.i, vI t22.2.h], OwnS kTEntry g21.1.1 g21.1.2 t24.1.L, Box β_0 [vS a_0 p0.b c_0, vI t24.2.i, vI t24.2.h], OwnS kTChange g21.2.1 g21.2.2 ([(⟨t22.1, t24.1⟩ : TChange)] : (List TChange))]) ((none, 0), (none, 0)) [4, 1] [4, 1, 9] [] z3 z2 rfl (by kernel_rfl) (by kernel_rfl) (fun _ => rfl) (by kernel_rfl) (fun _ => rfl) rfl ⟨?_, ?_, ?_, ?_, ?_, ?_, ?_, ?_, trivial⟩ fun g21 => ?_
     ·exact OpOK2.pu (fun g21 => [(.tmp 3, BP b6 0)]) z2 (fun _ => z1) (fun _ => (Pu.fieldB fo57_3 rfl)) (fun _ => z1) (fun _ _ => z8)
     ·exact OpOK2.of (fun g21 => [(.tmp 30, BP b6 3)]) _ _ (fun g21 _ => g21) rfl rfl (fun _ => z1) (fun g21 => OT.loadB sc55 rfl) (fun _ _ => z8)
     ·exact OpOK2.pu (fun g21 => [(.tmp 0, BP β_0 0)]) z2 (fun _ => z1) (fun _ => Pu.move) (fun _ => z1) (fun _ _ => z8)
     ·exact OpOK2.of (fun g21 => [(.func 86, .func (.func 86) #[] #[]), (.tmp 32, BP β_0 0), (.const (vI 12), vI 12)]) _ _ (fun g21 _ => g21) rfl rfl (fun _ => z3) (fun g21 => OT.callM (us := [_, _]) (PreX := [Box β_0 [vS a_0 p0.b c_0, vI t7.2.i, vI t7.2.h]]) (PreL := []) [.tmp 32, .const (vI 12)] Try.call86 rfl rfl fun w FX FL hs1 hF1 hs2 hF2 hp => spec_l1Below_c (p0 := (⟨p0.b, t7.2.i, t7.2.h⟩ : TCur)) (p1 := 12) hs1 hF1 (hb_0.passY hp) h23) (fun _ _ => z8)
     ·exact OpOK2.pu (fun g21 => [(.tmp 0, BP β_0 0)]) z2 (fun _ => z1) (fun _ => Pu.move) (fun _ => z1) (fun _ _ => z8)
     ·exact OpOK2.ofD [6] (by kernel_rfl) (fun g21 => [(.func 125, .func (.func 125) #[] #[]), (.tmp 34, BP β_0 0)]) _ _ (fun g21 x => (x, g21.2)) rfl rfl (fun _ => z2) (fun g21 => OT.callM (us := [_]) (PreX := [Box β_0 [vS a_0 p0.b c_0, vI t22.2.i, vI t22.2.h]]) (PreL := []) [.tmp 34] Try.call125 rfl rfl fun w FX FL hs1 hF1 hs2 hF2 hp => spec_l5Any_c (p0 := (⟨p0.b, t22.2.i, t22.2.h⟩ : TCur)) hs1 hF1 (hb_0.passY hp) h25) (fun _ _ => ⟨⟨rfl, rfl, rfl, rfl, rfl, rfl, trivial, rfl, trivial⟩, rfl, z6⟩)
     ·exact OpOK2.pu (fun g21 => [(.tmp 33, vI t22.1), (.tmp 35, .agg #[.bool t24.1.Leaf, vS g21.1.1 t24.1.L g21.1.2])]) z2 (fun _ => z2) (fun g21 => (Pu.build (us := [vI t22.1, .agg #[.bool t24.1.Leaf, vS g21.1.1 t24.1.L g21.1.2]]) (cs := [vI t22.1, .bool t24.1.Leaf, vS g21.1.1 t24.1.L g21.1.2]) [(0, .tmp 33), (1, .tmp 35)] st49 rfl rfl rfl)) (fun _ => z1) (fun _ _ => z8)
     ·exact OpOK2.of (fun g21 => [(.tmp 36, .agg #[vI t22.1, .bool t24.1.Leaf, vS g21.1.1 t24.1.L g21.1.2])]) _ _ (fun g21 x => (g21.1, x)) rfl rfl (fun _ => z1) (fun g21 => OT.buildO (u := .agg #[vI t22.1, .bool t24.1.Leaf, vS g21.1.1 t24.1.L g21.1.2]) (enc := encTChange) (hl := hlTChange) (sub := fun (x : TChange) => x.N.L) (.tmp 36) (⟨t22.1, t24.1⟩ : TChange) sl55.ul sl55.szE sl55.zc rfl rfl rfl rfl) (fun _ _ => z8)
     refine HQ.keep [(2, _), (3, _), (31, _), (37, _)] z4 ?_
     refine HQ.keepR [(1, _), (2, _), (3, _), (4, _), (9, _)] z5 rfl ?_
     refine HQ.dRun 3 rfl rfl (by kernel_rfl) (by kernel_rfl) ?_
     obtain ⟨h32, H⟩ := asr H
     refine HQ.opD [3, 9] [3] [9] (OT.appendO (K := kTChange) sl55 ul55 h32) z2 z2 rfl rfl rfl rfl (fun _ => rfl) fun ⟨a30, c31⟩ => ?_
     refine pu (Pu.fieldB fo57_3 rfl) z1 z3 ?_
     refine HQ.opN [4] [4] [] (OT.storeC (cs' := [vI t2.1.Seq, vI t2.1.Root, vI t2.1.Size, vS a30 (t2.1.Puts ++ ([(⟨t22.1, t24.1⟩ : TChange)] : (List TChange))) c31]) sz55 rfl rfl rfl rfl rfl) z2 z1 rfl rfl rfl (fun _ => rfl) fun _ => ?_
     refine HQ.done ?_
     refine HQ.dEnd rfl ?_
     refine HQ.keep [(2, _), (3, _)] z2 ?_
     refine HQ.blkN ?_
     refine HQ.thenN ?_
     refine HQ.rseq ?_
     refine op [4] [4] (OT.loadBA (vs := [vI t2.1.Seq, vI t2.1.Root, vI t2.1.Size, vS a30 (t2.1.Puts ++ ([(⟨t22.1, t24.1⟩ : TChange)] : (List TChange))) c31]) ag57 sz57 rfl rfl) z1 z1 z4 (fun _ => rfl) fun _ => ?_
     refine HQ.opN [2] [2] [] (OT.storeC (cs' := [vI t2.1.Seq, vI t2.1.Root, vI t2.1.Size, vS a30 (t2.1.Puts ++ ([(⟨t22.1, t24.1⟩ : TChange)] : (List TChange))) c31]) sz57 rfl rfl rfl rfl rfl) z2 z1 rfl rfl rfl (fun _ => rfl) fun _ => ?_
     refine HQ.done ?_
     refine HQ.keep [(2, _)] z1 ?_
     refine HQ.ret ?_
     obtain rfl := Option.some.inj H
     exact HQ.fin (vs := [_]) Try.results101 (a30, c31) ⟨⟨_, _, 2, rfl, rfl, ag57, sz57, rfl⟩, trivial⟩ rfl [3, 1] z2 rfl
    ·refine HQ.condF rfl hc ?_
     clear hc
     refine HQ.skip ?_
     refine HQ.blkN ?_
     refine HQ.thenN ?_
     refine HQ.rseq ?_
     refine op [4] [4] (OT.loadBA (vs := [vI t2.1.Seq, vI t2.1.Root, vI t2.1.Size, vS a4 t2.1.Puts c5]) ag57 sz57 rfl rfl) z1 z1 z4 (fun _ => rfl) fun _ => ?_
     refine HQ.opN [2] [2] [] (OT.storeC (cs' := [vI t2.1.Seq, vI t2.1.Root, vI t2.1.Size, vS a4 t2.1.Puts c5]) sz57 rfl rfl rfl rfl rfl) z2 z1 rfl rfl rfl (fun _ => rfl) fun _ => ?_
     refine HQ.done ?_
     refine HQ.keep [(2, _)] z1 ?_
     refine HQ.ret ?_
     obtain rfl := Option.some.inj H
     exact HQ.fin (vs := [_]) Try.results101 (a4, c5) ⟨⟨_, _, 2, rfl, rfl, ag57, sz57, rfl⟩, trivial⟩ rfl [3, 1] z2 rfl

theorem spec_DrawAppend_c {w : World} {k : Nat} {p0 : (List Int)} {a_0 : Option Addr} {c_0 : Nat} (hb_0 : BorS kU8 a_0 c_0 p0 w.heap (Lt w Nil)) {r : TDisk × Int × Int × TTx} (H : spec_DrawAppend k p0 = some r) :
  Calls Try.prog 67 #[vS a_0 p0 c_0] w (Rt w Nil (fun g : (Option Addr × Nat) × (Option Addr × Nat) × (Option Addr × Nat) => .tuple #[.agg #[vS g.1.1 r.1.Cells g.1.2, vS g.2.1.1 r.1.Wet g.2.1.2, vI r.1.Fuse, .bool r.1.Dead], vI r.2.1, vI r.2.2.1, .agg #[vI r.2.2.2.Seq, vI r.2.2.2.Root, vI r.2.2.2.Size, vS g.2.2.1 r.2.2.2.Puts g.2.2.2]]) (fun g => [OwnS kTCell g.1.1 g.1.2 r.1.Cells, OwnS kTWet g.2.1.1 g.2.1.2 r.1.Wet, OwnS kTChange g.2.2.1 g.2.2.2 r.2.2.2.Puts])) := by
 rw [spec_DrawAppend] at H
 refine Calls.enter0 (N := 26) (us := [_]) Try.func67 rfl rfl rfl ?_
 refine HQ.rseq ?_
 refine op [] [1] (OT.alloc zc27) trivial trivial z4 (fun _ => rfl) fun b1 => ?_
 refine pu Pu.assign z1 z3 ?_
 refine pu Pu.assign z1 z3 ?_
 refine op [] [2] (OT.alloc zc57) trivial trivial z4 (fun _ => rfl) fun b2 => ?_
 refine HQ.done ?_
 refine HQ.keep [(0, _), (2, _), (3, _), (4, _), (5, _)] z5 ?_
 refine HQ.rseq ?_
 refine pu Pu.move z1 z3 ?_
 obtain ⟨t3, h4, H⟩ := bnd H
 refine op [] [3] (OT.call (us := [_]) (Pre := []) [.tmp 10] Try.call77 rfl rfl fun w F hs hF hp => spec_l1New_c (hb_0.pass hp) h4) z2 trivial z4 (fun _ => rfl) fun b5 => ?_
 refine pu Pu.assign z1 z3 ?_
 refine HQ.done ?_
 refine HQ.keep [(2, _), (3, _), (4, _), (5, _), (6, _)] z5 ?_
 refine HQ.rseq ?_
 refine pu Pu.move z1 z3 ?_
 obtain ⟨t6, h7, H⟩ := bnd H
 refine op [3] [4, 5, 6, 3] (OT.callM (us := [_, _]) (PreX := [Box b5 [vS a_0 p0 c_0, vI t3.i, vI t3.h]]) (PreL := []) [.tmp 13, .const (vI 3)] Try.call117 rfl rfl fun w FX FL hs1 hF1 hs2 hF2 hp => spec_l20Disk_c (p0 := (⟨p0, t3.i, t3.h⟩ : TCur)) (p1 := 3) hs1 hF1 (hb_0.passY hp) h7) z3 z1 z4 (fun _ => rfl) fun ⟨⟨a8, c9⟩, ⟨a10, c11⟩, ⟨a12, c13⟩⟩ => ?_
 refine pu Pu.move z1 z3 ?_
 refine pu (Pu.extract rfl) z1 z3 ?_
 refine pu (Pu.extract rfl) z1 z3 ?_
 refine op [] [7] (OT.alloc zc27) trivial trivial z4 (fun _ => rfl) fun b14 => ?_
 refine HQ.opN [7] [7] [] (OT.storeC (cs' := [vS a8 t6.1.Cells c9, vS a10 t6.1.Wet c11, vI t6.1.Fuse, .bool t6.1.Dead]) sz27 rfl rfl rfl rfl rfl) z2 z1 rfl rfl rfl (fun _ => rfl) fun _ => ?_
 refine pu Pu.assign z1 z3 ?_
 refine HQ.done ?_
 refine HQ.keep [(2, _), (3, _), (4, _), (5, _), (6, _), (7, _)] z6 ?_
 refine HQ.rseq ?_
 refine pu Pu.move z1 z3 ?_
 refine op [] [8] (OT.buildF (us := [vI 0, vI 1, vI 9, vI 60, vI 64, vI (-1)]) (ys := ([0, 1, 9, 60, 64, (-1)] : (List Int))) (enc := (encI .i64)) (hl := fun _ => ⟨rfl, rfl⟩) [.const (vI 0), .const (vI 1), .const (vI 9), .const (vI 60), .const (vI 64), .const (vI (-1))] sl33.ul sl33.szE sl33.zc rfl rfl rfl rfl rfl) z6 trivial z4 (fun _ => rfl) fun ⟨a15, c16⟩ => ?_
 obtain ⟨t17, h18, H⟩ := bnd H
 refine op [3, 8] [3, 8] (OT.callM (us := [_, _]) (PreX := [Box b5 [vS a_0 p0 c_0, vI t6.2.2.i, vI t6.2.2.h]]) (PreL := [OwnS kI a15 c16 ([0, 1, 9, 60, 64, (-1)] : (List Int))]) [.tmp 17, .tmp 18] Try.call79 rfl rfl fun w FX FL hs1 hF1 hs2 hF2 hp => spec_l1Int_c (p0 := (⟨p0, t6.2.2.i, t6.2.2.h⟩ : TCur)) (p1 := ([0, 1, 9, 60, 64, (-1)] : (List Int))) hs1 hF1 (hb_0.passY hp) (hs2.lendY hF2 0 rfl) h18) z3 z2 z4 (fun _ => rfl) fun _ => ?_
 refine pu Pu.assign z1 z3 ?_
 refine HQ.done ?_
 refine HQ.keep [(2, _), (3, _), (4, _), (5, _), (6, _), (7, _), (9, _)] z7 ?_
 obtain ⟨t20, h21, H⟩ := bnd H
 obtain ⟨t22, h23, H⟩ := bnd H
 refine HQ.drawS mixd [(2, BP b1 0), (3, vI 0), (4, vI 0), (5, BP b2 0), (6, BP b5 0), (7, BP b14 0), (9, vI t17.1)] 7 [⟨[0], [0], []⟩, ⟨[], [], []⟩, ⟨[], [], []⟩, ⟨[1], [2], [2]⟩, ⟨[], [], []⟩, ⟨[2], [3, 4], [4]⟩, ⟨[5], [6], [0]⟩] [⟨none, none⟩, ⟨none, some 3⟩, ⟨some 3, some 5⟩, ⟨some 5, none⟩, ⟨some 5, none⟩, ⟨none, some 6⟩, ⟨some 6, none⟩] (fun (g19 : (Option Addr × Nat)) => [.agg #[vS a8 t6.1.Cells c9, vS a10 t6.1.Wet c11, vI t6.1.Fuse, .bool t6.1.Dead], vI t17.1, BP b5 0, vI t20.1, BP b5 0, .agg #[vI t22.1.Seq, vI t22.1.Root, vI t22.1.Size, vS g19.1 t22.1.Puts g19.2], undef]) (fun (g19 : (Option Addr × Nat)) => [Box b14 [vS a8 t6.1.Cells c9, vS a10 t6.1.Wet c11, vI t6.1.Fuse, .bool t6.1.Dead], Box b5 [vS a_0 p0 c_0, vI t17.2.i, vI t17.2.h], Box b5 [vS a_0 p0 c_0, vI t20.2.i, vI t20.2.h], OwnS kTChange g19.1 g19.2 t22.1.Puts, Box b5 [vS a_0 p0 c_0, vI t22.2.i, vI t22.2.h], Box b1 [.slice none 0 0, .slice none 0 0, vI 0, .bool false], Box b1 [vS a8 t6.1.Cells c9, vS a10 t6.1.Wet c11, vI t6.1.Fuse, .bool t6.1.Dead]]) (none, 0) [7, 3, 1] [7, 9, 3, 1] [] z7 z3 rfl (by kernel_rfl) (fun _ => rfl) (by kernel_rfl) (fun _ => rfl) ⟨?_, ?_, ?_, ?_, ?_, ?_, ?_, trivial⟩ fun g19 => ?_
 ·exact OpOK.of (fun g19 => [(.tmp 7, BP b14 0)]) _ _ (fun g19 _ => g19) rfl rfl (fun _ => z1) (fun g19 => OT.loadBA (vs := [vS a8 t6.1.Cells c9, vS a10 t6.1.Wet c11, vI t6.1.Fuse, .bool t6.1.Dead]) ag27 sz27 rfl rfl) (fun _ _ => z9)
 ·exact OpOK.pu (fun g19 => [(.tmp 9, vI t17.1)]) z2 (fun _ => z1) (fun _ => Pu.move) (fun _ => z1) (fun _ _ => z9)
 ·exact OpOK.pu (fun g19 => [(.tmp 6, BP b5 0)]) z2 (fun _ => z1) (fun _ => Pu.move) (fun _ => z1) (fun _ _ => z9)
 ·exact OpOK.of (fun g19 => [(.func 95, .func (.func 95) #[] #[]), (.tmp 22, BP b5 0)]) _ _ (fun g19 _ => g19) rfl rfl (fun _ => z2) (fun g19 => OT.callM (us := [_]) (PreX := [Box b5 [vS a_0 p0 c_0, vI t17.2.i, vI t17.2.h]]) (PreL := []) [.tmp 22] Try.call95 rfl rfl fun w FX FL hs1 hF1 hs2 hF2 hp => spec_l19Epoch_c (p0 := (⟨p0, t17.2.i, t17.2.h⟩ : TCur)) hs1 hF1 (hb_0.passY hp) h21) (fun _ _ => z9)
 ·exact OpOK.pu (fun g19 => [(.tmp 6, BP b5 0)]) z2 (fun _ => z1) (fun _ => Pu.move) (fun _ => z1) (fun _ _ => z9)
 ·exact OpOK.of (fun g19 => [(.func 101, .func (.func 101) #[] #[]), (.tmp 24, BP b5 0)]) _ _ (fun g19 x => x) rfl rfl (fun _ => z2) (fun g19 => OT.callM (us := [_]) (PreX := [Box b5 [vS a_0 p0 c_0, vI t20.2.i, vI t20.2.h]]) (PreL := []) [.tmp 24] Try.call101 rfl rfl fun w FX FL hs1 hF1 hs2 hF2 hp => spec_l19Any_c (p0 := (⟨p0, t20.2.i, t20.2.h⟩ : TCur)) hs1 hF1 (hb_0.passY hp) h23) (fun _ _ => z9)
 ·exact OpOK.of (fun g19 => [(.tmp 2, BP b1 0), (.tmp 20, .agg #[vS a8 t6.1.Cells c9, vS a10 t6.1.Wet c11, vI t6.1.Fuse, .bool t6.1.Dead])]) _ _ (fun g19 _ => g19) rfl rfl (fun _ => z2) (fun g19 => OT.storeC (cs' := [vS a8 t6.1.Cells c9, vS a10 t6.1.Wet c11, vI t6.1.Fuse, .bool t6.1.Dead]) sz27 rfl rfl rfl rfl rfl) (fun _ _ => z9)
 refine HQ.keep [(2, _), (3, _), (4, _), (5, _), (21, _), (23, _), (25, _)] z7 ?_
 refine HQ.keepR [(1, _), (2, _), (3, _), (4, _), (5, _), (6, _), (7, _), (8, _), (9, _)] z9 rfl ?_
 refine pu Pu.assign z1 z3 ?_
 refine pu Pu.assign z1 z3 ?_
 refine HQ.opN [2] [2] [] (OT.storeC (cs' := [vI t22.1.Seq, vI t22.1.Root, vI t22.1.Size, vS g19.1 t22.1.Puts g19.2]) sz57 rfl rfl rfl rfl rfl) z2 z1 rfl rfl rfl (fun _ => rfl) fun _ => ?_
 refine HQ.done ?_
 refine HQ.keep [(2, _), (3, _), (4, _), (5, _)] z4 ?_
 refine HQ.ret ?_
 obtain rfl := Option.some.inj H
 exact HQ.fin (vs := [_, _, _, _]) Try.results67 ((a8, c9), (a10, c11), (g19.1, g19.2)) ⟨⟨_, _, 1, rfl, rfl, ag27, sz27, rfl⟩, rfl, rfl, ⟨_, _, 2, rfl, rfl, ag57, sz57, rfl⟩, trivial⟩ rfl [4, 5, 9] z3 rfl

theorem impl_in_c {w : World} {p0 : Int} {p1 : Int} {p2 : Int}   {r : Bool} (H : impl_in p0 p1 p2 = some r) :
  Calls Try.prog 83 #[vI p0, vI p1, vI p2] w (Rt w Nil (fun _ : Unit => .bool r) (fun _ => [])) := by
 rw [impl_in] at H
 refine Calls.enter0 (N := 15) (us := [_, _, _]) Try.func83 rfl rfl rfl ?_
 refine HQ.rseq ?_
 refine pu Pu.assign z1 z3 ?_
 refine HQ.done ?_
 refine HQ.keep [(0, _), (1, _), (2, _), (6, _)] z4 ?_
 refine HQ.rseq ?_
 refine pu Pu.move z1 z3 ?_
 refine pu Pu.move z1 z3 ?_
 refine pu Pu.leq z2 z3 ?_
 refine pu Pu.move z1 z3 ?_
 refine HQ.cutAt 4 [(14, .bool ((decide (p1 ≤ p0)) && (decide (p0 ≤ p2)))), (6, .bool false)] [] ?_ ?_
 ·rcases Bool.eq_false_or_eq_true (decide (p1 ≤ p0)) with hg1 | hg1
  ·refine HQ.on rfl rfl hg1 ?_
   refine pu Pu.move z1 z3 ?_
   refine HQ.on rfl rfl hg1 ?_
   refine pu Pu.move z1 z3 ?_
   refine HQ.on rfl rfl hg1 ?_
   refine pu Pu.leq z2 z3 ?_
   refine pu (Pu.pickAT hg1) z2 z3 ?_
   exact HQ.mid z2 trivial rfl
  ·refine HQ.off rfl rfl hg1 rfl ?_
   refine HQ.off rfl rfl hg1 rfl ?_
   refine HQ.off rfl rfl hg1 rfl ?_
   refine pu (Pu.pickAF (u := (decide (p0 ≤ p2))) hg1) z2 z3 ?_
   exact HQ.mid z2 trivial rfl
 refine pu Pu.assign z1 z3 ?_
 refine HQ.done ?_
 refine HQ.keep [(6, _)] z1 ?_
 refine HQ.ret ?_
 obtain rfl := Option.some.inj H
 exact HQ.fin (vs := [_]) Try.results83 () z1 rfl [] trivial rfl

theorem impl_BoxOk_c {w : World} {p0 : TBox}   {r : Bool} (H : impl_BoxOk p0 = some r) :
  Calls Try.prog 109 #[.agg #[vI p0.X0, vI p0.Y0, vI p0.X1, vI p0.Y1]] w (Rt w Nil (fun _ : Unit => .bool r) (fun _ => [])) := by
 rw [impl_BoxOk] at H
 refine Calls.enter0 (N := 25) (us := [_]) Try.func109 rfl rfl rfl ?_
 refine HQ.rseq ?_
 refine op [] [1] (OT.box (cs := [vI p0.X0, vI p0.Y0, vI p0.X1, vI p0.Y1]) rfl) z1 trivial z4 (fun _ => rfl) fun b1 => ?_
 refine pu Pu.assign z1 z3 ?_
 refine HQ.done ?_
 refine HQ.keep [(1, _), (2, _)] z2 ?_
 refine HQ.rseq ?_
 refine pu (Pu.fieldB fo132_0 rfl) z1 z3 ?_
 refine op [1] [1] (OT.loadB sc3 rfl) z1 z1 z4 (fun _ => rfl) fun _ => ?_
 refine pu (Pu.fieldB fo132_2 rfl) z1 z3 ?_
 refine op [1] [1] (OT.loadB sc3 rfl) z1 z1 z4 (fun _ => rfl) fun _ => ?_
 obtain ⟨t2, h3, H⟩ := bnd H
 refine op [] [] (OT.call (us := [_, _, _]) (Pre := []) [.tmp 4, .const (vI 0), .tmp 6] Try.call83 rfl rfl fun w F hs hF hp => impl_in_c h3) z4 trivial z4 (fun _ => rfl) fun _ => ?_
 refine pu Pu.move z1 z3 ?_
 obtain ⟨c7, h8, H⟩ := bnd H
 refine HQ.cutAt 4 [(12, .bool c7), (1, BP b1 0), (2, .bool false)] [(1, Box b1 [vI p0.X0, vI p0.Y0, vI p0.X1, vI p0.Y1])] ?_ ?_
 ·clear H
  have H := h8
  rcases brk H with ⟨hg4, H⟩ | ⟨hg4, H⟩
  ·refine HQ.on rfl rfl hg4 ?_
   refine pu (Pu.fieldB fo132_2 rfl) z1 z3 ?_
   refine HQ.on rfl rfl hg4 ?_
   refine op [1] [1] (OT.loadB sc3 rfl) z1 z1 z4 (fun _ => rfl) fun _ => ?_
   refine HQ.on rfl rfl hg4 ?_
   obtain ⟨t5, h6, H⟩ := bnd H
   refine op [] [] (OT.call (us := [_, _, _]) (Pre := []) [.tmp 10, .const (vI 0), .const (vI 255)] Try.call83 rfl rfl fun w F hs hF hp => impl_in_c h6) z4 trivial z4 (fun _ => rfl) fun _ => ?_
   obtain rfl := Option.some.inj H
   refine pu (Pu.pickC1 hg4) z2 z3 ?_
   exact HQ.mid z3 z1 rfl
  ·obtain rfl := Option.some.inj H
   refine HQ.off rfl rfl hg4 rfl ?_
   refine HQ.off rfl rfl hg4 rfl ?_
   refine HQ.off rfl rfl hg4 rfl ?_
   refine pu (Pu.pickC0 hg4) z2 z3 ?_
   exact HQ.mid z3 z1 rfl
 refine pu Pu.move z1 z3 ?_
 obtain ⟨c12, h13, H⟩ := bnd H
 refine HQ.cutAt 6 [(19, .bool c12), (1, BP b1 0), (2, .bool false)] [(1, Box b1 [vI p0.X0, vI p0.Y0, vI p0.X1, vI p0.Y1])] ?_ ?_
 ·clear H
  have H := h13
  rcases brk H with ⟨hg9, H⟩ | ⟨hg9, H⟩
  ·refine HQ.on rfl rfl hg9 ?_
   refine pu (Pu.fieldB fo132_1 rfl) z1 z3 ?_
   refine HQ.on rfl rfl hg9 ?_
   refine op [1] [1] (OT.loadB sc3 rfl) z1 z1 z4 (fun _ => rfl) fun _ => ?_
   refine HQ.on rfl rfl hg9 ?_
   refine pu (Pu.fieldB fo132_3 rfl) z1 z3 ?_
   refine HQ.on rfl rfl hg9 ?_
   refine op [1] [1] (OT.loadB sc3 rfl) z1 z1 z4 (fun _ => rfl) fun _ => ?_
   refine HQ.on rfl rfl hg9 ?_
   obtain ⟨t10, h11, H⟩ := bnd H
   refine op [] [] (OT.call (us := [_, _, _]) (Pre := []) [.tmp 15, .const (vI 0), .tmp 17] Try.call83 rfl rfl fun w F hs hF hp => impl_in_c h11) z4 trivial z4 (fun _ => rfl) fun _ => ?_
   obtain rfl := Option.some.inj H
   refine pu (Pu.pickC1 hg9) z2 z3 ?_
   exact HQ.mid z3 z1 rfl
  ·obtain rfl := Option.some.inj H
   refine HQ.off rfl rfl hg9 rfl ?_
   refine HQ.off rfl rfl hg9 rfl ?_
   refine HQ.off rfl rfl hg9 rfl ?_
   refine HQ.off rfl rfl hg9 rfl ?_
   refine HQ.off rfl rfl hg9 rfl ?_
   refine pu (Pu.pickC0 hg9) z2 z3 ?_
   exact HQ.mid z3 z1 rfl
 refine pu Pu.move z1 z3 ?_
 obtain ⟨c17, h18, H⟩ := bnd H
 refine HQ.cutAt 4 [(24, .bool c17), (2, .bool false)] [(1, Box b1 [vI p0.X0, vI p0.Y0, vI p0.X1, vI p0.Y1])] ?_ ?_
 ·clear H
  have H := h18
  rcases brk H with ⟨hg14, H⟩ | ⟨hg14, H⟩
  ·refine HQ.on rfl rfl hg14 ?_
   refine pu (Pu.fieldB fo132_3 rfl) z1 z3 ?_
   refine HQ.on rfl rfl hg14 ?_
   refine op [1] [1] (OT.loadB sc3 rfl) z1 z1 z4 (fun _ => rfl) fun _ => ?_
   refine HQ.on rfl rfl hg14 ?_
   obtain ⟨t15, h16, H⟩ := bnd H
   refine op [] [] (OT.call (us := [_, _, _]) (Pre := []) [.tmp 22, .const (vI 0), .const (vI 255)] Try.call83 rfl rfl fun w F hs hF hp => impl_in_c h16) z4 trivial z4 (fun _ => rfl) fun _ => ?_
   obtain rfl := Option.some.inj H
   refine pu (Pu.pickC1 hg14) z2 z3 ?_
   exact HQ.mid z2 z1 rfl
  ·obtain rfl := Option.some.inj H
   refine HQ.off rfl rfl hg14 rfl ?_
   refine HQ.off rfl rfl hg14 rfl ?_
   refine HQ.off rfl rfl hg14 rfl ?_
   refine pu (Pu.pickC0 hg14) z2 z3 ?_
   exact HQ.mid z2 z1 rfl
 refine pu Pu.assign z1 z3 ?_
 refine HQ.done ?_
 refine HQ.keep [(2, _)] z1 ?_
 refine HQ.ret ?_
 obtain rfl := Option.some.inj H
 exact HQ.fin (vs := [_]) Try.results109 () z1 rfl [] trivial rfl

theorem impl_EntryAt_1_c {w : World} {p0 : TEntry} {q0 : Int} {β_q0 : Nat} {F0 : Fp} (hs0 : Sat [Box β_q0 [vI q0]] w.heap F0) (hF0 : ∀ b, F0 b → b < w.heap.size)  {r : Bool × Int} (H : impl_EntryAt_1 p0 q0 = some r) :
  Calls Try.prog 132 #[.agg #[vI p0.N, vI p0.R.X0, vI p0.R.Y0, vI p0.R.X1, vI p0.R.Y1], BP β_q0 0] w (Rt w F0 (fun _ : Unit => .bool r.1) (fun _ => [Box β_q0 [vI r.2]])) := by
 rw [impl_EntryAt_1] at H
 refine Calls.enter (N := 8) (us := [_, _]) (F0 := F0) (Γ0 := [(1, Box β_q0 [vI q0])]) Try.func132 rfl rfl rfl hs0 hF0 ?_
 refine HQ.rseq ?_
 refine op [] [2] (OT.box (cs := [vI p0.N, vI p0.R.X0, vI p0.R.Y0, vI p0.R.X1, vI p0.R.Y1]) rfl) z1 trivial z4 (fun _ => rfl) fun b1 => ?_
 refine pu Pu.assign z1 z3 ?_
 refine HQ.done ?_
 refine HQ.keep [(1, _), (2, _), (3, _)] z3 ?_
 refine HQ.rseq ?_
 refine pu (Pu.fieldB fo134_0 rfl) z1 z3 ?_
 refine op [2] [2] (OT.loadB sc3 rfl) z1 z1 z4 (fun _ => rfl) fun _ => ?_
 refine op [1] [1] (OT.loadB sc3 rfl) z1 z1 z4 (fun _ => rfl) fun _ => ?_
 refine pu Pu.eql z2 z3 ?_
 refine pu Pu.assign z1 z3 ?_
 refine HQ.done ?_
 refine HQ.keep [(3, _)] z1 ?_
 refine HQ.ret ?_
 obtain rfl := Option.some.inj H
 exact HQ.fin (vs := [_]) Try.results132 () z1 rfl [1] z1 rfl

theorem slices_IndexFunc_impl_Entry_impl_Entry_impl_EntryAt_1_c {w : World} {k : Nat} {p0 : (List TEntry)} {p1_0 : Int} {a_0 : Option Addr} {c_0 : Nat} {β_1_0 : Nat} {F0 : Fp} (hs0 : Sat [Box β_1_0 [vI p1_0]] w.heap F0) (hF0 : ∀ b, F0 b → b < w.heap.size) (hb_0 : BorS kTEntry a_0 c_0 p0 w.heap (Lt w F0)) {r : Int × Int} (H : slices_IndexFunc_impl_Entry_impl_Entry_impl_EntryAt_1 k p0 p1_0 = some r) :
  Calls Try.prog 131 #[vS a_0 p0 c_0, .func (.func 132) #[] #[BP β_1_0 0]] w (Rt w F0 (fun _ : Unit => vI r.1) (fun _ => [Box β_1_0 [vI r.2]])) := by
 rw [slices_IndexFunc_impl_Entry_impl_Entry_impl_EntryAt_1] at H
 refine Calls.enter (N := 19) (us := [_, _]) (F0 := F0) (Γ0 := [(1, Box β_1_0 [vI p1_0])]) Try.func131 rfl rfl rfl hs0 hF0 ?_
 refine HQ.rseq ?_
 refine pu Pu.assign z1 z3 ?_
 refine HQ.done ?_
 refine HQ.keep [(0, _), (1, _), (4, _)] z3 ?_
 refine HQ.seq ?_
 refine HQ.rseq ?_
 refine pu Pu.move z1 z3 ?_
 refine pu (Pu.len ul45) z1 z3 ?_
 refine pu Pu.move z1 z3 ?_
 refine HQ.done ?_
 refine HQ.keep [(0, _), (1, _), (4, _), (7, _), (8, _)] z5 ?_
 refine HQ.block ?_
 obtain ⟨o12, h15, H⟩ := bnd H
 refine HQ.loop h15 0 (fun (s : Int × Int) (g : Unit) => match s, g with | (i4, i5), () => [(0, vS a_0 p0 c_0), (1, .func (.func 132) #[] #[BP β_1_0 0]), (4, vI 0), (7, vI ((List.length p0 : Nat) : Int)), (8, vI i4)]) (fun (s : Int × Int) (g : Unit) => match s, g with | (i4, i5), () => [(1, Box β_1_0 [vI i5])]) (fun r => bodyPost Try.prog Try.f131 (Rt w F0 (fun _ : Unit => vI r.1) (fun _ => [Box β_1_0 [vI r.2]])) .ret) () z5 z1 rfl ?_ ?_ ?_
 ·clear H h15
  rintro ⟨i4, i5⟩ _ o H
  rw [slices_IndexFunc_impl_Entry_impl_Entry_impl_EntryAt_1_b0] at H
  refine HQ.keep [(0, _), (1, _), (4, _), (7, _), (8, _)] z5 ?_
  refine HQ.keepR [(1, _)] z1 rfl ?_
  refine HQ.rseq ?_
  refine pu Pu.lss z2 z3 ?_
  refine HQ.done ?_
  refine HQ.keep [(0, _), (1, _), (4, _), (7, _), (8, _), (9, _)] z6 ?_
  refine HQ.seq ?_
  rcases brk H with ⟨hc, H⟩ | ⟨hc, H⟩
  ·refine HQ.condT rfl hc ?_
   clear hc
   refine HQ.skipThen ?_
   refine HQ.seq ?_
   refine HQ.block ?_
   refine HQ.rseq ?_
   refine pu Pu.move z1 z3 ?_
   refine pu Pu.assign z1 z3 ?_
   refine HQ.done ?_
   refine HQ.keep [(0, _), (1, _), (4, _), (7, _), (8, _), (5, _)] z6 ?_
   refine HQ.rseq ?_
   refine pu Pu.move z1 z3 ?_
   refine pu Pu.move z1 z3 ?_
   refine pu Pu.move z1 z3 ?_
   obtain ⟨h9, H⟩ := asr H
   refine op [] [] (OT.indexB ul45 sz134 hb_0 h9) z2 trivial z4 (fun _ => rfl) fun _ => ?_
   refine op [] [] (OT.loadFA (vs := [vI ((gt p0 i4).N), vI ((gt p0 i4).R.X0), vI ((gt p0 i4).R.Y0), vI ((gt p0 i4).R.X1), vI ((gt p0 i4).R.Y1)]) ag134 sz134 hb_0 h9 rfl rfl) z1 trivial z4 (fun _ => rfl) fun _ => ?_
   obtain ⟨t10, h11, H⟩ := bnd H
   refine op [1] [1] (OT.callV (us := [.agg #[vI ((gt p0 i4).N), vI ((gt p0 i4).R.X0), vI ((gt p0 i4).R.Y0), vI ((gt p0 i4).R.X1), vI ((gt p0 i4).R.Y1)]]) (cap := #[BP β_1_0 0]) (all := #[.agg #[vI ((gt p0 i4).N), vI ((gt p0 i4).R.X0), vI ((gt p0 i4).R.Y0), vI ((gt p0 i4).R.X1), vI ((gt p0 i4).R.Y1)], BP β_1_0 0]) (PreX := [Box β_1_0 [vI i5]]) (PreL := []) [.tmp 15] Try.call132 rfl rfl rfl fun w FX FL hs1 hF1 hs2 hF2 hp => impl_EntryAt_1_c (p0 := (gt p0 i4)) (q0 := i5) hs1 hF1 h11) z2 z1 z4 (fun _ => rfl) fun _ => ?_
   refine HQ.done ?_
   refine HQ.keep [(0, _), (1, _), (4, _), (7, _), (8, _), (5, _), (16, _)] z7 ?_
   rcases brk H with ⟨hc, H⟩ | ⟨hc, H⟩
   ·refine HQ.condT rfl hc ?_
    clear hc
    refine HQ.rseq ?_
    refine pu Pu.move z1 z3 ?_
    refine pu Pu.assign z1 z3 ?_
    refine HQ.done ?_
    refine HQ.keep [(0, _), (1, _), (4, _), (7, _), (8, _)] z5 ?_
    refine HQ.ret ?_
    refine HQ.blkR ?_
    refine HQ.thenR ?_
    obtain rfl := Option.some.inj H
    refine HQ.retL ?_
    exact HQ.fin (vs := [_]) Try.results131 () z1 rfl [1] z1 rfl
   ·refine HQ.condF rfl hc ?_
    clear hc
    refine HQ.skip ?_
    refine HQ.blkN ?_
    refine HQ.thenN ?_
    refine HQ.regionQ ?_
    refine pu Pu.add z2 z3 ?_
    refine pu Pu.move z1 z3 ?_
    refine HQ.done ?_
    refine HQ.keep [(0, _), (1, _), (4, _), (7, _), (8, _)] z5 ?_
    obtain rfl := Option.some.inj H
    exact HQ.next () z5 z1 rfl
  ·refine HQ.condF rfl hc ?_
   clear hc
   refine HQ.exit ?_
   refine HQ.thenE ?_
   obtain rfl := Option.some.inj H
   exact HQ.out () z5 z1 rfl
 ·rintro ⟨i13, i14⟩ rfl _
  clear h15
  replace H := H
  refine HQ.keep [(0, _), (1, _), (4, _), (7, _), (8, _)] z5 ?_
  refine HQ.keepR [(1, _)] z1 rfl ?_
  refine HQ.blkE ?_
  refine HQ.thenN ?_
  refine HQ.rseq ?_
  refine pu Pu.assign z1 z3 ?_
  refine HQ.done ?_
  refine HQ.keep [(4, _)] z1 ?_
  refine HQ.ret ?_
  obtain rfl := Option.some.inj H
  exact HQ.fin (vs := [_]) Try.results131 () z1 rfl [1] z1 rfl
 ·rintro r rfl a w hr
  obtain rfl := Option.some.inj H
  exact hr

theorem impl_EntryAt_c {w : World} {k : Nat} {p0 : (List TEntry)} {p1 : Int} {a_0 : Option Addr} {c_0 : Nat} (hb_0 : BorS kTEntry a_0 c_0 p0 w.heap (Lt w Nil)) {r : Int} (H : impl_EntryAt k p0 p1 = some r) :
  Calls Try.prog 110 #[vS a_0 p0 c_0, vI p1] w (Rt w Nil (fun _ : Unit => vI r) (fun _ => [])) := by
 rw [impl_EntryAt] at H
 refine Calls.enter0 (N := 8) (us := [_, _]) Try.func110 rfl rfl rfl ?_
 refine HQ.rseq ?_
 refine op [] [1] (OT.box (cs := [vI p1]) rfl) z1 trivial z4 (fun _ => rfl) fun b1 => ?_
 refine pu Pu.assign z1 z3 ?_
 refine HQ.done ?_
 refine HQ.keep [(0, _), (3, _), (4, _)] z3 ?_
 refine HQ.rseq ?_
 refine pu Pu.move z1 z3 ?_
 refine pu (Pu.makeFunc (us := [BP b1 0]) [.tmp 3] rfl rfl) z1 z3 ?_
 obtain ⟨t2, h3, H⟩ := bnd H
 refine op [1] [1] (OT.callM (us := [_, _]) (PreX := [Box b1 [vI p1]]) (PreL := []) [.tmp 5, .tmp 6] Try.call131 rfl rfl fun w FX FL hs1 hF1 hs2 hF2 hp => slices_IndexFunc_impl_Entry_impl_Entry_impl_EntryAt_1_c (p0 := p0) (p1_0 := p1) hs1 hF1 (hb_0.passY hp) h3) z3 z1 z4 (fun _ => rfl) fun _ => ?_
 refine pu Pu.assign z1 z3 ?_
 refine HQ.done ?_
 refine HQ.keep [(4, _)] z1 ?_
 refine HQ.ret ?_
 obtain rfl := Option.some.inj H
 exact HQ.fin (vs := [_]) Try.results110 () z1 rfl [] trivial rfl

theorem impl_NodeOk_c {w : World} {k : Nat} {p0 : TNode} {a_0 : Option Addr} {c_0 : Nat} (hb_0 : BorS kTEntry a_0 c_0 p0.L w.heap (Lt w Nil)) {r : Bool} (H : impl_NodeOk k p0 = some r) :
  Calls Try.prog 38 #[.agg #[.bool p0.Leaf, vS a_0 p0.L c_0]] w (Rt w Nil (fun _ : Unit => .bool r) (fun _ => [])) := by
 rw [impl_NodeOk] at H
 refine Calls.enter0 (N := 63) (us := [_]) Try.func38 rfl rfl rfl ?_
 refine HQ.rseq ?_
 refine op [] [1] (OT.box (cs := [.bool p0.Leaf, vS a_0 p0.L c_0]) rfl) z1 trivial z4 (fun _ => rfl) fun b1 => ?_
 refine pu Pu.assign z1 z3 ?_
 refine HQ.done ?_
 refine HQ.keep [(1, _), (2, _)] z2 ?_
 refine HQ.seq ?_
 refine HQ.rseq ?_
 refine pu (Pu.fieldB fo47_1 rfl) z1 z3 ?_
 refine op [1] [1] (OT.loadB sc45 rfl) z1 z1 z4 (fun _ => rfl) fun _ => ?_
 refine pu (Pu.len ul45) z1 z3 ?_
 refine pu Pu.gtr z2 z3 ?_
 refine pu Pu.move z1 z3 ?_
 refine HQ.cutAt 10 [(19, .bool ((decide (((List.length p0.L : Nat) : Int) > 4)) || ((!p0.Leaf) && (decide (((List.length p0.L : Nat) : Int) = 0))))), (1, BP b1 0), (2, .bool false)] [(1, Box b1 [.bool p0.Leaf, vS a_0 p0.L c_0])] ?_ ?_
 ·rcases Bool.eq_false_or_eq_true (decide (((List.length p0.L : Nat) : Int) > 4)) with hg2 | hg2
  ·refine HQ.off rfl rfl hg2 rfl ?_
   refine HQ.off rfl rfl hg2 rfl ?_
   refine HQ.off rfl rfl hg2 rfl ?_
   refine HQ.off rfl rfl hg2 rfl ?_
   refine HQ.offU rfl rfl rfl ?_
   refine HQ.offU rfl rfl rfl ?_
   refine HQ.offU rfl rfl rfl ?_
   refine HQ.offU rfl rfl rfl ?_
   refine HQ.off rfl rfl hg2 rfl ?_
   refine pu (Pu.pickOT (u := ((!p0.Leaf) && (decide (((List.length p0.L : Nat) : Int) = 0)))) hg2) z2 z3 ?_
   exact HQ.mid z3 z1 rfl
  ·refine HQ.on rfl rfl hg2 ?_
   refine pu (Pu.fieldB fo47_0 rfl) z1 z3 ?_
   refine HQ.on rfl rfl hg2 ?_
   refine op [1] [1] (OT.loadB sc4 rfl) z1 z1 z4 (fun _ => rfl) fun _ => ?_
   refine HQ.on rfl rfl hg2 ?_
   refine pu Pu.not z1 z3 ?_
   refine HQ.on rfl rfl hg2 ?_
   refine pu Pu.move z1 z3 ?_
   refine HQ.cutAt 5 [(18, .bool ((!p0.Leaf) && (decide (((List.length p0.L : Nat) : Int) = 0)))), (1, BP b1 0), (2, .bool false), (9, .bool (decide (((List.length p0.L : Nat) : Int) > 4)))] [(1, Box b1 [.bool p0.Leaf, vS a_0 p0.L c_0])] ?_ ?_
   ·rcases Bool.eq_false_or_eq_true (!p0.Leaf) with hg3 | hg3
    ·refine HQ.on rfl rfl hg3 ?_
     refine pu (Pu.fieldB fo47_1 rfl) z1 z3 ?_
     refine HQ.on rfl rfl hg3 ?_
     refine op [1] [1] (OT.loadB sc45 rfl) z1 z1 z4 (fun _ => rfl) fun _ => ?_
     refine HQ.on rfl rfl hg3 ?_
     refine pu (Pu.len ul45) z1 z3 ?_
     refine HQ.on rfl rfl hg3 ?_
     refine pu Pu.eql z2 z3 ?_
     refine HQ.on rfl rfl hg2 ?_
     refine pu (Pu.pickAT hg3) z2 z3 ?_
     exact HQ.mid z4 z1 rfl
    ·refine HQ.off rfl rfl hg3 rfl ?_
     refine HQ.off rfl rfl hg3 rfl ?_
     refine HQ.off rfl rfl hg3 rfl ?_
     refine HQ.off rfl rfl hg3 rfl ?_
     refine HQ.on rfl rfl hg2 ?_
     refine pu (Pu.pickAF (u := (decide (((List.length p0.L : Nat) : Int) = 0))) hg3) z2 z3 ?_
     exact HQ.mid z4 z1 rfl
   refine pu (Pu.pickOF hg2) z2 z3 ?_
   exact HQ.mid z3 z1 rfl
 refine HQ.done ?_
 refine HQ.keep [(19, _), (1, _), (2, _)] z3 ?_
 rcases brk H with ⟨hc, H⟩ | ⟨hc, H⟩
 ·refine HQ.condT rfl hc ?_
  clear hc
  refine HQ.rseq ?_
  refine pu Pu.assign z1 z3 ?_
  refine HQ.done ?_
  refine HQ.keep [(1, _), (2, _)] z2 ?_
  refine HQ.ret ?_
  refine HQ.thenR ?_
  obtain rfl := Option.some.inj H
  exact HQ.fin (vs := [_]) Try.results38 () z1 rfl [] trivial rfl
 ·refine HQ.condF rfl hc ?_
  clear hc
  refine HQ.skipThen ?_
  refine HQ.seq ?_
  refine HQ.rseq ?_
  refine pu (Pu.fieldB fo47_1 rfl) z1 z3 ?_
  refine op [1] [1] (OT.loadB sc45 rfl) z1 z1 z4 (fun _ => rfl) fun _ => ?_
  refine pu (Pu.len ul45) z1 z3 ?_
  refine pu Pu.move z1 z3 ?_
  refine HQ.done ?_
  refine HQ.keep [(1, _), (2, _), (21, _), (22, _), (23, _)] z5 ?_
  refine HQ.block ?_
  obtain ⟨o80, h82, H⟩ := bnd H
  refine HQ.loop h82 0 (fun (s : Int) (g : Unit) => match s, g with | i29, () => [(1, BP b1 0), (2, .bool false), (21, vS a_0 p0.L c_0), (22, vI ((List.length p0.L : Nat) : Int)), (23, vI i29)]) (fun (s : Int) (g : Unit) => match s, g with | i29, () => [(1, Box b1 [.bool p0.Leaf, vS a_0 p0.L c_0])]) (fun r => bodyPost Try.prog Try.f38 (Rt w Nil (fun _ : Unit => .bool r) (fun _ => [])) .ret) () z5 z1 rfl ?_ ?_ ?_
  ·clear H h82
   rintro i29 _ o H
   rw [impl_NodeOk_b0] at H
   refine HQ.keep [(1, _), (2, _), (21, _), (22, _), (23, _)] z5 ?_
   refine HQ.keepR [(1, _)] z1 rfl ?_
   refine HQ.rseq ?_
   refine pu Pu.lss z2 z3 ?_
   refine HQ.done ?_
   refine HQ.keep [(1, _), (2, _), (21, _), (22, _), (23, _), (24, _)] z6 ?_
   refine HQ.seq ?_
   rcases brk H with ⟨hc, H⟩ | ⟨hc, H⟩
   ·refine HQ.condT rfl hc ?_
    clear hc
    refine HQ.skipThen ?_
    refine HQ.seq ?_
    refine HQ.block ?_
    refine HQ.rseq ?_
    refine pu Pu.move z1 z3 ?_
    obtain ⟨h55, H⟩ := asr H
    refine op [] [] (OT.indexB ul45 sz134 hb_0 h55) z2 trivial z4 (fun _ => rfl) fun _ => ?_
    refine op [] [] (OT.loadFA (vs := [vI ((gt p0.L i29).N), vI ((gt p0.L i29).R.X0), vI ((gt p0.L i29).R.Y0), vI ((gt p0.L i29).R.X1), vI ((gt p0.L i29).R.Y1)]) ag134 sz134 hb_0 h55 rfl rfl) z1 trivial z4 (fun _ => rfl) fun _ => ?_
    refine op [] [4] (OT.alloc zc134) trivial trivial z4 (fun _ => rfl) fun b56 => ?_
    refine pu Pu.assign z1 z3 ?_
    refine HQ.opN [4] [4] [] (OT.storeC (cs' := [vI ((gt p0.L i29).N), vI ((gt p0.L i29).R.X0), vI ((gt p0.L i29).R.Y0), vI ((gt p0.L i29).R.X1), vI ((gt p0.L i29).R.Y1)]) sz134 rfl rfl rfl rfl rfl) z2 z1 rfl rfl rfl (fun _ => rfl) fun _ => ?_
    refine HQ.done ?_
    refine HQ.keep [(1, _), (2, _), (21, _), (22, _), (23, _), (4, _), (3, _)] z7 ?_
    refine HQ.rseq ?_
    refine pu (Pu.fieldB fo47_0 rfl) z1 z3 ?_
    refine op [1] [1] (OT.loadB sc4 rfl) z1 z1 z4 (fun _ => rfl) fun _ => ?_
    refine pu Pu.move z1 z3 ?_
    obtain ⟨c60, h61, H⟩ := bnd H
    refine HQ.cutAt 5 [(35, .bool c60), (1, BP b1 0), (2, .bool false), (21, vS a_0 p0.L c_0), (22, vI ((List.length p0.L : Nat) : Int)), (23, vI i29), (4, BP b56 0), (3, vI i29)] [(1, Box b1 [.bool p0.Leaf, vS a_0 p0.L c_0]), (4, Box b56 [vI ((gt p0.L i29).N), vI ((gt p0.L i29).R.X0), vI ((gt p0.L i29).R.Y0), vI ((gt p0.L i29).R.X1), vI ((gt p0.L i29).R.Y1)])] ?_ ?_
    ·clear H
     have H := h61
     rcases brk H with ⟨hg57, H⟩ | ⟨hg57, H⟩
     ·refine HQ.on rfl rfl hg57 ?_
      refine pu (Pu.fieldB fo134_0 rfl) z1 z3 ?_
      refine HQ.on rfl rfl hg57 ?_
      refine op [4] [4] (OT.loadB sc3 rfl) z1 z1 z4 (fun _ => rfl) fun _ => ?_
      refine HQ.on rfl rfl hg57 ?_
      obtain ⟨t58, h59, H⟩ := bnd H
      refine op [] [] (OT.call (us := [_, _, _]) (Pre := []) [.tmp 32, .const (vI 1), .const (vI 999)] Try.call83 rfl rfl fun w F hs hF hp => impl_in_c h59) z4 trivial z4 (fun _ => rfl) fun _ => ?_
      refine HQ.on rfl rfl hg57 ?_
      refine pu Pu.not z1 z3 ?_
      obtain rfl := Option.some.inj H
      refine pu (Pu.pickC1 hg57) z2 z3 ?_
      exact HQ.mid z8 z2 rfl
     ·obtain rfl := Option.some.inj H
      refine HQ.off rfl rfl hg57 rfl ?_
      refine HQ.off rfl rfl hg57 rfl ?_
      refine HQ.off rfl rfl hg57 rfl ?_
      refine HQ.off rfl rfl hg57 rfl ?_
      refine pu (Pu.pickC0 hg57) z2 z3 ?_
      exact HQ.mid z8 z2 rfl
    refine pu Pu.move z1 z3 ?_
    obtain ⟨c68, h69, H⟩ := bnd H
    refine HQ.cutAt 10 [(46, .bool c68), (1, BP b1 0), (2, .bool false), (21, vS a_0 p0.L c_0), (22, vI ((List.length p0.L : Nat) : Int)), (23, vI i29), (4, BP b56 0), (3, vI i29)] [(1, Box b1 [.bool p0.Leaf, vS a_0 p0.L c_0]), (4, Box b56 [vI ((gt p0.L i29).N), vI ((gt p0.L i29).R.X0), vI ((gt p0.L i29).R.Y0), vI ((gt p0.L i29).R.X1), vI ((gt p0.L i29).R.Y1)])] ?_ ?_
    ·clear H
     have H := h69
     rcases brk H with ⟨hg62, H⟩ | ⟨hg62, H⟩
     ·obtain rfl := Option.some.inj H
      refine HQ.off rfl rfl hg62 rfl ?_
      refine HQ.off rfl rfl hg62 rfl ?_
      refine HQ.off rfl rfl hg62 rfl ?_
      refine HQ.off rfl rfl hg62 rfl ?_
      refine HQ.offU rfl rfl rfl ?_
      refine HQ.offU rfl rfl rfl ?_
      refine HQ.offU rfl rfl rfl ?_
      refine HQ.offU rfl rfl rfl ?_
      refine HQ.off rfl rfl hg62 rfl ?_
      refine pu (Pu.pickC1 hg62) z2 z3 ?_
      exact HQ.mid z8 z2 rfl
     ·refine HQ.on rfl rfl hg62 ?_
      refine pu (Pu.fieldB fo47_0 rfl) z1 z3 ?_
      refine HQ.on rfl rfl hg62 ?_
      refine op [1] [1] (OT.loadB sc4 rfl) z1 z1 z4 (fun _ => rfl) fun _ => ?_
      refine HQ.on rfl rfl hg62 ?_
      refine pu Pu.not z1 z3 ?_
      refine HQ.on rfl rfl hg62 ?_
      refine pu Pu.move z1 z3 ?_
      obtain ⟨c66, h67, H⟩ := bnd H
      refine HQ.cutAt 5 [(45, .bool c66), (1, BP b1 0), (2, .bool false), (21, vS a_0 p0.L c_0), (22, vI ((List.length p0.L : Nat) : Int)), (23, vI i29), (4, BP b56 0), (3, vI i29), (36, .bool c60), (37, BP b1 0), (38, .bool p0.Leaf), (39, .bool (!p0.Leaf)), (40, .bool (!p0.Leaf))] [(1, Box b1 [.bool p0.Leaf, vS a_0 p0.L c_0]), (4, Box b56 [vI ((gt p0.L i29).N), vI ((gt p0.L i29).R.X0), vI ((gt p0.L i29).R.Y0), vI ((gt p0.L i29).R.X1), vI ((gt p0.L i29).R.Y1)])] ?_ ?_
      ·clear H
       have H := h67
       rcases brk H with ⟨hg63, H⟩ | ⟨hg63, H⟩
       ·refine HQ.on rfl rfl hg63 ?_
        refine pu (Pu.fieldB fo134_0 rfl) z1 z3 ?_
        refine HQ.on rfl rfl hg63 ?_
        refine op [4] [4] (OT.loadB sc3 rfl) z1 z1 z4 (fun _ => rfl) fun _ => ?_
        refine HQ.on rfl rfl hg63 ?_
        obtain ⟨t64, h65, H⟩ := bnd H
        refine op [] [] (OT.call (us := [_, _, _]) (Pre := []) [.tmp 42, .const (vI 0), .const (vI 47)] Try.call83 rfl rfl fun w F hs hF hp => impl_in_c h65) z4 trivial z4 (fun _ => rfl) fun _ => ?_
        refine HQ.on rfl rfl hg63 ?_
        refine pu Pu.not z1 z3 ?_
        obtain rfl := Option.some.inj H
        refine HQ.on rfl rfl hg62 ?_
        refine pu (Pu.pickC1 hg63) z2 z3 ?_
        exact HQ.mid z13 z2 rfl
       ·obtain rfl := Option.some.inj H
        refine HQ.off rfl rfl hg63 rfl ?_
        refine HQ.off rfl rfl hg63 rfl ?_
        refine HQ.off rfl rfl hg63 rfl ?_
        refine HQ.off rfl rfl hg63 rfl ?_
        refine HQ.on rfl rfl hg62 ?_
        refine pu (Pu.pickC0 hg63) z2 z3 ?_
        exact HQ.mid z13 z2 rfl
      obtain rfl := Option.some.inj H
      refine pu (Pu.pickC0 hg62) z2 z3 ?_
      exact HQ.mid z8 z2 rfl
    refine pu Pu.move z1 z3 ?_
    obtain ⟨c73, h74, H⟩ := bnd H
    refine HQ.cutAt 5 [(52, .bool c73), (1, BP b1 0), (2, .bool false), (21, vS a_0 p0.L c_0), (22, vI ((List.length p0.L : Nat) : Int)), (23, vI i29), (4, BP b56 0), (3, vI i29)] [(1, Box b1 [.bool p0.Leaf, vS a_0 p0.L c_0]), (4, Box b56 [vI ((gt p0.L i29).N), vI ((gt p0.L i29).R.X0), vI ((gt p0.L i29).R.Y0), vI ((gt p0.L i29).R.X1), vI ((gt p0.L i29).R.Y1)])] ?_ ?_
    ·clear H
     have H := h74
     rcases brk H with ⟨hg70, H⟩ | ⟨hg70, H⟩
     ·obtain rfl := Option.some.inj H
      refine HQ.off rfl rfl hg70 rfl ?_
      refine HQ.off rfl rfl hg70 rfl ?_
      refine HQ.off rfl rfl hg70 rfl ?_
      refine HQ.off rfl rfl hg70 rfl ?_
      refine pu (Pu.pickC1 hg70) z2 z3 ?_
      exact HQ.mid z8 z2 rfl
     ·refine HQ.on rfl rfl hg70 ?_
      refine pu (Pu.fieldB fo134_1 rfl) z1 z3 ?_
      refine HQ.on rfl rfl hg70 ?_
      refine op [4] [4] (OT.loadBA (vs := [vI ((gt p0.L i29).R.X0), vI ((gt p0.L i29).R.Y0), vI ((gt p0.L i29).R.X1), vI ((gt p0.L i29).R.Y1)]) ag132 sz132 rfl rfl) z1 z1 z4 (fun _ => rfl) fun _ => ?_
      refine HQ.on rfl rfl hg70 ?_
      obtain ⟨t71, h72, H⟩ := bnd H
      refine op [] [] (OT.call (us := [_]) (Pre := []) [.tmp 49] Try.call109 rfl rfl fun w F hs hF hp => impl_BoxOk_c h72) z2 trivial z4 (fun _ => rfl) fun _ => ?_
      refine HQ.on rfl rfl hg70 ?_
      refine pu Pu.not z1 z3 ?_
      obtain rfl := Option.some.inj H
      refine pu (Pu.pickC0 hg70) z2 z3 ?_
      exact HQ.mid z8 z2 rfl
    refine pu Pu.move z1 z3 ?_
    obtain ⟨c78, h79, H⟩ := bnd H
    refine HQ.cutAt 8 [(61, .bool c78), (1, BP b1 0), (2, .bool false), (21, vS a_0 p0.L c_0), (22, vI ((List.length p0.L : Nat) : Int)), (23, vI i29)] [(1, Box b1 [.bool p0.Leaf, vS a_0 p0.L c_0]), (4, Box b56 [vI ((gt p0.L i29).N), vI ((gt p0.L i29).R.X0), vI ((gt p0.L i29).R.Y0), vI ((gt p0.L i29).R.X1), vI ((gt p0.L i29).R.Y1)])] ?_ ?_
    ·clear H
     have H := h79
     rcases brk H with ⟨hg75, H⟩ | ⟨hg75, H⟩
     ·obtain rfl := Option.some.inj H
      refine HQ.off rfl rfl hg75 rfl ?_
      refine HQ.off rfl rfl hg75 rfl ?_
      refine HQ.off rfl rfl hg75 rfl ?_
      refine HQ.off rfl rfl hg75 rfl ?_
      refine HQ.off rfl rfl hg75 rfl ?_
      refine HQ.off rfl rfl hg75 rfl ?_
      refine HQ.off rfl rfl hg75 rfl ?_
      refine pu (Pu.pickC1 hg75) z2 z3 ?_
      exact HQ.mid z6 z2 rfl
     ·refine HQ.on rfl rfl hg75 ?_
      refine pu (Pu.fieldB fo47_1 rfl) z1 z3 ?_
      refine HQ.on rfl rfl hg75 ?_
      refine op [1] [1] (OT.loadB sc45 rfl) z1 z1 z4 (fun _ => rfl) fun _ => ?_
      refine HQ.on rfl rfl hg75 ?_
      refine pu (Pu.fieldB fo134_0 rfl) z1 z3 ?_
      refine HQ.on rfl rfl hg75 ?_
      refine op [4] [4] (OT.loadB sc3 rfl) z1 z1 z4 (fun _ => rfl) fun _ => ?_
      refine HQ.on rfl rfl hg75 ?_
      obtain ⟨t76, h77, H⟩ := bnd H
      refine op [] [] (OT.call (us := [_, _]) (Pre := []) [.tmp 55, .tmp 57] Try.call110 rfl rfl fun w F hs hF hp => impl_EntryAt_c (hb_0.pass hp) h77) z3 trivial z4 (fun _ => rfl) fun _ => ?_
      refine HQ.on rfl rfl hg75 ?_
      refine pu Pu.move z1 z3 ?_
      refine HQ.on rfl rfl hg75 ?_
      refine pu Pu.neq z2 z3 ?_
      obtain rfl := Option.some.inj H
      refine pu (Pu.pickC0 hg75) z2 z3 ?_
      exact HQ.mid z6 z2 rfl
    refine HQ.done ?_
    refine HQ.keep [(61, _), (1, _), (2, _), (21, _), (22, _), (23, _)] z6 ?_
    rcases brk H with ⟨hc, H⟩ | ⟨hc, H⟩
    ·refine HQ.condT rfl hc ?_
     clear hc
     refine HQ.rseq ?_
     refine pu Pu.assign z1 z3 ?_
     refine HQ.done ?_
     refine HQ.keep [(1, _), (2, _), (21, _), (22, _), (23, _)] z5 ?_
     refine HQ.ret ?_
     refine HQ.blkR ?_
     refine HQ.thenR ?_
     obtain rfl := Option.some.inj H
     refine HQ.retL ?_
     exact HQ.fin (vs := [_]) Try.results38 () z1 rfl [] trivial rfl
    ·refine HQ.condF rfl hc ?_
     clear hc
     refine HQ.skip ?_
     refine HQ.blkN ?_
     refine HQ.thenN ?_
     refine HQ.regionQ ?_
     refine pu Pu.add z2 z3 ?_
     refine pu Pu.move z1 z3 ?_
     refine HQ.done ?_
     refine HQ.keep [(1, _), (2, _), (21, _), (22, _), (23, _)] z5 ?_
     obtain rfl := Option.some.inj H
     exact HQ.next () z5 z1 rfl
   ·refine HQ.condF rfl hc ?_
    clear hc
    refine HQ.exit ?_
    refine HQ.thenE ?_
    obtain rfl := Option.some.inj H
    exact HQ.out () z5 z1 rfl
  ·rintro i81 rfl _
   clear h82
   replace H := H
   refine HQ.keep [(1, _), (2, _), (21, _), (22, _), (23, _)] z5 ?_
   refine HQ.keepR [(1, _)] z1 rfl ?_
   refine HQ.blkE ?_
   refine HQ.thenN ?_
   refine HQ.rseq ?_
   refine pu Pu.assign z1 z3 ?_
   refine HQ.done ?_
   refine HQ.keep [(2, _)] z1 ?_
   refine HQ.ret ?_
   obtain rfl := Option.some.inj H
   exact HQ.fin (vs := [_]) Try.results38 () z1 rfl [] trivial rfl
  ·rintro r rfl a w hr
   obtain rfl := Option.some.inj H
   exact hr

theorem impl_Tx_numbersOk_c {w : World} {p0 : TTx} {a_0 : Option Addr} {c_0 : Nat}  {r : Bool} (H : impl_Tx_numbersOk p0 = some r) :
  Calls Try.prog 104 #[.agg #[vI p0.Seq, vI p0.Root, vI p0.Size, vS a_0 p0.Puts c_0]] w (Rt w Nil (fun _ : Unit => .bool r) (fun _ => [])) := by
 rw [impl_Tx_numbersOk] at H
 refine Calls.enter0 (N := 19) (us := [_]) Try.func104 rfl rfl rfl ?_
 refine HQ.rseq ?_
 refine op [] [1] (OT.box (cs := [vI p0.Seq, vI p0.Root, vI p0.Size, vS a_0 p0.Puts c_0]) rfl) z1 trivial z4 (fun _ => rfl) fun b1 => ?_
 refine pu Pu.assign z1 z3 ?_
 refine HQ.done ?_
 refine HQ.keep [(1, _), (2, _)] z2 ?_
 refine HQ.rseq ?_
 refine pu (Pu.fieldB fo57_0 rfl) z1 z3 ?_
 refine op [1] [1] (OT.loadB sc3 rfl) z1 z1 z4 (fun _ => rfl) fun _ => ?_
 obtain ⟨t2, h3, H⟩ := bnd H
 refine op [] [] (OT.call (us := [_, _, _]) (Pre := []) [.tmp 4, .const (vI 1), .const (vI 65535)] Try.call83 rfl rfl fun w F hs hF hp => impl_in_c h3) z4 trivial z4 (fun _ => rfl) fun _ => ?_
 refine pu Pu.move z1 z3 ?_
 obtain ⟨c7, h8, H⟩ := bnd H
 refine HQ.cutAt 4 [(10, .bool c7), (1, BP b1 0), (2, .bool false)] [(1, Box b1 [vI p0.Seq, vI p0.Root, vI p0.Size, vS a_0 p0.Puts c_0])] ?_ ?_
 ·clear H
  have H := h8
  rcases brk H with ⟨hg4, H⟩ | ⟨hg4, H⟩
  ·refine HQ.on rfl rfl hg4 ?_
   refine pu (Pu.fieldB fo57_2 rfl) z1 z3 ?_
   refine HQ.on rfl rfl hg4 ?_
   refine op [1] [1] (OT.loadB sc3 rfl) z1 z1 z4 (fun _ => rfl) fun _ => ?_
   refine HQ.on rfl rfl hg4 ?_
   obtain ⟨t5, h6, H⟩ := bnd H
   refine op [] [] (OT.call (us := [_, _, _]) (Pre := []) [.tmp 8, .const (vI 1), .const (vI 48)] Try.call83 rfl rfl fun w F hs hF hp => impl_in_c h6) z4 trivial z4 (fun _ => rfl) fun _ => ?_
   obtain rfl := Option.some.inj H
   refine pu (Pu.pickC1 hg4) z2 z3 ?_
   exact HQ.mid z3 z1 rfl
  ·obtain rfl := Option.some.inj H
   refine HQ.off rfl rfl hg4 rfl ?_
   refine HQ.off rfl rfl hg4 rfl ?_
   refine HQ.off rfl rfl hg4 rfl ?_
   refine pu (Pu.pickC0 hg4) z2 z3 ?_
   exact HQ.mid z3 z1 rfl
 refine pu Pu.move z1 z3 ?_
 obtain ⟨c12, h13, H⟩ := bnd H
 refine HQ.cutAt 7 [(18, .bool c12), (2, .bool false)] [(1, Box b1 [vI p0.Seq, vI p0.Root, vI p0.Size, vS a_0 p0.Puts c_0])] ?_ ?_
 ·clear H
  have H := h13
  rcases brk H with ⟨hg9, H⟩ | ⟨hg9, H⟩
  ·refine HQ.on rfl rfl hg9 ?_
   refine pu (Pu.fieldB fo57_1 rfl) z1 z3 ?_
   refine HQ.on rfl rfl hg9 ?_
   refine op [1] [1] (OT.loadB sc3 rfl) z1 z1 z4 (fun _ => rfl) fun _ => ?_
   refine HQ.on rfl rfl hg9 ?_
   refine pu (Pu.fieldB fo57_2 rfl) z1 z3 ?_
   refine HQ.on rfl rfl hg9 ?_
   refine op [1] [1] (OT.loadB sc3 rfl) z1 z1 z4 (fun _ => rfl) fun _ => ?_
   refine HQ.on rfl rfl hg9 ?_
   refine pu Pu.sub z2 z3 ?_
   refine HQ.on rfl rfl hg9 ?_
   obtain ⟨t10, h11, H⟩ := bnd H
   refine op [] [] (OT.call (us := [_, _, _]) (Pre := []) [.tmp 13, .const (vI 0), .tmp 16] Try.call83 rfl rfl fun w F hs hF hp => impl_in_c h11) z4 trivial z4 (fun _ => rfl) fun _ => ?_
   obtain rfl := Option.some.inj H
   refine pu (Pu.pickC1 hg9) z2 z3 ?_
   exact HQ.mid z2 z1 rfl
  ·obtain rfl := Option.some.inj H
   refine HQ.off rfl rfl hg9 rfl ?_
   refine HQ.off rfl rfl hg9 rfl ?_
   refine HQ.off rfl rfl hg9 rfl ?_
   refine HQ.off rfl rfl hg9 rfl ?_
   refine HQ.off rfl rfl hg9 rfl ?_
   refine HQ.off rfl rfl hg9 rfl ?_
   refine pu (Pu.pickC0 hg9) z2 z3 ?_
   exact HQ.mid z2 z1 rfl
 refine pu Pu.assign z1 z3 ?_
 refine HQ.done ?_
 refine HQ.keep [(2, _)] z1 ?_
 refine HQ.ret ?_
 obtain rfl := Option.some.inj H
 exact HQ.fin (vs := [_]) Try.results104 () z1 rfl [] trivial rfl

end Go.Proofs.Sx
