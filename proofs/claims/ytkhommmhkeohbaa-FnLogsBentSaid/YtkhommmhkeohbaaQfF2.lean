import Derived.Test.YtkhommmhkeohbaaQfF1
import Derived.KernelRfl
namespace Go.Proofs.Sx
open Go.RowKit
set_option linter.unusedVariables false
set_option linter.unusedSimpArgs false
set_option maxRecDepth 20000
set_option maxHeartbeats 1000000
theorem spec_l19Draw_c {w : World} {k : Nat} {p0 : TCur} {β_0 : Nat} {a_0 : Option Addr} {c_0 : Nat} {F0 : Fp} (hs0 : Sat [Box β_0 [vS a_0 p0.b c_0, vI p0.i, vI p0.h]] w.heap F0) (hF0 : ∀ b, F0 b → b < w.heap.size) (hb_0 : BorS kU8 a_0 c_0 p0.b w.heap (Lt w F0)) {r : TTx × TCur} (H : spec_l19Draw k p0 = some r) :
  Calls Try.prog 119 #[BP β_0 0] w (Rt w F0 (fun g : Option Addr × Nat => .agg #[vI r.1.Seq, vI r.1.Root, vI r.1.Size, vS g.1 r.1.Puts g.2]) (fun g => [OwnS kTChange g.1 g.2 r.1.Puts, Box β_0 [vS a_0 p0.b c_0, vI r.2.i, vI r.2.h]])) := by
 rw [spec_l19Draw] at H
 refine Calls.enter (N := 37) (us := [_]) (F0 := F0) (Γ0 := [(1, Box β_0 [vS a_0 p0.b c_0, vI p0.i, vI p0.h])]) Try.func119 rfl rfl rfl hs0 hF0 ?_
 refine HQ.rseq ?_
 refine op [] [2] (OT.alloc zc57) trivial trivial z4 (fun _ => rfl) fun b1 => ?_
 refine HQ.done ?_
 refine HQ.keep [(0, _), (2, _)] z2 ?_
 refine HQ.rseq ?_
 refine pu Pu.move z1 z3 ?_
 obtain ⟨t2, h3, H⟩ := bnd H
 refine op [1] [1] (OT.callM (us := [_, _]) (PreX := [Box β_0 [vS a_0 p0.b c_0, vI p0.i, vI p0.h]]) (PreL := []) [.tmp 6, .const (vI 9)] Try.call86 rfl rfl fun w FX FL hs1 hF1 hs2 hF2 hp => spec_l1Below_c (p0 := p0) (p1 := 9) hs1 hF1 (hb_0.passY hp) h3) z3 z1 z4 (fun _ => rfl) fun _ => ?_
 refine pu Pu.add z2 z3 ?_
 refine pu Pu.move z1 z3 ?_
 obtain ⟨t4, h5, H⟩ := bnd H
 refine op [1] [1] (OT.callM (us := [_, _]) (PreX := [Box β_0 [vS a_0 p0.b c_0, vI t2.2.i, vI t2.2.h]]) (PreL := []) [.tmp 9, .const (vI 8)] Try.call86 rfl rfl fun w FX FL hs1 hF1 hs2 hF2 hp => spec_l1Below_c (p0 := (⟨p0.b, t2.2.i, t2.2.h⟩ : TCur)) (p1 := 8) hs1 hF1 (hb_0.passY hp) h5) z3 z1 z4 (fun _ => rfl) fun _ => ?_
 refine pu Pu.add z2 z3 ?_
 refine pu (Pu.build (us := [vI (wrap64 (1 + t2.1)), vI (wrap64 (2 + t4.1))]) (cs := [vI (wrap64 (1 + t2.1)), vI 0, vI (wrap64 (2 + t4.1)), .slice none 0 0]) [(0, .tmp 8), (2, .tmp 11)] st57 rfl rfl rfl) z2 z3 ?_
 refine op [] [3] (OT.alloc zc57) trivial trivial z4 (fun _ => rfl) fun b6 => ?_
 refine HQ.opN [3] [3] [] (OT.storeC (cs' := [vI (wrap64 (1 + t2.1)), vI 0, vI (wrap64 (2 + t4.1)), .slice none 0 0]) sz57 rfl rfl rfl rfl rfl) z2 z1 rfl rfl rfl (fun _ => rfl) fun _ => ?_
 refine HQ.done ?_
 refine HQ.keep [(0, _), (2, _), (3, _)] z3 ?_
 refine HQ.rseq ?_
 refine pu Pu.move z1 z3 ?_
 refine pu (Pu.fieldB fo57_2 rfl) z1 z3 ?_
 refine op [3] [3] (OT.loadB sc3 rfl) z1 z1 z4 (fun _ => rfl) fun _ => ?_
 obtain ⟨t7, h8, H⟩ := bnd H
 refine op [1] [1] (OT.callM (us := [_, _]) (PreX := [Box β_0 [vS a_0 p0.b c_0, vI t4.2.i, vI t4.2.h]]) (PreL := []) [.tmp 13, .tmp 15] Try.call86 rfl rfl fun w FX FL hs1 hF1 hs2 hF2 hp => spec_l1Below_c (p0 := (⟨p0.b, t4.2.i, t4.2.h⟩ : TCur)) (p1 := (wrap64 (2 + t4.1))) hs1 hF1 (hb_0.passY hp) h8) z3 z1 z4 (fun _ => rfl) fun _ => ?_
 refine pu (Pu.fieldB fo57_1 rfl) z1 z3 ?_
 refine HQ.opN [3] [3] [] (OT.storeC (cs' := [vI (wrap64 (1 + t2.1)), vI t7.1, vI (wrap64 (2 + t4.1)), .slice none 0 0]) sz3 rfl rfl rfl rfl rfl) z2 z1 rfl rfl rfl (fun _ => rfl) fun _ => ?_
 refine HQ.done ?_
 refine HQ.keep [(0, _), (2, _), (3, _)] z3 ?_
 refine HQ.seq ?_
 refine HQ.rseq ?_
 refine pu Pu.assign z1 z3 ?_
 refine HQ.done ?_
 refine HQ.keep [(0, _), (2, _), (3, _), (4, _)] z4 ?_
 refine HQ.block ?_
 refine HQ.nil kTChange 8 rfl ?_
 obtain ⟨o51, h58, H⟩ := bnd H
 refine HQ.loop h58 0 (fun (s : Int × Int × Int × (List TChange)) (g : Option Addr × Nat) => match s, g with | (i21, i22, i23, l24), (a25, c26) => [(0, BP β_0 0), (2, BP b1 0), (3, BP b6 0), (4, vI i21)]) (fun (s : Int × Int × Int × (List TChange)) (g : Option Addr × Nat) => match s, g with | (i21, i22, i23, l24), (a25, c26) => [(1, Box β_0 [vS a_0 p0.b c_0, vI i22, vI i23]), (2, Box b1 [vI 0, vI 0, vI 0, .slice none 0 0]), (3, Box b6 [vI (wrap64 (1 + t2.1)), vI t7.1, vI (wrap64 (2 + t4.1)), vS a25 l24 c26]), (8, OwnS kTChange a25 c26 l24)]) (fun _ _ _ => False) (none, 0) z4 z4 rfl ?_ ?_ ?_
 ·clear H h58
  rintro ⟨i21, i22, i23, l24⟩ ⟨a25, c26⟩ o H
  rw [spec_l19Draw_b0] at H
  refine HQ.keep [(0, _), (2, _), (3, _), (4, _)] z4 ?_
  refine HQ.keepR [(1, _), (2, _), (3, _), (8, _)] z4 rfl ?_
  refine HQ.seq ?_
  refine HQ.rseq ?_
  refine pu Pu.move z1 z3 ?_
  refine pu (Pu.fieldB fo57_2 rfl) z1 z3 ?_
  refine op [3] [3] (OT.loadB sc3 rfl) z1 z1 z4 (fun _ => rfl) fun _ => ?_
  refine pu Pu.lss z2 z3 ?_
  refine HQ.done ?_
  refine HQ.keep [(0, _), (2, _), (3, _), (4, _), (21, _)] z5 ?_
  rcases brk H with ⟨hc, H⟩ | ⟨hc, H⟩
  ·refine HQ.condT rfl hc ?_
   clear hc
   refine HQ.skipThen ?_
   refine HQ.seq ?_
   refine HQ.block ?_
   refine HQ.rseq ?_
   refine pu Pu.move z1 z3 ?_
   obtain ⟨t39, h40, H⟩ := bnd H
   refine op [1] [1] (OT.callM (us := [_, _]) (PreX := [Box β_0 [vS a_0 p0.b c_0, vI i22, vI i23]]) (PreL := []) [.tmp 24, .const (vI 3)] Try.call87 rfl rfl fun w FX FL hs1 hF1 hs2 hF2 hp => spec_l1Once_c (p0 := (⟨p0.b, i22, i23⟩ : TCur)) (p1 := 3) hs1 hF1 (hb_0.passY hp) h40) z3 z1 z4 (fun _ => rfl) fun _ => ?_
   refine HQ.done ?_
   refine HQ.keep [(0, _), (2, _), (3, _), (4, _), (25, _)] z5 ?_
   rcases brk H with ⟨hc, H⟩ | ⟨hc, H⟩
   ·refine HQ.condT rfl hc ?_
    clear hc
    refine HQ.rseq ?_
    refine pu Pu.move z1 z3 ?_
    refine pu Pu.move z1 z3 ?_
    obtain ⟨t41, h42, H⟩ := bnd H
    refine op [1] [12, 1] (OT.callM (us := [_]) (PreX := [Box β_0 [vS a_0 p0.b c_0, vI t39.2.i, vI t39.2.h]]) (PreL := []) [.tmp 27] Try.call124 rfl rfl fun w FX FL hs1 hF1 hs2 hF2 hp => spec_l5Draw_c (p0 := (⟨p0.b, t39.2.i, t39.2.h⟩ : TCur)) hs1 hF1 (hb_0.passY hp) h42) z2 z1 z4 (fun _ => rfl) fun ⟨a43, c44⟩ => ?_
    refine pu (Pu.build (us := [vI i21, .agg #[.bool t41.1.Leaf, vS a43 t41.1.L c44]]) (cs := [vI i21, .bool t41.1.Leaf, vS a43 t41.1.L c44]) [(0, .tmp 26), (1, .tmp 28)] st49 rfl rfl rfl) z2 z3 ?_
    refine op [] [13] (OT.alloc zc49) trivial trivial z4 (fun _ => rfl) fun b45 => ?_
    refine HQ.opN [13] [13] [] (OT.storeC (cs' := [vI i21, .bool t41.1.Leaf, vS a43 t41.1.L c44]) sz49 rfl rfl rfl rfl rfl) z2 z1 rfl rfl rfl (fun _ => rfl) fun _ => ?_
    refine HQ.done ?_
    refine HQ.keep [(0, _), (2, _), (3, _), (4, _), (5, _)] z5 ?_
    refine HQ.regionQ ?_
    refine pu (Pu.fieldB fo57_3 rfl) z1 z3 ?_
    refine op [3] [3] (OT.loadB sc55 rfl) z1 z1 z4 (fun _ => rfl) fun _ => ?_
    refine op [13] [13] (OT.loadBA (vs := [vI i21, .bool t41.1.Leaf, vS a43 t41.1.L c44]) ag49 sz49 rfl rfl) z1 z1 z4 (fun _ => rfl) fun _ => ?_
    refine HQ.opD [12] [14] [12] (OT.buildO (u := .agg #[vI i21, .bool t41.1.Leaf, vS a43 t41.1.L c44]) (enc := encTChange) (hl := hlTChange) (sub := fun (x : TChange) => x.N.L) (.tmp 32) (⟨i21, t41.1⟩ : TChange) sl55.ul sl55.szE sl55.zc rfl rfl rfl rfl) z1 z1 rfl rfl rfl rfl (fun _ => rfl) fun ⟨a46, c47⟩ => ?_
    obtain ⟨h50, H⟩ := asr H
    refine HQ.opD [8, 14] [8] [14] (OT.appendO (K := kTChange) sl55 ul55 h50) z2 z2 rfl rfl rfl rfl (fun _ => rfl) fun ⟨a48, c49⟩ => ?_
    refine pu (Pu.fieldB fo57_3 rfl) z1 z3 ?_
    refine HQ.opN [3] [3] [] (OT.storeC (cs' := [vI (wrap64 (1 + t2.1)), vI t7.1, vI (wrap64 (2 + t4.1)), vS a48 (l24 ++ ([(⟨i21, t41.1⟩ : TChange)] : (List TChange))) c49]) sz55 rfl rfl rfl rfl rfl) z2 z1 rfl rfl rfl (fun _ => rfl) fun _ => ?_
    refine HQ.done ?_
    refine HQ.keep [(0, _), (2, _), (3, _), (4, _)] z4 ?_
    refine HQ.blkN ?_
    refine HQ.thenN ?_
    refine HQ.regionQ ?_
    refine pu Pu.move z1 z3 ?_
    refine pu Pu.add z2 z3 ?_
    refine pu Pu.assign z1 z3 ?_
    refine HQ.done ?_
    refine HQ.keep [(0, _), (2, _), (3, _), (4, _)] z4 ?_
    obtain rfl := Option.some.inj H
    exact HQ.next (a48, c49) z4 z4 rfl
   ·refine HQ.condF rfl hc ?_
    clear hc
    refine HQ.skip ?_
    refine HQ.blkN ?_
    refine HQ.thenN ?_
    refine HQ.regionQ ?_
    refine pu Pu.move z1 z3 ?_
    refine pu Pu.add z2 z3 ?_
    refine pu Pu.assign z1 z3 ?_
    refine HQ.done ?_
    refine HQ.keep [(0, _), (2, _), (3, _), (4, _)] z4 ?_
    obtain rfl := Option.some.inj H
    exact HQ.next (a25, c26) z4 z4 rfl
  ·refine HQ.condF rfl hc ?_
   clear hc
   refine HQ.exit ?_
   refine HQ.thenE ?_
   obtain rfl := Option.some.inj H
   exact HQ.out (a25, c26) z4 z4 rfl
 ·rintro ⟨i52, i53, i54, l55⟩ rfl ⟨a56, c57⟩
  clear h58
  replace H := H
  refine HQ.keep [(0, _), (2, _), (3, _), (4, _)] z4 ?_
  refine HQ.keepR [(1, _), (2, _), (3, _), (8, _)] z4 rfl ?_
  refine HQ.blkE ?_
  refine HQ.thenN ?_
  refine HQ.rseq ?_
  refine op [3] [3] (OT.loadBA (vs := [vI (wrap64 (1 + t2.1)), vI t7.1, vI (wrap64 (2 + t4.1)), vS a56 l55 c57]) ag57 sz57 rfl rfl) z1 z1 z4 (fun _ => rfl) fun _ => ?_
  refine HQ.opN [2] [2] [] (OT.storeC (cs' := [vI (wrap64 (1 + t2.1)), vI t7.1, vI (wrap64 (2 + t4.1)), vS a56 l55 c57]) sz57 rfl rfl rfl rfl rfl) z2 z1 rfl rfl rfl (fun _ => rfl) fun _ => ?_
  refine HQ.done ?_
  refine HQ.keep [(2, _)] z1 ?_
  refine HQ.ret ?_
  obtain rfl := Option.some.inj H
  exact HQ.fin (vs := [_]) Try.results119 (a56, c57) ⟨⟨_, _, 2, rfl, rfl, ag57, sz57, rfl⟩, trivial⟩ rfl [8, 1] z2 rfl
 ·exact fun r h a w hf => hf.elim

theorem spec_l20Txs_c {w : World} {k : Nat} {p0 : TCur} {p1 : Int} {β_0 : Nat} {a_0 : Option Addr} {c_0 : Nat} {F0 : Fp} (hs0 : Sat [Box β_0 [vS a_0 p0.b c_0, vI p0.i, vI p0.h]] w.heap F0) (hF0 : ∀ b, F0 b → b < w.heap.size) (hb_0 : BorS kU8 a_0 c_0 p0.b w.heap (Lt w F0)) {r : (List TTx) × TCur} (H : spec_l20Txs k p0 p1 = some r) :
  Calls Try.prog 121 #[BP β_0 0, vI p1] w (Rt w F0 (fun g : Option Addr × Nat => vS g.1 r.1 g.2) (fun g => [OwnS kTTx g.1 g.2 r.1, Box β_0 [vS a_0 p0.b c_0, vI r.2.i, vI r.2.h]])) := by
 rw [spec_l20Txs] at H
 refine Calls.enter (N := 28) (us := [_, _]) (F0 := F0) (Γ0 := [(1, Box β_0 [vS a_0 p0.b c_0, vI p0.i, vI p0.h])]) Try.func121 rfl rfl rfl hs0 hF0 ?_
 refine HQ.rseq ?_
 refine pu Pu.assign z1 z3 ?_
 refine HQ.done ?_
 refine HQ.keep [(0, _), (1, _), (4, _)] z3 ?_
 refine HQ.rseq ?_
 refine op [] [2] (OT.buildE (K := kTTx) sl80.ul sl80.szE sl80.zc rfl rfl) trivial trivial z4 (fun _ => rfl) fun ⟨a1, c2⟩ => ?_
 refine pu Pu.assign z1 z3 ?_
 refine HQ.done ?_
 refine HQ.keep [(0, _), (1, _), (4, _), (5, _)] z4 ?_
 refine HQ.seq ?_
 refine HQ.rseq ?_
 refine pu Pu.move z1 z3 ?_
 refine pu Pu.move z1 z3 ?_
 refine pu Pu.add z2 z3 ?_
 obtain ⟨t3, h4, H⟩ := bnd H
 refine op [1] [1] (OT.callM (us := [_, _]) (PreX := [Box β_0 [vS a_0 p0.b c_0, vI p0.i, vI p0.h]]) (PreL := []) [.tmp 9, .tmp 11] Try.call86 rfl rfl fun w FX FL hs1 hF1 hs2 hF2 hp => spec_l1Below_c (p0 := p0) (p1 := (wrap64 (p1 + 1))) hs1 hF1 (hb_0.passY hp) h4) z3 z1 z4 (fun _ => rfl) fun _ => ?_
 refine pu Pu.assign z1 z3 ?_
 refine HQ.done ?_
 refine HQ.keep [(0, _), (4, _), (5, _), (6, _)] z4 ?_
 refine HQ.block ?_
 obtain ⟨o41, h48, H⟩ := bnd H
 refine HQ.loop h48 0 (fun (s : (List TTx) × Int × Int × Int) (g : Option Addr × Nat) => match s, g with | (l15, i18, i19, i20), (a16, c17) => [(0, BP β_0 0), (4, .slice none 0 0), (5, vS a16 l15 c17), (6, vI i18)]) (fun (s : (List TTx) × Int × Int × Int) (g : Option Addr × Nat) => match s, g with | (l15, i18, i19, i20), (a16, c17) => [(1, Box β_0 [vS a_0 p0.b c_0, vI i19, vI i20]), (2, OwnS kTTx a16 c17 l15)]) (fun _ _ _ => False) (a1, c2) z4 z2 rfl ?_ ?_ ?_
 ·clear H h48
  rintro ⟨l15, i18, i19, i20⟩ ⟨a16, c17⟩ o H
  rw [spec_l20Txs_b0] at H
  refine HQ.keep [(0, _), (4, _), (5, _), (6, _)] z4 ?_
  refine HQ.keepR [(1, _), (2, _)] z2 rfl ?_
  refine HQ.seq ?_
  refine HQ.rseq ?_
  refine pu Pu.move z1 z3 ?_
  refine pu Pu.gtr z2 z3 ?_
  refine HQ.done ?_
  refine HQ.keep [(0, _), (4, _), (5, _), (6, _), (14, _)] z5 ?_
  rcases brk H with ⟨hc, H⟩ | ⟨hc, H⟩
  ·refine HQ.condT rfl hc ?_
   clear hc
   refine HQ.skipThen ?_
   refine HQ.seq ?_
   refine HQ.block ?_
   refine HQ.rseq ?_
   refine pu Pu.move z1 z3 ?_
   obtain ⟨t31, h32, H⟩ := bnd H
   refine op [1] [9, 1] (OT.callM (us := [_]) (PreX := [Box β_0 [vS a_0 p0.b c_0, vI i19, vI i20]]) (PreL := []) [.tmp 17] Try.call119 rfl rfl fun w FX FL hs1 hF1 hs2 hF2 hp => spec_l19Draw_c (p0 := (⟨p0.b, i19, i20⟩ : TCur)) hs1 hF1 (hb_0.passY hp) h32) z2 z1 z4 (fun _ => rfl) fun ⟨a33, c34⟩ => ?_
   refine op [] [10] (OT.alloc zc57) trivial trivial z4 (fun _ => rfl) fun b35 => ?_
   refine HQ.opN [10] [10] [] (OT.storeC (cs' := [vI t31.1.Seq, vI t31.1.Root, vI t31.1.Size, vS a33 t31.1.Puts c34]) sz57 rfl rfl rfl rfl rfl) z2 z1 rfl rfl rfl (fun _ => rfl) fun _ => ?_
   refine HQ.done ?_
   refine HQ.keep [(0, _), (4, _), (5, _), (6, _), (7, _)] z5 ?_
   refine HQ.rseq ?_
   refine pu Pu.move z1 z3 ?_
   refine pu (Pu.len ul80) z1 z3 ?_
   refine pu Pu.add z2 z3 ?_
   refine pu (Pu.fieldB fo57_0 rfl) z1 z3 ?_
   refine HQ.opN [10] [10] [] (OT.storeC (cs' := [vI (wrap64 (5 + ((List.length l15 : Nat) : Int))), vI t31.1.Root, vI t31.1.Size, vS a33 t31.1.Puts c34]) sz3 rfl rfl rfl rfl rfl) z2 z1 rfl rfl rfl (fun _ => rfl) fun _ => ?_
   refine HQ.done ?_
   refine HQ.keep [(0, _), (4, _), (5, _), (6, _), (7, _)] z5 ?_
   refine HQ.regionQ ?_
   refine pu Pu.move z1 z3 ?_
   refine op [10] [10] (OT.loadBA (vs := [vI (wrap64 (5 + ((List.length l15 : Nat) : Int))), vI t31.1.Root, vI t31.1.Size, vS a33 t31.1.Puts c34]) ag57 sz57 rfl rfl) z1 z1 z4 (fun _ => rfl) fun _ => ?_
   refine HQ.opD [9] [11] [9] (OT.buildO (u := .agg #[vI (wrap64 (5 + ((List.length l15 : Nat) : Int))), vI t31.1.Root, vI t31.1.Size, vS a33 t31.1.Puts c34]) (enc := encTTx) (hl := hlTTx) (sub := fun (x : TTx) => x.Puts) (.tmp 24) (⟨(wrap64 (5 + ((List.length l15 : Nat) : Int))), t31.1.Root, t31.1.Size, t31.1.Puts⟩ : TTx) sl80.ul sl80.szE sl80.zc rfl rfl rfl rfl) z1 z1 rfl rfl rfl rfl (fun _ => rfl) fun ⟨a36, c37⟩ => ?_
   obtain ⟨h40, H⟩ := asr H
   refine HQ.opD [2, 11] [2] [11] (OT.appendO (K := kTTx) sl80 ul80 h40) z2 z2 rfl rfl rfl rfl (fun _ => rfl) fun ⟨a38, c39⟩ => ?_
   refine pu Pu.assign z1 z3 ?_
   refine HQ.done ?_
   refine HQ.keep [(0, _), (4, _), (5, _), (6, _)] z4 ?_
   refine HQ.blkN ?_
   refine HQ.thenN ?_
   refine HQ.regionQ ?_
   refine pu Pu.move z1 z3 ?_
   refine pu Pu.sub z2 z3 ?_
   refine pu Pu.assign z1 z3 ?_
   refine HQ.done ?_
   refine HQ.keep [(0, _), (4, _), (5, _), (6, _)] z4 ?_
   obtain rfl := Option.some.inj H
   exact HQ.next (a38, c39) z4 z2 rfl
  ·refine HQ.condF rfl hc ?_
   clear hc
   refine HQ.exit ?_
   refine HQ.thenE ?_
   obtain rfl := Option.some.inj H
   exact HQ.out (a16, c17) z4 z2 rfl
 ·rintro ⟨l42, i45, i46, i47⟩ rfl ⟨a43, c44⟩
  clear h48
  replace H := H
  refine HQ.keep [(0, _), (4, _), (5, _), (6, _)] z4 ?_
  refine HQ.keepR [(1, _), (2, _)] z2 rfl ?_
  refine HQ.blkE ?_
  refine HQ.thenN ?_
  refine HQ.rseq ?_
  refine pu Pu.move z1 z3 ?_
  refine pu Pu.assign z1 z3 ?_
  refine HQ.done ?_
  refine HQ.keep [(4, _)] z1 ?_
  refine HQ.ret ?_
  obtain rfl := Option.some.inj H
  exact HQ.fin (vs := [_]) Try.results121 (a43, c44) z1 rfl [2, 1] z2 rfl
 ·exact fun r h a w hf => hf.elim

theorem spec_l18Copy_c {w : World} {k : Nat} {p0 : TDisk} {a_0 : Option Addr} {c_0 : Nat} {a_1 : Option Addr} {c_1 : Nat} (hb_0 : BorS kTCell a_0 c_0 p0.Cells w.heap (Lt w Nil)) (hb_1 : BorS kTWet a_1 c_1 p0.Wet w.heap (Lt w Nil)) {r : TDisk} (H : spec_l18Copy k p0 = some r) :
  Calls Try.prog 90 #[.agg #[vS a_0 p0.Cells c_0, vS a_1 p0.Wet c_1, vI p0.Fuse, .bool p0.Dead]] w (Rt w Nil (fun g : (Option Addr × Nat) × (Option Addr × Nat) => .agg #[vS g.1.1 r.Cells g.1.2, vS g.2.1 r.Wet g.2.2, vI r.Fuse, .bool r.Dead]) (fun g => [OwnS kTCell g.1.1 g.1.2 r.Cells, OwnS kTWet g.2.1 g.2.2 r.Wet])) := by
 rw [spec_l18Copy] at H
 refine Calls.enter0 (N := 66) (us := [_]) Try.func90 rfl rfl rfl ?_
 refine HQ.rseq ?_
 refine op [] [1] (OT.box (cs := [vS a_0 p0.Cells c_0, vS a_1 p0.Wet c_1, vI p0.Fuse, .bool p0.Dead]) rfl) z1 trivial z4 (fun _ => rfl) fun b1 => ?_
 refine op [] [2] (OT.alloc zc27) trivial trivial z4 (fun _ => rfl) fun b2 => ?_
 refine HQ.done ?_
 refine HQ.keep [(1, _), (2, _)] z2 ?_
 refine HQ.rseq ?_
 refine pu (Pu.fieldB fo27_2 rfl) z1 z3 ?_
 refine op [1] [1] (OT.loadB sc3 rfl) z1 z1 z4 (fun _ => rfl) fun _ => ?_
 refine pu (Pu.fieldB fo27_3 rfl) z1 z3 ?_
 refine op [1] [1] (OT.loadB sc4 rfl) z1 z1 z4 (fun _ => rfl) fun _ => ?_
 refine pu (Pu.build (us := [vI p0.Fuse, .bool p0.Dead]) (cs := [.slice none 0 0, .slice none 0 0, vI p0.Fuse, .bool p0.Dead]) [(2, .tmp 7), (3, .tmp 9)] st27 rfl rfl rfl) z2 z3 ?_
 refine op [] [3] (OT.alloc zc27) trivial trivial z4 (fun _ => rfl) fun b3 => ?_
 refine HQ.opN [3] [3] [] (OT.storeC (cs' := [.slice none 0 0, .slice none 0 0, vI p0.Fuse, .bool p0.Dead]) sz27 rfl rfl rfl rfl rfl) z2 z1 rfl rfl rfl (fun _ => rfl) fun _ => ?_
 refine HQ.done ?_
 refine HQ.keep [(1, _), (2, _), (3, _)] z3 ?_
 refine HQ.seq ?_
 refine HQ.rseq ?_
 refine pu Pu.assign z1 z3 ?_
 refine HQ.done ?_
 refine HQ.keep [(1, _), (2, _), (3, _), (4, _)] z4 ?_
 refine HQ.block ?_
 refine HQ.nil kTCell 7 rfl ?_
 obtain ⟨o71, h149, H⟩ := bnd H
 refine HQ.loop h149 0 (fun (s : Int × (List TCell)) (g : Option Addr × Nat) => match s, g with | (i25, l26), (a27, c28) => [(1, BP b1 0), (2, BP b2 0), (3, BP b3 0), (4, vI i25)]) (fun (s : Int × (List TCell)) (g : Option Addr × Nat) => match s, g with | (i25, l26), (a27, c28) => [(1, Box b1 [vS a_0 p0.Cells c_0, vS a_1 p0.Wet c_1, vI p0.Fuse, .bool p0.Dead]), (2, Box b2 [.slice none 0 0, .slice none 0 0, vI 0, .bool false]), (3, Box b3 [vS a27 l26 c28, .slice none 0 0, vI p0.Fuse, .bool p0.Dead]), (7, OwnS kTCell a27 c28 l26)]) (fun _ _ _ => False) (none, 0) z4 z4 rfl ?_ ?_ ?_
 ·clear H h149
  rintro ⟨i25, l26⟩ ⟨a27, c28⟩ o H
  rw [spec_l18Copy_b0] at H
  refine HQ.keep [(1, _), (2, _), (3, _), (4, _)] z4 ?_
  refine HQ.keepR [(1, _), (2, _), (3, _), (7, _)] z4 rfl ?_
  refine HQ.seq ?_
  refine HQ.rseq ?_
  refine pu Pu.move z1 z3 ?_
  refine pu (Pu.fieldB fo27_0 rfl) z1 z3 ?_
  refine op [1] [1] (OT.loadB sc24 rfl) z1 z1 z4 (fun _ => rfl) fun _ => ?_
  refine pu (Pu.len ul24) z1 z3 ?_
  refine pu Pu.lss z2 z3 ?_
  refine HQ.done ?_
  refine HQ.keep [(1, _), (2, _), (3, _), (4, _), (15, _)] z5 ?_
  rcases brk H with ⟨hc, H⟩ | ⟨hc, H⟩
  ·refine HQ.condT rfl hc ?_
   clear hc
   refine HQ.skipThen ?_
   refine HQ.seq ?_
   refine HQ.block ?_
   refine HQ.dStart mixd ?_
   obtain ⟨h51, H⟩ := asr H
   obtain ⟨h58, H⟩ := asr H
   obtain ⟨h65, H⟩ := asr H
   obtain ⟨⟨a52, c53⟩, hb54, hn55⟩ := BorS.nest hb_0 h51
   obtain ⟨⟨a59, c60⟩, hb61, hn62⟩ := BorS.nest hb_0 h58
   refine HQ.dPart [(1, BP b1 0), (2, BP b2 0), (3, BP b3 0), (4, vI i25)] 18 [⟨[], [], []⟩, ⟨[0], [0], [0]⟩, ⟨[], [], []⟩, ⟨[1], [1], [2]⟩, ⟨[], [], []⟩, ⟨[], [], [3, 4]⟩, ⟨[], [], [5]⟩, ⟨[], [], [6]⟩, ⟨[], [2], []⟩, ⟨[], [], []⟩, ⟨[1], [1], [9]⟩, ⟨[], [], []⟩, ⟨[], [], [10, 11]⟩, ⟨[], [], [12]⟩, ⟨[], [], [13]⟩, ⟨[2], [3], [8, 14]⟩, ⟨[], [], [7, 15]⟩, ⟨[3], [4], [16]⟩] [⟨none, none⟩, ⟨none, none⟩, ⟨some 8, some 15⟩, ⟨some 15, some 17⟩, ⟨some 17, none⟩] (fun (g50 : (Option Addr × Nat) × (Option Addr × Nat) × (Option Addr × Nat)) => [BP b3 0, vS a27 l26 c28, BP b1 0, vS a_0 p0.Cells c_0, vI i25, EP a_0 i25 2 0, EP a_0 i25 2 0, .bool ((gt p0.Cells i25).Bad), vS g50.1.1 ([] : (List Int)) g50.1.2, BP b1 0, vS a_0 p0.Cells c_0, vI i25, EP a_0 i25 2 0, EP a_0 i25 2 1, vS a59 ((gt p0.Cells i25).B) c60, vS g50.2.1.1 (([] : (List Int)) ++ ((gt p0.Cells i25).B)) g50.2.1.2, .agg #[.bool ((gt p0.Cells i25).Bad), vS g50.2.1.1 (([] : (List Int)) ++ ((gt p0.Cells i25).B)) g50.2.1.2], vS g50.2.2.1 ([(⟨(gt p0.Cells i25).Bad, (([] : (List Int)) ++ ((gt p0.Cells i25).B))⟩ : TCell)] : (List TCell)) g50.2.2.2]) (fun (g50 : (Option Addr × Nat) × (Option Addr × Nat) × (Option Addr × Nat)) => [Box b3 [vS a27 l26 c28, .slice none 0 0, vI p0.Fuse, .bool p0.Dead], Box b1 [vS a_0 p0.Cells c_0, vS a_1 p0.Wet c_1, vI p0.Fuse, .bool p0.Dead], OwnS kU8 g50.1.1 g50.1.2 ([] : (List Int)), OwnS kU8 g50.2.1.1 g50.2.1.2 (([] : (List Int)) ++ ((gt p0.Cells i25).B)), OwnS kTCell g50.2.2.1 g50.2.2.2 ([(⟨(gt p0.Cells i25).Bad, (([] : (List Int)) ++ ((gt p0.Cells i25).B))⟩ : TCell)] : (List TCell))]) ((none, 0), (none, 0), (none, 0)) [3, 1] [3, 1, 11] [] z4 z2 rfl (by kernel_rfl) (by kernel_rfl) (fun _ => rfl) (by kernel_rfl) (fun _ => rfl) rfl ⟨?_, ?_, ?_, ?_, ?_, ?_, ?_, ?_, ?_, ?_, ?_, ?_, ?_, ?_, ?_, ?_, ?_, ?_, trivial⟩ fun g50 => ?_
   ·exact OpOK2.pu (fun g50 => [(.tmp 3, BP b3 0)]) z2 (fun _ => z1) (fun _ => (Pu.fieldB fo27_0 rfl)) (fun _ => z1) (fun _ _ => z7)
   ·exact OpOK2.of (fun g50 => [(.tmp 18, BP b3 0)]) _ _ (fun g50 _ => g50) rfl rfl (fun _ => z1) (fun g50 => OT.loadB sc24 rfl) (fun _ _ => z7)
   ·exact OpOK2.pu (fun g50 => [(.tmp 1, BP b1 0)]) z2 (fun _ => z1) (fun _ => (Pu.fieldB fo27_0 rfl)) (fun _ => z1) (fun _ _ => z7)
   ·exact OpOK2.of (fun g50 => [(.tmp 20, BP b1 0)]) _ _ (fun g50 _ => g50) rfl rfl (fun _ => z1) (fun g50 => OT.loadB sc24 rfl) (fun _ _ => z7)
   ·exact OpOK2.pu (fun g50 => [(.tmp 4, vI i25)]) z2 (fun _ => z1) (fun _ => Pu.move) (fun _ => z1) (fun _ _ => z7)
   ·exact OpOK2.of (fun g50 => [(.tmp 21, vS a_0 p0.Cells c_0), (.tmp 22, vI i25)]) _ _ (fun g50 _ => g50) rfl rfl (fun _ => z2) (fun g50 => OT.indexB ul24 sz113 hb_0 h51) (fun _ _ => z7)
   ·exact OpOK2.pu (fun g50 => [(.tmp 23, EP a_0 i25 2 0)]) z2 (fun _ => z1) (fun _ => (Pu.fieldE fo113_0 rfl)) (fun _ => z1) (fun _ _ => z7)
   ·exact OpOK2.of (fun g50 => [(.tmp 24, EP a_0 i25 2 0)]) _ _ (fun g50 _ => g50) rfl rfl (fun _ => z1) (fun g50 => OT.loadN (v := .bool ((gt p0.Cells i25).Bad)) sc4 hn55 hlTCell rfl) (fun _ _ => z7)
   ·exact OpOK2.of (fun g50 => []) _ _ (fun g50 x => (x, g50.2.1, g50.2.2)) rfl rfl (fun _ => trivial) (fun g50 => OT.buildF (us := []) (ys := ([] : (List Int))) (enc := (encI .u8)) (hl := fun _ => ⟨rfl, rfl⟩) [] sl22.ul sl22.szE sl22.zc rfl rfl rfl rfl rfl) (fun _ _ => z7)
   ·exact OpOK2.pu (fun g50 => [(.tmp 1, BP b1 0)]) z2 (fun _ => z1) (fun _ => (Pu.fieldB fo27_0 rfl)) (fun _ => z1) (fun _ _ => z7)
   ·exact OpOK2.of (fun g50 => [(.tmp 27, BP b1 0)]) _ _ (fun g50 _ => g50) rfl rfl (fun _ => z1) (fun g50 => OT.loadB sc24 rfl) (fun _ _ => z7)
   ·exact OpOK2.pu (fun g50 => [(.tmp 4, vI i25)]) z2 (fun _ => z1) (fun _ => Pu.move) (fun _ => z1) (fun _ _ => z7)
   ·exact OpOK2.of (fun g50 => [(.tmp 28, vS a_0 p0.Cells c_0), (.tmp 29, vI i25)]) _ _ (fun g50 _ => g50) rfl rfl (fun _ => z2) (fun g50 => OT.indexB ul24 sz113 hb_0 h58) (fun _ _ => z7)
   ·exact OpOK2.pu (fun g50 => [(.tmp 30, EP a_0 i25 2 0)]) z2 (fun _ => z1) (fun _ => (Pu.fieldE fo113_1 rfl)) (fun _ => z1) (fun _ _ => z7)
   ·exact OpOK2.of (fun g50 => [(.tmp 31, EP a_0 i25 2 1)]) _ _ (fun g50 _ => g50) rfl rfl (fun _ => z1) (fun g50 => OT.loadN (v := vS a59 ((gt p0.Cells i25).B) c60) sc22 hn62 hlTCell rfl) (fun _ _ => z7)
   ·exact OpOK2.ofD [16] (by kernel_rfl) (fun g50 => [(.tmp 26, vS g50.1.1 ([] : (List Int)) g50.1.2), (.tmp 32, vS a59 ((gt p0.Cells i25).B) c60)]) _ _ (fun g50 x => (g50.1, x, g50.2.2)) rfl rfl (fun _ => z2) (fun g50 => OT.appendF (enc := (encI .u8)) (hl := fun _ => ⟨rfl, rfl⟩) sl22 ul22 hb61 h65) (fun _ _ => ⟨⟨rfl, rfl, rfl, rfl, rfl, rfl, rfl, rfl, rfl, rfl, rfl, rfl, rfl, rfl, rfl, rfl, trivial, rfl, trivial⟩, rfl, z5⟩)
   ·exact OpOK2.pu (fun g50 => [(.tmp 25, .bool ((gt p0.Cells i25).Bad)), (.tmp 33, vS g50.2.1.1 (([] : (List Int)) ++ ((gt p0.Cells i25).B)) g50.2.1.2)]) z2 (fun _ => z2) (fun g50 => (Pu.build (us := [.bool ((gt p0.Cells i25).Bad), vS g50.2.1.1 (([] : (List Int)) ++ ((gt p0.Cells i25).B)) g50.2.1.2]) (cs := [.bool ((gt p0.Cells i25).Bad), vS g50.2.1.1 (([] : (List Int)) ++ ((gt p0.Cells i25).B)) g50.2.1.2]) [(0, .tmp 25), (1, .tmp 33)] st113 rfl rfl rfl)) (fun _ => z1) (fun _ _ => z7)
   ·exact OpOK2.of (fun g50 => [(.tmp 34, .agg #[.bool ((gt p0.Cells i25).Bad), vS g50.2.1.1 (([] : (List Int)) ++ ((gt p0.Cells i25).B)) g50.2.1.2])]) _ _ (fun g50 x => (g50.1, g50.2.1, x)) rfl rfl (fun _ => z1) (fun g50 => OT.buildO (u := .agg #[.bool ((gt p0.Cells i25).Bad), vS g50.2.1.1 (([] : (List Int)) ++ ((gt p0.Cells i25).B)) g50.2.1.2]) (enc := encTCell) (hl := hlTCell) (sub := fun (x : TCell) => x.B) (.tmp 34) (⟨(gt p0.Cells i25).Bad, (([] : (List Int)) ++ ((gt p0.Cells i25).B))⟩ : TCell) sl24.ul sl24.szE sl24.zc rfl rfl rfl rfl) (fun _ _ => z7)
   refine HQ.keep [(1, _), (2, _), (3, _), (4, _), (19, _), (35, _)] z6 ?_
   refine HQ.keepR [(1, _), (2, _), (3, _), (7, _), (11, _)] z5 rfl ?_
   refine HQ.dRun 3 rfl rfl (by kernel_rfl) (by kernel_rfl) ?_
   obtain ⟨h70, H⟩ := asr H
   refine HQ.opD [7, 11] [7] [11] (OT.appendO (K := kTCell) sl24 ul24 h70) z2 z2 rfl rfl rfl rfl (fun _ => rfl) fun ⟨a68, c69⟩ => ?_
   refine pu (Pu.fieldB fo27_0 rfl) z1 z3 ?_
   refine HQ.opN [3] [3] [] (OT.storeC (cs' := [vS a68 (l26 ++ ([(⟨(gt p0.Cells i25).Bad, (([] : (List Int)) ++ ((gt p0.Cells i25).B))⟩ : TCell)] : (List TCell))) c69, .slice none 0 0, vI p0.Fuse, .bool p0.Dead]) sz24 rfl rfl rfl rfl rfl) z2 z1 rfl rfl rfl (fun _ => rfl) fun _ => ?_
   refine HQ.done ?_
   refine HQ.dEnd rfl ?_
   refine HQ.keep [(1, _), (2, _), (3, _), (4, _)] z4 ?_
   refine HQ.blkN ?_
   refine HQ.thenN ?_
   refine HQ.regionQ ?_
   refine pu Pu.move z1 z3 ?_
   refine pu Pu.add z2 z3 ?_
   refine pu Pu.assign z1 z3 ?_
   refine HQ.done ?_
   refine HQ.keep [(1, _), (2, _), (3, _), (4, _)] z4 ?_
   obtain rfl := Option.some.inj H
   exact HQ.next (a68, c69) z4 z4 rfl
  ·refine HQ.condF rfl hc ?_
   clear hc
   refine HQ.exit ?_
   refine HQ.thenE ?_
   obtain rfl := Option.some.inj H
   exact HQ.out (a27, c28) z4 z4 rfl
 ·rintro ⟨i72, l73⟩ rfl ⟨a74, c75⟩
  clear h149
  replace H := H
  refine HQ.keep [(1, _), (2, _), (3, _), (4, _)] z4 ?_
  refine HQ.keepR [(1, _), (2, _), (3, _), (7, _)] z4 rfl ?_
  refine HQ.blkE ?_
  refine HQ.thenN ?_
  refine HQ.seq ?_
  refine HQ.rseq ?_
  refine pu Pu.assign z1 z3 ?_
  refine HQ.done ?_
  refine HQ.keep [(1, _), (2, _), (3, _), (5, _)] z4 ?_
  refine HQ.block ?_
  refine HQ.nil kTWet 15 rfl ?_
  obtain ⟨o143, h148, H⟩ := bnd H
  refine HQ.loop h148 2 (fun (s : Int × (List TWet)) (g : Option Addr × Nat) => match s, g with | (i97, l98), (a99, c100) => [(1, BP b1 0), (2, BP b2 0), (3, BP b3 0), (5, vI i97)]) (fun (s : Int × (List TWet)) (g : Option Addr × Nat) => match s, g with | (i97, l98), (a99, c100) => [(1, Box b1 [vS a_0 p0.Cells c_0, vS a_1 p0.Wet c_1, vI p0.Fuse, .bool p0.Dead]), (2, Box b2 [.slice none 0 0, .slice none 0 0, vI 0, .bool false]), (3, Box b3 [vS a74 l73 c75, vS a99 l98 c100, vI p0.Fuse, .bool p0.Dead]), (7, OwnS kTCell a74 c75 l73), (15, OwnS kTWet a99 c100 l98)]) (fun _ _ _ => False) (none, 0) z4 z5 rfl ?_ ?_ ?_
  ·clear H h148
   rintro ⟨i97, l98⟩ ⟨a99, c100⟩ o H
   rw [spec_l18Copy_b1] at H
   refine HQ.keep [(1, _), (2, _), (3, _), (5, _)] z4 ?_
   refine HQ.keepR [(1, _), (2, _), (3, _), (7, _), (15, _)] z5 rfl ?_
   refine HQ.seq ?_
   refine HQ.rseq ?_
   refine pu Pu.move z1 z3 ?_
   refine pu (Pu.fieldB fo27_1 rfl) z1 z3 ?_
   refine op [1] [1] (OT.loadB sc25 rfl) z1 z1 z4 (fun _ => rfl) fun _ => ?_
   refine pu (Pu.len ul25) z1 z3 ?_
   refine pu Pu.lss z2 z3 ?_
   refine HQ.done ?_
   refine HQ.keep [(1, _), (2, _), (3, _), (5, _), (42, _)] z5 ?_
   rcases brk H with ⟨hc, H⟩ | ⟨hc, H⟩
   ·refine HQ.condT rfl hc ?_
    clear hc
    refine HQ.skipThen ?_
    refine HQ.seq ?_
    refine HQ.block ?_
    refine HQ.dStart mixd ?_
    obtain ⟨h123, H⟩ := asr H
    obtain ⟨h130, H⟩ := asr H
    obtain ⟨h137, H⟩ := asr H
    obtain ⟨⟨a124, c125⟩, hb126, hn127⟩ := BorS.nest hb_1 h123
    obtain ⟨⟨a131, c132⟩, hb133, hn134⟩ := BorS.nest hb_1 h130
    refine HQ.dPart [(1, BP b1 0), (2, BP b2 0), (3, BP b3 0), (5, vI i97)] 18 [⟨[], [], []⟩, ⟨[0], [0], [0]⟩, ⟨[], [], []⟩, ⟨[1], [1], [2]⟩, ⟨[], [], []⟩, ⟨[], [], [3, 4]⟩, ⟨[], [], [5]⟩, ⟨[], [], [6]⟩, ⟨[], [2], []⟩, ⟨[], [], []⟩, ⟨[1], [1], [9]⟩, ⟨[], [], []⟩, ⟨[], [], [10, 11]⟩, ⟨[], [], [12]⟩, ⟨[], [], [13]⟩, ⟨[2], [3], [8, 14]⟩, ⟨[], [], [7, 15]⟩, ⟨[3], [4], [16]⟩] [⟨none, none⟩, ⟨none, none⟩, ⟨some 8, some 15⟩, ⟨some 15, some 17⟩, ⟨some 17, none⟩] (fun (g122 : (Option Addr × Nat) × (Option Addr × Nat) × (Option Addr × Nat)) => [BP b3 1, vS a99 l98 c100, BP b1 1, vS a_1 p0.Wet c_1, vI i97, EP a_1 i97 2 0, EP a_1 i97 2 0, vI ((gt p0.Wet i97).At), vS g122.1.1 ([] : (List Int)) g122.1.2, BP b1 1, vS a_1 p0.Wet c_1, vI i97, EP a_1 i97 2 0, EP a_1 i97 2 1, vS a131 ((gt p0.Wet i97).B) c132, vS g122.2.1.1 (([] : (List Int)) ++ ((gt p0.Wet i97).B)) g122.2.1.2, .agg #[vI ((gt p0.Wet i97).At), vS g122.2.1.1 (([] : (List Int)) ++ ((gt p0.Wet i97).B)) g122.2.1.2], vS g122.2.2.1 ([(⟨(gt p0.Wet i97).At, (([] : (List Int)) ++ ((gt p0.Wet i97).B))⟩ : TWet)] : (List TWet)) g122.2.2.2]) (fun (g122 : (Option Addr × Nat) × (Option Addr × Nat) × (Option Addr × Nat)) => [Box b3 [vS a74 l73 c75, vS a99 l98 c100, vI p0.Fuse, .bool p0.Dead], Box b1 [vS a_0 p0.Cells c_0, vS a_1 p0.Wet c_1, vI p0.Fuse, .bool p0.Dead], OwnS kU8 g122.1.1 g122.1.2 ([] : (List Int)), OwnS kU8 g122.2.1.1 g122.2.1.2 (([] : (List Int)) ++ ((gt p0.Wet i97).B)), OwnS kTWet g122.2.2.1 g122.2.2.2 ([(⟨(gt p0.Wet i97).At, (([] : (List Int)) ++ ((gt p0.Wet i97).B))⟩ : TWet)] : (List TWet))]) ((none, 0), (none, 0), (none, 0)) [3, 1] [3, 1, 19] [] z4 z2 rfl (by kernel_rfl) (by kernel_rfl) (fun _ => rfl) (by kernel_rfl) (fun _ => rfl) rfl ⟨?_, ?_, ?_, ?_, ?_, ?_, ?_, ?_, ?_, ?_, ?_, ?_, ?_, ?_, ?_, ?_, ?_, ?_, trivial⟩ fun g122 => ?_
    ·exact OpOK2.pu (fun g122 => [(.tmp 3, BP b3 0)]) z2 (fun _ => z1) (fun _ => (Pu.fieldB fo27_1 rfl)) (fun _ => z1) (fun _ _ => z7)
    ·exact OpOK2.of (fun g122 => [(.tmp 45, BP b3 1)]) _ _ (fun g122 _ => g122) rfl rfl (fun _ => z1) (fun g122 => OT.loadB sc25 rfl) (fun _ _ => z7)
    ·exact OpOK2.pu (fun g122 => [(.tmp 1, BP b1 0)]) z2 (fun _ => z1) (fun _ => (Pu.fieldB fo27_1 rfl)) (fun _ => z1) (fun _ _ => z7)
    ·exact OpOK2.of (fun g122 => [(.tmp 47, BP b1 1)]) _ _ (fun g122 _ => g122) rfl rfl (fun _ => z1) (fun g122 => OT.loadB sc25 rfl) (fun _ _ => z7)
    ·exact OpOK2.pu (fun g122 => [(.tmp 5, vI i97)]) z2 (fun _ => z1) (fun _ => Pu.move) (fun _ => z1) (fun _ _ => z7)
    ·exact OpOK2.of (fun g122 => [(.tmp 48, vS a_1 p0.Wet c_1), (.tmp 49, vI i97)]) _ _ (fun g122 _ => g122) rfl rfl (fun _ => z2) (fun g122 => OT.indexB ul25 sz110 hb_1 h123) (fun _ _ => z7)
    ·exact OpOK2.pu (fun g122 => [(.tmp 50, EP a_1 i97 2 0)]) z2 (fun _ => z1) (fun _ => (Pu.fieldE fo110_0 rfl)) (fun _ => z1) (fun _ _ => z7)
    ·exact OpOK2.of (fun g122 => [(.tmp 51, EP a_1 i97 2 0)]) _ _ (fun g122 _ => g122) rfl rfl (fun _ => z1) (fun g122 => OT.loadN (v := vI ((gt p0.Wet i97).At)) sc3 hn127 hlTWet rfl) (fun _ _ => z7)
    ·exact OpOK2.of (fun g122 => []) _ _ (fun g122 x => (x, g122.2.1, g122.2.2)) rfl rfl (fun _ => trivial) (fun g122 => OT.buildF (us := []) (ys := ([] : (List Int))) (enc := (encI .u8)) (hl := fun _ => ⟨rfl, rfl⟩) [] sl22.ul sl22.szE sl22.zc rfl rfl rfl rfl rfl) (fun _ _ => z7)
    ·exact OpOK2.pu (fun g122 => [(.tmp 1, BP b1 0)]) z2 (fun _ => z1) (fun _ => (Pu.fieldB fo27_1 rfl)) (fun _ => z1) (fun _ _ => z7)
    ·exact OpOK2.of (fun g122 => [(.tmp 54, BP b1 1)]) _ _ (fun g122 _ => g122) rfl rfl (fun _ => z1) (fun g122 => OT.loadB sc25 rfl) (fun _ _ => z7)
    ·exact OpOK2.pu (fun g122 => [(.tmp 5, vI i97)]) z2 (fun _ => z1) (fun _ => Pu.move) (fun _ => z1) (fun _ _ => z7)
    ·exact OpOK2.of (fun g122 => [(.tmp 55, vS a_1 p0.Wet c_1), (.tmp 56, vI i97)]) _ _ (fun g122 _ => g122) rfl rfl (fun _ => z2) (fun g122 => OT.indexB ul25 sz110 hb_1 h130) (fun _ _ => z7)
    ·exact OpOK2.pu (fun g122 => [(.tmp 57, EP a_1 i97 2 0)]) z2 (fun _ => z1) (fun _ => (Pu.fieldE fo110_1 rfl)) (fun _ => z1) (fun _ _ => z7)
    ·exact OpOK2.of (fun g122 => [(.tmp 58, EP a_1 i97 2 1)]) _ _ (fun g122 _ => g122) rfl rfl (fun _ => z1) (fun g122 => OT.loadN (v := vS a131 ((gt p0.Wet i97).B) c132) sc22 hn134 hlTWet rfl) (fun _ _ => z7)
    ·exact OpOK2.ofD [16] (by kernel_rfl) (fun g122 => [(.tmp 53, vS g122.1.1 ([] : (List Int)) g122.1.2), (.tmp 59, vS a131 ((gt p0.Wet i97).B) c132)]) _ _ (fun g122 x => (g122.1, x, g122.2.2)) rfl rfl (fun _ => z2) (fun g122 => OT.appendF (enc := (encI .u8)) (hl := fun _ => ⟨rfl, rfl⟩) sl22 ul22 hb133 h137) (fun _ _ => ⟨⟨rfl, rfl, rfl, rfl, rfl, rfl, rfl, rfl, rfl, rfl, rfl, rfl, rfl, rfl, rfl, rfl, trivial, rfl, trivial⟩, rfl, z5⟩)
    ·exact OpOK2.pu (fun g122 => [(.tmp 52, vI ((gt p0.Wet i97).At)), (.tmp 60, vS g122.2.1.1 (([] : (List Int)) ++ ((gt p0.Wet i97).B)) g122.2.1.2)]) z2 (fun _ => z2) (fun g122 => (Pu.build (us := [vI ((gt p0.Wet i97).At), vS g122.2.1.1 (([] : (List Int)) ++ ((gt p0.Wet i97).B)) g122.2.1.2]) (cs := [vI ((gt p0.Wet i97).At), vS g122.2.1.1 (([] : (List Int)) ++ ((gt p0.Wet i97).B)) g122.2.1.2]) [(0, .tmp 52), (1, .tmp 60)] st110 rfl rfl rfl)) (fun _ => z1) (fun _ _ => z7)
    ·exact OpOK2.of (fun g122 => [(.tmp 61, .agg #[vI ((gt p0.Wet i97).At), vS g122.2.1.1 (([] : (List Int)) ++ ((gt p0.Wet i97).B)) g122.2.1.2])]) _ _ (fun g122 x => (g122.1, g122.2.1, x)) rfl rfl (fun _ => z1) (fun g122 => OT.buildO (u := .agg #[vI ((gt p0.Wet i97).At), vS g122.2.1.1 (([] : (List Int)) ++ ((gt p0.Wet i97).B)) g122.2.1.2]) (enc := encTWet) (hl := hlTWet) (sub := fun (x : TWet) => x.B) (.tmp 61) (⟨(gt p0.Wet i97).At, (([] : (List Int)) ++ ((gt p0.Wet i97).B))⟩ : TWet) sl25.ul sl25.szE sl25.zc rfl rfl rfl rfl) (fun _ _ => z7)
    refine HQ.keep [(1, _), (2, _), (3, _), (5, _), (46, _), (62, _)] z6 ?_
    refine HQ.keepR [(1, _), (2, _), (3, _), (7, _), (15, _), (19, _)] z6 rfl ?_
    refine HQ.dRun 3 rfl rfl (by kernel_rfl) (by kernel_rfl) ?_
    obtain ⟨h142, H⟩ := asr H
    refine HQ.opD [15, 19] [15] [19] (OT.appendO (K := kTWet) sl25 ul25 h142) z2 z2 rfl rfl rfl rfl (fun _ => rfl) fun ⟨a140, c141⟩ => ?_
    refine pu (Pu.fieldB fo27_1 rfl) z1 z3 ?_
    refine HQ.opN [3] [3] [] (OT.storeC (cs' := [vS a74 l73 c75, vS a140 (l98 ++ ([(⟨(gt p0.Wet i97).At, (([] : (List Int)) ++ ((gt p0.Wet i97).B))⟩ : TWet)] : (List TWet))) c141, vI p0.Fuse, .bool p0.Dead]) sz25 rfl rfl rfl rfl rfl) z2 z1 rfl rfl rfl (fun _ => rfl) fun _ => ?_
    refine HQ.done ?_
    refine HQ.dEnd rfl ?_
    refine HQ.keep [(1, _), (2, _), (3, _), (5, _)] z4 ?_
    refine HQ.blkN ?_
    refine HQ.thenN ?_
    refine HQ.regionQ ?_
    refine pu Pu.move z1 z3 ?_
    refine pu Pu.add z2 z3 ?_
    refine pu Pu.assign z1 z3 ?_
    refine HQ.done ?_
    refine HQ.keep [(1, _), (2, _), (3, _), (5, _)] z4 ?_
    obtain rfl := Option.some.inj H
    exact HQ.next (a140, c141) z4 z5 rfl
   ·refine HQ.condF rfl hc ?_
    clear hc
    refine HQ.exit ?_
    refine HQ.thenE ?_
    obtain rfl := Option.some.inj H
    exact HQ.out (a99, c100) z4 z5 rfl
  ·rintro ⟨i144, l145⟩ rfl ⟨a146, c147⟩
   clear h148
   replace H := H
   refine HQ.keep [(1, _), (2, _), (3, _), (5, _)] z4 ?_
   refine HQ.keepR [(1, _), (2, _), (3, _), (7, _), (15, _)] z5 rfl ?_
   refine HQ.blkE ?_
   refine HQ.thenN ?_
   refine HQ.rseq ?_
   refine op [3] [3] (OT.loadBA (vs := [vS a74 l73 c75, vS a146 l145 c147, vI p0.Fuse, .bool p0.Dead]) ag27 sz27 rfl rfl) z1 z1 z4 (fun _ => rfl) fun _ => ?_
   refine HQ.opN [2] [2] [] (OT.storeC (cs' := [vS a74 l73 c75, vS a146 l145 c147, vI p0.Fuse, .bool p0.Dead]) sz27 rfl rfl rfl rfl rfl) z2 z1 rfl rfl rfl (fun _ => rfl) fun _ => ?_
   refine HQ.done ?_
   refine HQ.keep [(2, _)] z1 ?_
   refine HQ.ret ?_
   obtain rfl := Option.some.inj H
   exact HQ.fin (vs := [_]) Try.results90 ((a74, c75), (a146, c147)) ⟨⟨_, _, 2, rfl, rfl, ag27, sz27, rfl⟩, trivial⟩ rfl [7, 15] z2 rfl
  ·exact fun r h a w hf => hf.elim
 ·exact fun r h a w hf => hf.elim

theorem spec_l1In_c {w : World} {p0 : Int} {p1 : Int} {p2 : Int}   {r : Bool} (H : spec_l1In p0 p1 p2 = some r) :
  Calls Try.prog 89 #[vI p0, vI p1, vI p2] w (Rt w Nil (fun _ : Unit => .bool r) (fun _ => [])) := by
 rw [spec_l1In] at H
 refine Calls.enter0 (N := 15) (us := [_, _, _]) Try.func89 rfl rfl rfl ?_
 refine HQ.rseq ?_
 refine pu Pu.assign z1 z3 ?_
 refine HQ.done ?_
 refine HQ.keep [(0, _), (1, _), (2, _), (6, _)] z4 ?_
 refine HQ.rseq ?_
 refine pu Pu.move z1 z3 ?_
 refine pu Pu.move z1 z3 ?_
 refine pu Pu.geq z2 z3 ?_
 refine pu Pu.move z1 z3 ?_
 refine HQ.cutAt 4 [(14, .bool ((decide (p0 ≥ p1)) && (decide (p0 ≤ p2)))), (6, .bool false)] [] ?_ ?_
 ·rcases Bool.eq_false_or_eq_true (decide (p0 ≥ p1)) with hg1 | hg1
  ·refine HQ.on rfl rfl hg1 ?_
   refine pu Pu.move z1 z3 ?_
   refine HQ.on rfl rfl hg1 ?_
   refine pu Pu.move z1 z3 ?_
   refine HQ.on rfl rfl hg1 ?_
   refine pu Pu.leq z2 z3 ?_
   refine pu (Pu.pickAT hg1) z2 z3 ?_
   exact HQ.mid z2 trivial rfl
  ·refine HQ.off rfl rfl hg1 rfl ?_
   refine HQ.off rfl rfl hg1 rfl ?_
   refine HQ.off rfl rfl hg1 rfl ?_
   refine pu (Pu.pickAF (u := (decide (p0 ≤ p2))) hg1) z2 z3 ?_
   exact HQ.mid z2 trivial rfl
 refine pu Pu.assign z1 z3 ?_
 refine HQ.done ?_
 refine HQ.keep [(6, _)] z1 ?_
 refine HQ.ret ?_
 obtain rfl := Option.some.inj H
 exact HQ.fin (vs := [_]) Try.results89 () z1 rfl [] trivial rfl

theorem spec_BoxOk_c {w : World} {p0 : TBox}   {r : Bool} (H : spec_BoxOk p0 = some r) :
  Calls Try.prog 128 #[.agg #[vI p0.X0, vI p0.Y0, vI p0.X1, vI p0.Y1]] w (Rt w Nil (fun _ : Unit => .bool r) (fun _ => [])) := by
 rw [spec_BoxOk] at H
 refine Calls.enter0 (N := 25) (us := [_]) Try.func128 rfl rfl rfl ?_
 refine HQ.rseq ?_
 refine op [] [1] (OT.box (cs := [vI p0.X0, vI p0.Y0, vI p0.X1, vI p0.Y1]) rfl) z1 trivial z4 (fun _ => rfl) fun b1 => ?_
 refine pu Pu.assign z1 z3 ?_
 refine HQ.done ?_
 refine HQ.keep [(1, _), (2, _)] z2 ?_
 refine HQ.rseq ?_
 refine pu (Pu.fieldB fo132_0 rfl) z1 z3 ?_
 refine op [1] [1] (OT.loadB sc3 rfl) z1 z1 z4 (fun _ => rfl) fun _ => ?_
 obtain ⟨t2, h3, H⟩ := bnd H
 refine op [] [] (OT.call (us := [_, _, _]) (Pre := []) [.tmp 4, .const (vI 0), .const (vI 255)] Try.call89 rfl rfl fun w F hs hF hp => spec_l1In_c h3) z4 trivial z4 (fun _ => rfl) fun _ => ?_
 refine pu Pu.move z1 z3 ?_
 obtain ⟨c7, h8, H⟩ := bnd H
 refine HQ.cutAt 4 [(10, .bool c7), (1, BP b1 0), (2, .bool false)] [(1, Box b1 [vI p0.X0, vI p0.Y0, vI p0.X1, vI p0.Y1])] ?_ ?_
 ·clear H
  have H := h8
  rcases brk H with ⟨hg4, H⟩ | ⟨hg4, H⟩
  ·refine HQ.on rfl rfl hg4 ?_
   refine pu (Pu.fieldB fo132_1 rfl) z1 z3 ?_
   refine HQ.on rfl rfl hg4 ?_
   refine op [1] [1] (OT.loadB sc3 rfl) z1 z1 z4 (fun _ => rfl) fun _ => ?_
   refine HQ.on rfl rfl hg4 ?_
   obtain ⟨t5, h6, H⟩ := bnd H
   refine op [] [] (OT.call (us := [_, _, _]) (Pre := []) [.tmp 8, .const (vI 0), .const (vI 255)] Try.call89 rfl rfl fun w F hs hF hp => spec_l1In_c h6) z4 trivial z4 (fun _ => rfl) fun _ => ?_
   obtain rfl := Option.some.inj H
   refine pu (Pu.pickC1 hg4) z2 z3 ?_
   exact HQ.mid z3 z1 rfl
  ·obtain rfl := Option.some.inj H
   refine HQ.off rfl rfl hg4 rfl ?_
   refine HQ.off rfl rfl hg4 rfl ?_
   refine HQ.off rfl rfl hg4 rfl ?_
   refine pu (Pu.pickC0 hg4) z2 z3 ?_
   exact HQ.mid z3 z1 rfl
 refine pu Pu.move z1 z3 ?_
 obtain ⟨c12, h13, H⟩ := bnd H
 refine HQ.cutAt 6 [(17, .bool c12), (1, BP b1 0), (2, .bool false)] [(1, Box b1 [vI p0.X0, vI p0.Y0, vI p0.X1, vI p0.Y1])] ?_ ?_
 ·clear H
  have H := h13
  rcases brk H with ⟨hg9, H⟩ | ⟨hg9, H⟩
  ·refine HQ.on rfl rfl hg9 ?_
   refine pu (Pu.fieldB fo132_2 rfl) z1 z3 ?_
   refine HQ.on rfl rfl hg9 ?_
   refine op [1] [1] (OT.loadB sc3 rfl) z1 z1 z4 (fun _ => rfl) fun _ => ?_
   refine HQ.on rfl rfl hg9 ?_
   refine pu (Pu.fieldB fo132_0 rfl) z1 z3 ?_
   refine HQ.on rfl rfl hg9 ?_
   refine op [1] [1] (OT.loadB sc3 rfl) z1 z1 z4 (fun _ => rfl) fun _ => ?_
   refine HQ.on rfl rfl hg9 ?_
   obtain ⟨t10, h11, H⟩ := bnd H
   refine op [] [] (OT.call (us := [_, _, _]) (Pre := []) [.tmp 13, .tmp 15, .const (vI 255)] Try.call89 rfl rfl fun w F hs hF hp => spec_l1In_c h11) z4 trivial z4 (fun _ => rfl) fun _ => ?_
   obtain rfl := Option.some.inj H
   refine pu (Pu.pickC1 hg9) z2 z3 ?_
   exact HQ.mid z3 z1 rfl
  ·obtain rfl := Option.some.inj H
   refine HQ.off rfl rfl hg9 rfl ?_
   refine HQ.off rfl rfl hg9 rfl ?_
   refine HQ.off rfl rfl hg9 rfl ?_
   refine HQ.off rfl rfl hg9 rfl ?_
   refine HQ.off rfl rfl hg9 rfl ?_
   refine pu (Pu.pickC0 hg9) z2 z3 ?_
   exact HQ.mid z3 z1 rfl
 refine pu Pu.move z1 z3 ?_
 obtain ⟨c17, h18, H⟩ := bnd H
 refine HQ.cutAt 6 [(24, .bool c17), (2, .bool false)] [(1, Box b1 [vI p0.X0, vI p0.Y0, vI p0.X1, vI p0.Y1])] ?_ ?_
 ·clear H
  have H := h18
  rcases brk H with ⟨hg14, H⟩ | ⟨hg14, H⟩
  ·refine HQ.on rfl rfl hg14 ?_
   refine pu (Pu.fieldB fo132_3 rfl) z1 z3 ?_
   refine HQ.on rfl rfl hg14 ?_
   refine op [1] [1] (OT.loadB sc3 rfl) z1 z1 z4 (fun _ => rfl) fun _ => ?_
   refine HQ.on rfl rfl hg14 ?_
   refine pu (Pu.fieldB fo132_1 rfl) z1 z3 ?_
   refine HQ.on rfl rfl hg14 ?_
   refine op [1] [1] (OT.loadB sc3 rfl) z1 z1 z4 (fun _ => rfl) fun _ => ?_
   refine HQ.on rfl rfl hg14 ?_
   obtain ⟨t15, h16, H⟩ := bnd H
   refine op [] [] (OT.call (us := [_, _, _]) (Pre := []) [.tmp 20, .tmp 22, .const (vI 255)] Try.call89 rfl rfl fun w F hs hF hp => spec_l1In_c h16) z4 trivial z4 (fun _ => rfl) fun _ => ?_
   obtain rfl := Option.some.inj H
   refine pu (Pu.pickC1 hg14) z2 z3 ?_
   exact HQ.mid z2 z1 rfl
  ·obtain rfl := Option.some.inj H
   refine HQ.off rfl rfl hg14 rfl ?_
   refine HQ.off rfl rfl hg14 rfl ?_
   refine HQ.off rfl rfl hg14 rfl ?_
   refine HQ.off rfl rfl hg14 rfl ?_
   refine HQ.off rfl rfl hg14 rfl ?_
   refine pu (Pu.pickC0 hg14) z2 z3 ?_
   exact HQ.mid z2 z1 rfl
 refine pu Pu.assign z1 z3 ?_
 refine HQ.done ?_
 refine HQ.keep [(2, _)] z1 ?_
 refine HQ.ret ?_
 obtain rfl := Option.some.inj H
 exact HQ.fin (vs := [_]) Try.results128 () z1 rfl [] trivial rfl

theorem spec_EntryAt_c {w : World} {k : Nat} {p0 : (List TEntry)} {p1 : Int} {a_0 : Option Addr} {c_0 : Nat} (hb_0 : BorS kTEntry a_0 c_0 p0 w.heap (Lt w Nil)) {r : Int} (H : spec_EntryAt k p0 p1 = some r) :
  Calls Try.prog 129 #[vS a_0 p0 c_0, vI p1] w (Rt w Nil (fun _ : Unit => vI r) (fun _ => [])) := by
 rw [spec_EntryAt] at H
 refine Calls.enter0 (N := 20) (us := [_, _]) Try.func129 rfl rfl rfl ?_
 refine HQ.rseq ?_
 refine pu Pu.assign z1 z3 ?_
 refine HQ.done ?_
 refine HQ.keep [(0, _), (1, _), (4, _)] z3 ?_
 refine HQ.seq ?_
 refine HQ.rseq ?_
 refine pu Pu.assign z1 z3 ?_
 refine HQ.done ?_
 refine HQ.keep [(0, _), (1, _), (4, _), (5, _)] z4 ?_
 refine HQ.block ?_
 obtain ⟨o5, h7, H⟩ := bnd H
 refine HQ.loop h7 0 (fun (s : Int) (g : Unit) => match s, g with | i2, () => [(0, vS a_0 p0 c_0), (1, vI p1), (4, vI 0), (5, vI i2)]) (fun (s : Int) (g : Unit) => match s, g with | i2, () => []) (fun r => bodyPost Try.prog Try.f129 (Rt w Nil (fun _ : Unit => vI r) (fun _ => [])) .ret) () z4 trivial rfl ?_ ?_ ?_
 ·clear H h7
  rintro i2 _ o H
  rw [spec_EntryAt_b0] at H
  refine HQ.keep [(0, _), (1, _), (4, _), (5, _)] z4 ?_
  refine HQ.keepR [] trivial rfl ?_
  refine HQ.seq ?_
  refine HQ.rseq ?_
  refine pu Pu.move z1 z3 ?_
  refine pu Pu.move z1 z3 ?_
  refine pu (Pu.len ul45) z1 z3 ?_
  refine pu Pu.lss z2 z3 ?_
  refine HQ.done ?_
  refine HQ.keep [(0, _), (1, _), (4, _), (5, _), (9, _)] z5 ?_
  rcases brk H with ⟨hc, H⟩ | ⟨hc, H⟩
  ·refine HQ.condT rfl hc ?_
   clear hc
   refine HQ.skipThen ?_
   refine HQ.seq ?_
   refine HQ.block ?_
   refine HQ.rseq ?_
   refine pu Pu.move z1 z3 ?_
   refine pu Pu.move z1 z3 ?_
   obtain ⟨h4, H⟩ := asr H
   refine op [] [] (OT.indexB ul45 sz134 hb_0 h4) z2 trivial z4 (fun _ => rfl) fun _ => ?_
   refine pu (Pu.fieldE fo134_0 rfl) z1 z3 ?_
   refine op [] [] (OT.loadF sc3 hb_0 h4 rfl) z1 trivial z4 (fun _ => rfl) fun _ => ?_
   refine pu Pu.move z1 z3 ?_
   refine pu Pu.eql z2 z3 ?_
   refine HQ.done ?_
   refine HQ.keep [(0, _), (1, _), (4, _), (5, _), (18, _)] z5 ?_
   rcases brk H with ⟨hc, H⟩ | ⟨hc, H⟩
   ·refine HQ.condT rfl hc ?_
    clear hc
    refine HQ.rseq ?_
    refine pu Pu.move z1 z3 ?_
    refine pu Pu.assign z1 z3 ?_
    refine HQ.done ?_
    refine HQ.keep [(0, _), (1, _), (4, _), (5, _)] z4 ?_
    refine HQ.ret ?_
    refine HQ.blkR ?_
    refine HQ.thenR ?_
    obtain rfl := Option.some.inj H
    refine HQ.retL ?_
    exact HQ.fin (vs := [_]) Try.results129 () z1 rfl [] trivial rfl
   ·refine HQ.condF rfl hc ?_
    clear hc
    refine HQ.skip ?_
    refine HQ.blkN ?_
    refine HQ.thenN ?_
    refine HQ.regionQ ?_
    refine pu Pu.move z1 z3 ?_
    refine pu Pu.add z2 z3 ?_
    refine pu Pu.assign z1 z3 ?_
    refine HQ.done ?_
    refine HQ.keep [(0, _), (1, _), (4, _), (5, _)] z4 ?_
    obtain rfl := Option.some.inj H
    exact HQ.next () z4 trivial rfl
  ·refine HQ.condF rfl hc ?_
   clear hc
   refine HQ.exit ?_
   refine HQ.thenE ?_
   obtain rfl := Option.some.inj H
   exact HQ.out () z4 trivial rfl
 ·rintro i6 rfl _
  clear h7
  replace H := H
  refine HQ.keep [(0, _), (1, _), (4, _), (5, _)] z4 ?_
  refine HQ.keepR [] trivial rfl ?_
  refine HQ.blkE ?_
  refine HQ.thenN ?_
  refine HQ.rseq ?_
  refine pu Pu.assign z1 z3 ?_
  refine HQ.done ?_
  refine HQ.keep [(4, _)] z1 ?_
  refine HQ.ret ?_
  obtain rfl := Option.some.inj H
  exact HQ.fin (vs := [_]) Try.results129 () z1 rfl [] trivial rfl
 ·rintro r rfl a w hr
  obtain rfl := Option.some.inj H
  exact hr

theorem spec_NodeOk_c {w : World} {k : Nat} {p0 : TNode} {a_0 : Option Addr} {c_0 : Nat} (hb_0 : BorS kTEntry a_0 c_0 p0.L w.heap (Lt w Nil)) {r : Bool} (H : spec_NodeOk k p0 = some r) :
  Calls Try.prog 105 #[.agg #[.bool p0.Leaf, vS a_0 p0.L c_0]] w (Rt w Nil (fun _ : Unit => .bool r) (fun _ => [])) := by
 rw [spec_NodeOk] at H
 refine Calls.enter0 (N := 65) (us := [_]) Try.func105 rfl rfl rfl ?_
 refine HQ.rseq ?_
 refine op [] [1] (OT.box (cs := [.bool p0.Leaf, vS a_0 p0.L c_0]) rfl) z1 trivial z4 (fun _ => rfl) fun b1 => ?_
 refine pu Pu.assign z1 z3 ?_
 refine HQ.done ?_
 refine HQ.keep [(1, _), (2, _)] z2 ?_
 refine HQ.seq ?_
 refine HQ.rseq ?_
 refine pu Pu.assign z1 z3 ?_
 refine HQ.done ?_
 refine HQ.keep [(1, _), (2, _), (3, _)] z3 ?_
 refine HQ.block ?_
 obtain ⟨o78, h82, H⟩ := bnd H
 refine HQ.loop h82 0 (fun (s : Int) (g : Unit) => match s, g with | i27, () => [(1, BP b1 0), (2, .bool false), (3, vI i27)]) (fun (s : Int) (g : Unit) => match s, g with | i27, () => [(1, Box b1 [.bool p0.Leaf, vS a_0 p0.L c_0])]) (fun r => bodyPost Try.prog Try.f105 (Rt w Nil (fun _ : Unit => .bool r) (fun _ => [])) .ret) () z3 z1 rfl ?_ ?_ ?_
 ·clear H h82
  rintro i27 _ o H
  rw [spec_NodeOk_b0] at H
  refine HQ.keep [(1, _), (2, _), (3, _)] z3 ?_
  refine HQ.keepR [(1, _)] z1 rfl ?_
  refine HQ.seq ?_
  refine HQ.rseq ?_
  refine pu Pu.move z1 z3 ?_
  refine pu (Pu.fieldB fo47_1 rfl) z1 z3 ?_
  refine op [1] [1] (OT.loadB sc45 rfl) z1 z1 z4 (fun _ => rfl) fun _ => ?_
  refine pu (Pu.len ul45) z1 z3 ?_
  refine pu Pu.lss z2 z3 ?_
  refine HQ.done ?_
  refine HQ.keep [(1, _), (2, _), (3, _), (9, _)] z4 ?_
  rcases brk H with ⟨hc, H⟩ | ⟨hc, H⟩
  ·refine HQ.condT rfl hc ?_
   clear hc
   refine HQ.skipThen ?_
   refine HQ.seq ?_
   refine HQ.block ?_
   refine HQ.rseq ?_
   refine pu (Pu.fieldB fo47_1 rfl) z1 z3 ?_
   refine op [1] [1] (OT.loadB sc45 rfl) z1 z1 z4 (fun _ => rfl) fun _ => ?_
   refine pu Pu.move z1 z3 ?_
   obtain ⟨h53, H⟩ := asr H
   refine op [] [] (OT.indexB ul45 sz134 hb_0 h53) z2 trivial z4 (fun _ => rfl) fun _ => ?_
   refine op [] [] (OT.loadFA (vs := [vI ((gt p0.L i27).N), vI ((gt p0.L i27).R.X0), vI ((gt p0.L i27).R.Y0), vI ((gt p0.L i27).R.X1), vI ((gt p0.L i27).R.Y1)]) ag134 sz134 hb_0 h53 rfl rfl) z1 trivial z4 (fun _ => rfl) fun _ => ?_
   refine op [] [4] (OT.alloc zc134) trivial trivial z4 (fun _ => rfl) fun b54 => ?_
   refine HQ.opN [4] [4] [] (OT.storeC (cs' := [vI ((gt p0.L i27).N), vI ((gt p0.L i27).R.X0), vI ((gt p0.L i27).R.Y0), vI ((gt p0.L i27).R.X1), vI ((gt p0.L i27).R.Y1)]) sz134 rfl rfl rfl rfl rfl) z2 z1 rfl rfl rfl (fun _ => rfl) fun _ => ?_
   refine HQ.done ?_
   refine HQ.keep [(1, _), (2, _), (3, _), (4, _)] z4 ?_
   refine HQ.rseq ?_
   refine pu (Pu.fieldB fo134_1 rfl) z1 z3 ?_
   refine op [4] [4] (OT.loadBA (vs := [vI ((gt p0.L i27).R.X0), vI ((gt p0.L i27).R.Y0), vI ((gt p0.L i27).R.X1), vI ((gt p0.L i27).R.Y1)]) ag132 sz132 rfl rfl) z1 z1 z4 (fun _ => rfl) fun _ => ?_
   obtain ⟨t55, h56, H⟩ := bnd H
   refine op [] [] (OT.call (us := [_]) (Pre := []) [.tmp 18] Try.call128 rfl rfl fun w F hs hF hp => spec_BoxOk_c h56) z2 trivial z4 (fun _ => rfl) fun _ => ?_
   refine pu Pu.not z1 z3 ?_
   refine pu Pu.move z1 z3 ?_
   obtain ⟨c60, h61, H⟩ := bnd H
   refine HQ.cutAt 8 [(29, .bool c60), (1, BP b1 0), (2, .bool false), (3, vI i27), (4, BP b54 0)] [(1, Box b1 [.bool p0.Leaf, vS a_0 p0.L c_0]), (4, Box b54 [vI ((gt p0.L i27).N), vI ((gt p0.L i27).R.X0), vI ((gt p0.L i27).R.Y0), vI ((gt p0.L i27).R.X1), vI ((gt p0.L i27).R.Y1)])] ?_ ?_
   ·clear H
    have H := h61
    rcases brk H with ⟨hg57, H⟩ | ⟨hg57, H⟩
    ·obtain rfl := Option.some.inj H
     refine HQ.off rfl rfl hg57 rfl ?_
     refine HQ.off rfl rfl hg57 rfl ?_
     refine HQ.off rfl rfl hg57 rfl ?_
     refine HQ.off rfl rfl hg57 rfl ?_
     refine HQ.off rfl rfl hg57 rfl ?_
     refine HQ.off rfl rfl hg57 rfl ?_
     refine HQ.off rfl rfl hg57 rfl ?_
     refine pu (Pu.pickC1 hg57) z2 z3 ?_
     exact HQ.mid z5 z2 rfl
    ·refine HQ.on rfl rfl hg57 ?_
     refine pu (Pu.fieldB fo47_1 rfl) z1 z3 ?_
     refine HQ.on rfl rfl hg57 ?_
     refine op [1] [1] (OT.loadB sc45 rfl) z1 z1 z4 (fun _ => rfl) fun _ => ?_
     refine HQ.on rfl rfl hg57 ?_
     refine pu (Pu.fieldB fo134_0 rfl) z1 z3 ?_
     refine HQ.on rfl rfl hg57 ?_
     refine op [4] [4] (OT.loadB sc3 rfl) z1 z1 z4 (fun _ => rfl) fun _ => ?_
     refine HQ.on rfl rfl hg57 ?_
     obtain ⟨t58, h59, H⟩ := bnd H
     refine op [] [] (OT.call (us := [_, _]) (Pre := []) [.tmp 23, .tmp 25] Try.call129 rfl rfl fun w F hs hF hp => spec_EntryAt_c (hb_0.pass hp) h59) z3 trivial z4 (fun _ => rfl) fun _ => ?_
     refine HQ.on rfl rfl hg57 ?_
     refine pu Pu.move z1 z3 ?_
     refine HQ.on rfl rfl hg57 ?_
     refine pu Pu.neq z2 z3 ?_
     obtain rfl := Option.some.inj H
     refine pu (Pu.pickC0 hg57) z2 z3 ?_
     exact HQ.mid z5 z2 rfl
   refine pu Pu.move z1 z3 ?_
   obtain ⟨c68, h69, H⟩ := bnd H
   refine HQ.cutAt 9 [(39, .bool c68), (1, BP b1 0), (2, .bool false), (3, vI i27), (4, BP b54 0)] [(1, Box b1 [.bool p0.Leaf, vS a_0 p0.L c_0]), (4, Box b54 [vI ((gt p0.L i27).N), vI ((gt p0.L i27).R.X0), vI ((gt p0.L i27).R.Y0), vI ((gt p0.L i27).R.X1), vI ((gt p0.L i27).R.Y1)])] ?_ ?_
   ·clear H
    have H := h69
    rcases brk H with ⟨hg62, H⟩ | ⟨hg62, H⟩
    ·obtain rfl := Option.some.inj H
     refine HQ.off rfl rfl hg62 rfl ?_
     refine HQ.off rfl rfl hg62 rfl ?_
     refine HQ.off rfl rfl hg62 rfl ?_
     refine HQ.offU rfl rfl rfl ?_
     refine HQ.offU rfl rfl rfl ?_
     refine HQ.offU rfl rfl rfl ?_
     refine HQ.offU rfl rfl rfl ?_
     refine HQ.off rfl rfl hg62 rfl ?_
     refine pu (Pu.pickC1 hg62) z2 z3 ?_
     exact HQ.mid z5 z2 rfl
    ·refine HQ.on rfl rfl hg62 ?_
     refine pu (Pu.fieldB fo47_0 rfl) z1 z3 ?_
     refine HQ.on rfl rfl hg62 ?_
     refine op [1] [1] (OT.loadB sc4 rfl) z1 z1 z4 (fun _ => rfl) fun _ => ?_
     refine HQ.on rfl rfl hg62 ?_
     refine pu Pu.move z1 z3 ?_
     obtain ⟨c66, h67, H⟩ := bnd H
     refine HQ.cutAt 5 [(38, .bool c66), (1, BP b1 0), (2, .bool false), (3, vI i27), (4, BP b54 0), (30, .bool c60), (31, BP b1 0), (32, .bool p0.Leaf), (33, .bool p0.Leaf)] [(1, Box b1 [.bool p0.Leaf, vS a_0 p0.L c_0]), (4, Box b54 [vI ((gt p0.L i27).N), vI ((gt p0.L i27).R.X0), vI ((gt p0.L i27).R.Y0), vI ((gt p0.L i27).R.X1), vI ((gt p0.L i27).R.Y1)])] ?_ ?_
     ·clear H
      have H := h67
      rcases brk H with ⟨hg63, H⟩ | ⟨hg63, H⟩
      ·refine HQ.on rfl rfl hg63 ?_
       refine pu (Pu.fieldB fo134_0 rfl) z1 z3 ?_
       refine HQ.on rfl rfl hg63 ?_
       refine op [4] [4] (OT.loadB sc3 rfl) z1 z1 z4 (fun _ => rfl) fun _ => ?_
       refine HQ.on rfl rfl hg63 ?_
       obtain ⟨t64, h65, H⟩ := bnd H
       refine op [] [] (OT.call (us := [_, _, _]) (Pre := []) [.tmp 35, .const (vI 1), .const (vI 999)] Try.call89 rfl rfl fun w F hs hF hp => spec_l1In_c h65) z4 trivial z4 (fun _ => rfl) fun _ => ?_
       refine HQ.on rfl rfl hg63 ?_
       refine pu Pu.not z1 z3 ?_
       obtain rfl := Option.some.inj H
       refine HQ.on rfl rfl hg62 ?_
       refine pu (Pu.pickC1 hg63) z2 z3 ?_
       exact HQ.mid z9 z2 rfl
      ·obtain rfl := Option.some.inj H
       refine HQ.off rfl rfl hg63 rfl ?_
       refine HQ.off rfl rfl hg63 rfl ?_
       refine HQ.off rfl rfl hg63 rfl ?_
       refine HQ.off rfl rfl hg63 rfl ?_
       refine HQ.on rfl rfl hg62 ?_
       refine pu (Pu.pickC0 hg63) z2 z3 ?_
       exact HQ.mid z9 z2 rfl
     obtain rfl := Option.some.inj H
     refine pu (Pu.pickC0 hg62) z2 z3 ?_
     exact HQ.mid z5 z2 rfl
   refine pu Pu.move z1 z3 ?_
   obtain ⟨c76, h77, H⟩ := bnd H
   refine HQ.cutAt 10 [(50, .bool c76), (1, BP b1 0), (2, .bool false), (3, vI i27)] [(1, Box b1 [.bool p0.Leaf, vS a_0 p0.L c_0]), (4, Box b54 [vI ((gt p0.L i27).N), vI ((gt p0.L i27).R.X0), vI ((gt p0.L i27).R.Y0), vI ((gt p0.L i27).R.X1), vI ((gt p0.L i27).R.Y1)])] ?_ ?_
   ·clear H
    have H := h77
    rcases brk H with ⟨hg70, H⟩ | ⟨hg70, H⟩
    ·obtain rfl := Option.some.inj H
     refine HQ.off rfl rfl hg70 rfl ?_
     refine HQ.off rfl rfl hg70 rfl ?_
     refine HQ.off rfl rfl hg70 rfl ?_
     refine HQ.off rfl rfl hg70 rfl ?_
     refine HQ.offU rfl rfl rfl ?_
     refine HQ.offU rfl rfl rfl ?_
     refine HQ.offU rfl rfl rfl ?_
     refine HQ.offU rfl rfl rfl ?_
     refine HQ.off rfl rfl hg70 rfl ?_
     refine pu (Pu.pickC1 hg70) z2 z3 ?_
     exact HQ.mid z4 z2 rfl
    ·refine HQ.on rfl rfl hg70 ?_
     refine pu (Pu.fieldB fo47_0 rfl) z1 z3 ?_
     refine HQ.on rfl rfl hg70 ?_
     refine op [1] [1] (OT.loadB sc4 rfl) z1 z1 z4 (fun _ => rfl) fun _ => ?_
     refine HQ.on rfl rfl hg70 ?_
     refine pu Pu.not z1 z3 ?_
     refine HQ.on rfl rfl hg70 ?_
     refine pu Pu.move z1 z3 ?_
     obtain ⟨c74, h75, H⟩ := bnd H
     refine HQ.cutAt 5 [(49, .bool c74), (1, BP b1 0), (2, .bool false), (3, vI i27), (40, .bool c68), (41, BP b1 0), (42, .bool p0.Leaf), (43, .bool (!p0.Leaf)), (44, .bool (!p0.Leaf))] [(1, Box b1 [.bool p0.Leaf, vS a_0 p0.L c_0]), (4, Box b54 [vI ((gt p0.L i27).N), vI ((gt p0.L i27).R.X0), vI ((gt p0.L i27).R.Y0), vI ((gt p0.L i27).R.X1), vI ((gt p0.L i27).R.Y1)])] ?_ ?_
     ·clear H
      have H := h75
      rcases brk H with ⟨hg71, H⟩ | ⟨hg71, H⟩
      ·refine HQ.on rfl rfl hg71 ?_
       refine pu (Pu.fieldB fo134_0 rfl) z1 z3 ?_
       refine HQ.on rfl rfl hg71 ?_
       refine op [4] [4] (OT.loadB sc3 rfl) z1 z1 z4 (fun _ => rfl) fun _ => ?_
       refine HQ.on rfl rfl hg71 ?_
       obtain ⟨t72, h73, H⟩ := bnd H
       refine op [] [] (OT.call (us := [_, _, _]) (Pre := []) [.tmp 46, .const (vI 0), .const (vI 47)] Try.call89 rfl rfl fun w F hs hF hp => spec_l1In_c h73) z4 trivial z4 (fun _ => rfl) fun _ => ?_
       refine HQ.on rfl rfl hg71 ?_
       refine pu Pu.not z1 z3 ?_
       obtain rfl := Option.some.inj H
       refine HQ.on rfl rfl hg70 ?_
       refine pu (Pu.pickC1 hg71) z2 z3 ?_
       exact HQ.mid z9 z2 rfl
      ·obtain rfl := Option.some.inj H
       refine HQ.off rfl rfl hg71 rfl ?_
       refine HQ.off rfl rfl hg71 rfl ?_
       refine HQ.off rfl rfl hg71 rfl ?_
       refine HQ.off rfl rfl hg71 rfl ?_
       refine HQ.on rfl rfl hg70 ?_
       refine pu (Pu.pickC0 hg71) z2 z3 ?_
       exact HQ.mid z9 z2 rfl
     obtain rfl := Option.some.inj H
     refine pu (Pu.pickC0 hg70) z2 z3 ?_
     exact HQ.mid z4 z2 rfl
   refine HQ.done ?_
   refine HQ.keep [(50, _), (1, _), (2, _), (3, _)] z4 ?_
   rcases brk H with ⟨hc, H⟩ | ⟨hc, H⟩
   ·refine HQ.condT rfl hc ?_
    clear hc
    refine HQ.rseq ?_
    refine pu Pu.assign z1 z3 ?_
    refine HQ.done ?_
    refine HQ.keep [(1, _), (2, _), (3, _)] z3 ?_
    refine HQ.ret ?_
    refine HQ.blkR ?_
    refine HQ.thenR ?_
    obtain rfl := Option.some.inj H
    refine HQ.retL ?_
    exact HQ.fin (vs := [_]) Try.results105 () z1 rfl [] trivial rfl
   ·refine HQ.condF rfl hc ?_
    clear hc
    refine HQ.skip ?_
    refine HQ.blkN ?_
    refine HQ.thenN ?_
    refine HQ.regionQ ?_
    refine pu Pu.move z1 z3 ?_
    refine pu Pu.add z2 z3 ?_
    refine pu Pu.assign z1 z3 ?_
    refine HQ.done ?_
    refine HQ.keep [(1, _), (2, _), (3, _)] z3 ?_
    obtain rfl := Option.some.inj H
    exact HQ.next () z3 z1 rfl
  ·refine HQ.condF rfl hc ?_
   clear hc
   refine HQ.exit ?_
   refine HQ.thenE ?_
   obtain rfl := Option.some.inj H
   exact HQ.out () z3 z1 rfl
 ·rintro i79 rfl _
  clear h82
  replace H := H
  refine HQ.keep [(1, _), (2, _), (3, _)] z3 ?_
  refine HQ.keepR [(1, _)] z1 rfl ?_
  refine HQ.blkE ?_
  refine HQ.thenN ?_
  refine HQ.rseq ?_
  refine pu (Pu.fieldB fo47_1 rfl) z1 z3 ?_
  refine op [1] [1] (OT.loadB sc45 rfl) z1 z1 z4 (fun _ => rfl) fun _ => ?_
  refine pu (Pu.len ul45) z1 z3 ?_
  refine pu Pu.leq z2 z3 ?_
  refine pu Pu.move z1 z3 ?_
  refine HQ.cutAt 9 [(64, .bool ((decide (((List.length p0.L : Nat) : Int) ≤ 4)) && (p0.Leaf || (decide (((List.length p0.L : Nat) : Int) > 0))))), (2, .bool false)] [(1, Box b1 [.bool p0.Leaf, vS a_0 p0.L c_0])] ?_ ?_
  ·rcases Bool.eq_false_or_eq_true (decide (((List.length p0.L : Nat) : Int) ≤ 4)) with hg80 | hg80
   ·refine HQ.on rfl rfl hg80 ?_
    refine pu (Pu.fieldB fo47_0 rfl) z1 z3 ?_
    refine HQ.on rfl rfl hg80 ?_
    refine op [1] [1] (OT.loadB sc4 rfl) z1 z1 z4 (fun _ => rfl) fun _ => ?_
    refine HQ.on rfl rfl hg80 ?_
    refine pu Pu.move z1 z3 ?_
    refine HQ.cutAt 5 [(63, .bool (p0.Leaf || (decide (((List.length p0.L : Nat) : Int) > 0)))), (2, .bool false), (55, .bool (decide (((List.length p0.L : Nat) : Int) ≤ 4)))] [(1, Box b1 [.bool p0.Leaf, vS a_0 p0.L c_0])] ?_ ?_
    ·rcases Bool.eq_false_or_eq_true p0.Leaf with hg81 | hg81
     ·refine HQ.off rfl rfl hg81 rfl ?_
      refine HQ.off rfl rfl hg81 rfl ?_
      refine HQ.off rfl rfl hg81 rfl ?_
      refine HQ.off rfl rfl hg81 rfl ?_
      refine HQ.on rfl rfl hg80 ?_
      refine pu (Pu.pickOT (u := (decide (((List.length p0.L : Nat) : Int) > 0))) hg81) z2 z3 ?_
      exact HQ.mid z3 z1 rfl
     ·refine HQ.on rfl rfl hg81 ?_
      refine pu (Pu.fieldB fo47_1 rfl) z1 z3 ?_
      refine HQ.on rfl rfl hg81 ?_
      refine op [1] [1] (OT.loadB sc45 rfl) z1 z1 z4 (fun _ => rfl) fun _ => ?_
      refine HQ.on rfl rfl hg81 ?_
      refine pu (Pu.len ul45) z1 z3 ?_
      refine HQ.on rfl rfl hg81 ?_
      refine pu Pu.gtr z2 z3 ?_
      refine HQ.on rfl rfl hg80 ?_
      refine pu (Pu.pickOF hg81) z2 z3 ?_
      exact HQ.mid z3 z1 rfl
    refine pu (Pu.pickAT hg80) z2 z3 ?_
    exact HQ.mid z2 z1 rfl
   ·refine HQ.off rfl rfl hg80 rfl ?_
    refine HQ.off rfl rfl hg80 rfl ?_
    refine HQ.off rfl rfl hg80 rfl ?_
    refine HQ.offU rfl rfl rfl ?_
    refine HQ.offU rfl rfl rfl ?_
    refine HQ.offU rfl rfl rfl ?_
    refine HQ.offU rfl rfl rfl ?_
    refine HQ.off rfl rfl hg80 rfl ?_
    refine pu (Pu.pickAF (u := (p0.Leaf || (decide (((List.length p0.L : Nat) : Int) > 0)))) hg80) z2 z3 ?_
    exact HQ.mid z2 z1 rfl
  refine pu Pu.assign z1 z3 ?_
  refine HQ.done ?_
  refine HQ.keep [(2, _)] z1 ?_
  refine HQ.ret ?_
  obtain rfl := Option.some.inj H
  exact HQ.fin (vs := [_]) Try.results105 () z1 rfl [] trivial rfl
 ·rintro r rfl a w hr
  obtain rfl := Option.some.inj H
  exact hr

end Go.Proofs.Sx
