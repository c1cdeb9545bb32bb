import Derived.Test.YtkhommmhkeohbaaQdF5
import Derived.KernelRfl
namespace Go.Proofs.Sx
open Go.RowKit
set_option linter.unusedVariables false
set_option linter.unusedSimpArgs false
set_option maxRecDepth 20000
set_option maxHeartbeats 1000000
/-! spec.DrawGetPut -/
theorem spec_DrawGetPut_c {w : World} {k : Nat} {p0 : (List Int)} {a_0 : Option Addr} {c_0 : Nat} (hb_0 : BorS kU8 a_0 c_0 p0 w.heap (Lt w Nil)) {r : Int × (List Int)} (H : spec_DrawGetPut k p0 = some r) :
    Calls Try.prog 59 #[.slice a_0 (List.length p0) c_0] w (Rt w Nil (fun g : Option Addr × Nat => .tuple #[.int .i64 r.1, .slice g.1 (List.length r.2) g.2]) (fun g => [OwnS kU8 g.1 g.2 r.2])) := by
  rw [spec_DrawGetPut] at H
  refine Calls.enter0 (N := 34) (us := [_]) Try.func59 rfl rfl rfl ?_
  refine HQ.rseq ?_
  refine HQ.pu Pu.assign ⟨rfl, trivial⟩ rfl rfl rfl ?_
  refine HQ.pu Pu.assign ⟨rfl, trivial⟩ rfl rfl rfl ?_
  refine HQ.done ?_
  refine HQ.keep [(0, _), (2, _), (3, _)] ⟨rfl, rfl, rfl, trivial⟩ ?_
  refine HQ.rseq ?_
  refine HQ.pu Pu.move ⟨rfl, trivial⟩ rfl rfl rfl ?_
  obtain ⟨t1, h2, H⟩ := bnd H
  refine HQ.op [] [1] (OT.call (us := [_]) (Pre := []) [.tmp 7] Try.call77 rfl rfl fun w F hs hF hp => spec_l1New_c (hb_0.pass hp) h2) ⟨rfl, rfl, trivial⟩ trivial rfl rfl rfl rfl (fun _ => rfl) fun b3 => ?_
  refine HQ.pu Pu.assign ⟨rfl, trivial⟩ rfl rfl rfl ?_
  refine HQ.done ?_
  refine HQ.keep [(2, _), (3, _), (4, _)] ⟨rfl, rfl, rfl, trivial⟩ ?_
  refine HQ.rseq ?_
  refine HQ.pu Pu.move ⟨rfl, trivial⟩ rfl rfl rfl ?_
  refine HQ.op [] [2] (OT.buildF (us := [.int .i64 1, .int .i64 2, .int .i64 2, .int .i64 2, .int .i64 300]) (ys := ([1, 2, 2, 2, 300] : (List Int))) (enc := (encI .i64)) (hl := fun _ => ⟨rfl, rfl⟩) [.const (.int .i64 1), .const (.int .i64 2), .const (.int .i64 2), .const (.int .i64 2), .const (.int .i64 300)] sl33.ul sl33.szE sl33.zc rfl rfl rfl rfl rfl) ⟨rfl, rfl, rfl, rfl, rfl, trivial⟩ trivial rfl rfl rfl rfl (fun _ => rfl) fun ⟨a4, c5⟩ => ?_
  obtain ⟨t6, h7, H⟩ := bnd H
  refine HQ.op [1, 2] [1, 2] (OT.callM (us := [_, _]) (PreX := [Box b3 [.slice a_0 (List.length p0) c_0, .int .i64 t1.i, .int .i64 t1.h]]) (PreL := [OwnS kI a4 c5 ([1, 2, 2, 2, 300] : (List Int))]) [.tmp 9, .tmp 10] Try.call79 rfl rfl fun w FX FL hs1 hF1 hs2 hF2 hp => spec_l1Int_c (p0 := (⟨p0, t1.i, t1.h⟩ : TCur)) (p1 := ([1, 2, 2, 2, 300] : (List Int))) hs1 hF1 (hb_0.passY hp) (hs2.lendY hF2 0 rfl) h7) ⟨rfl, rfl, rfl, trivial⟩ ⟨rfl, rfl, trivial⟩ rfl rfl rfl rfl (fun _ => rfl) fun _ => ?_
  refine HQ.pu Pu.assign ⟨rfl, trivial⟩ rfl rfl rfl ?_
  refine HQ.done ?_
  refine HQ.keep [(2, _), (3, _), (4, _), (5, _)] ⟨rfl, rfl, rfl, rfl, trivial⟩ ?_
  refine HQ.rseq ?_
  refine HQ.pu Pu.move ⟨rfl, trivial⟩ rfl rfl rfl ?_
  obtain ⟨t8, h9, H⟩ := bnd H
  refine HQ.op [1] [3, 1] (OT.callM (us := [_]) (PreX := [Box b3 [.slice a_0 (List.length p0) c_0, .int .i64 t6.2.i, .int .i64 t6.2.h]]) (PreL := []) [.tmp 12] Try.call96 rfl rfl fun w FX FL hs1 hF1 hs2 hF2 hp => spec_l19Change_c (p0 := (⟨p0, t6.2.i, t6.2.h⟩ : TCur)) hs1 hF1 (hb_0.passY hp) h9) ⟨rfl, rfl, trivial⟩ ⟨rfl, trivial⟩ rfl rfl rfl rfl (fun _ => rfl) fun ⟨a10, c11⟩ => ?_
  refine HQ.op [] [4] (OT.alloc zc49) trivial trivial rfl rfl rfl rfl (fun _ => rfl) fun b12 => ?_
  refine HQ.opN [4] [4] [] (OT.storeC (cs' := [.int .i64 t8.1.Page, .bool t8.1.N.Leaf, .slice a10 (List.length t8.1.N.L) c11]) sz49 rfl rfl rfl rfl rfl) ⟨rfl, rfl, trivial⟩ ⟨rfl, trivial⟩ rfl rfl rfl (fun _ => rfl) fun _ => ?_
  refine HQ.done ?_
  refine HQ.keep [(2, _), (3, _), (4, _), (5, _), (6, _)] ⟨rfl, rfl, rfl, rfl, rfl, trivial⟩ ?_
  refine HQ.seq ?_
  refine HQ.rseq ?_
  refine HQ.pu Pu.move ⟨rfl, trivial⟩ rfl rfl rfl ?_
  obtain ⟨t13, h14, H⟩ := bnd H
  refine HQ.op [1] [1] (OT.callM (us := [_, _]) (PreX := [Box b3 [.slice a_0 (List.length p0) c_0, .int .i64 t8.2.i, .int .i64 t8.2.h]]) (PreL := []) [.tmp 14, .const (.int .i64 8)] Try.call87 rfl rfl fun w FX FL hs1 hF1 hs2 hF2 hp => spec_l1Once_c (p0 := (⟨p0, t8.2.i, t8.2.h⟩ : TCur)) (p1 := 8) hs1 hF1 (hb_0.passY hp) h14) ⟨rfl, rfl, rfl, trivial⟩ ⟨rfl, trivial⟩ rfl rfl rfl rfl (fun _ => rfl) fun _ => ?_
  refine HQ.done ?_
  refine HQ.keep [(2, _), (3, _), (4, _), (5, _), (6, _), (15, _)] ⟨rfl, rfl, rfl, rfl, rfl, rfl, trivial⟩ ?_
  rcases brk H with ⟨hc, H⟩ | ⟨hc, H⟩
  · refine HQ.condT rfl hc ?_
    clear hc
    refine HQ.rseq ?_
    refine HQ.pu Pu.move ⟨rfl, trivial⟩ rfl rfl rfl ?_
    refine HQ.pu Pu.move ⟨rfl, trivial⟩ rfl rfl rfl ?_
    refine HQ.pu Pu.move ⟨rfl, trivial⟩ rfl rfl rfl ?_
    refine HQ.pu Pu.move ⟨rfl, trivial⟩ rfl rfl rfl ?_
    obtain ⟨t15, h16, H⟩ := bnd H
    refine HQ.op [1] [5, 1] (OT.callM (us := [_]) (PreX := [Box b3 [.slice a_0 (List.length p0) c_0, .int .i64 t13.2.i, .int .i64 t13.2.h]]) (PreL := []) [.tmp 19] Try.call119 rfl rfl fun w FX FL hs1 hF1 hs2 hF2 hp => spec_l19Draw_c (p0 := (⟨p0, t13.2.i, t13.2.h⟩ : TCur)) hs1 hF1 (hb_0.passY hp) h16) ⟨rfl, rfl, trivial⟩ ⟨rfl, trivial⟩ rfl rfl rfl rfl (fun _ => rfl) fun ⟨a17, c18⟩ => ?_
    obtain ⟨t19, h20, H⟩ := bnd H
    refine HQ.op [5] [6, 5] (OT.call (us := [_, _]) (Pre := [OwnS kTChange a17 c18 t15.1.Puts]) [.tmp 18, .tmp 20] Try.call34 rfl rfl fun w F hs hF hp => spec_EndCell_c (hs.lend hF 0 rfl) h20) ⟨rfl, rfl, rfl, trivial⟩ ⟨rfl, trivial⟩ rfl rfl rfl rfl (fun _ => rfl) fun ⟨a21, c22⟩ => ?_
    obtain ⟨t23, h24, H⟩ := bnd H
    refine HQ.op [1, 6] [7, 1, 6] (OT.callM (us := [_, _]) (PreX := [Box b3 [.slice a_0 (List.length p0) c_0, .int .i64 t15.2.i, .int .i64 t15.2.h]]) (PreL := [OwnS kU8 a21 c22 t19]) [.tmp 17, .tmp 21] Try.call112 rfl rfl fun w FX FL hs1 hF1 hs2 hF2 hp => spec_l19Bytes_c (p0 := (⟨p0, t15.2.i, t15.2.h⟩ : TCur)) (p1 := t19) hs1 hF1 (hb_0.passY hp) (hs2.lendY hF2 0 rfl) h24) ⟨rfl, rfl, rfl, trivial⟩ ⟨rfl, rfl, trivial⟩ rfl rfl rfl rfl (fun _ => rfl) fun ⟨a25, c26⟩ => ?_
    refine HQ.pu Pu.assign ⟨rfl, trivial⟩ rfl rfl rfl ?_
    refine HQ.pu Pu.assign ⟨rfl, trivial⟩ rfl rfl rfl ?_
    refine HQ.done ?_
    refine HQ.keep [(2, _), (3, _), (4, _), (5, _), (6, _)] ⟨rfl, rfl, rfl, rfl, rfl, trivial⟩ ?_
    refine HQ.ret ?_
    refine HQ.thenR ?_
    obtain rfl := Option.some.inj H
    exact HQ.fin (vs := [_, _]) Try.results59 (a25, c26) ⟨rfl, rfl, trivial⟩ rfl [7] ⟨rfl, trivial⟩ rfl
  · refine HQ.condF rfl hc ?_
    clear hc
    refine HQ.skipThen ?_
    obtain ⟨t30, h31, H⟩ := bnd H
    obtain ⟨t32, h33, H⟩ := bnd H
    obtain ⟨t36, h37, H⟩ := bnd H
    refine HQ.drawS mixd [(2, .int .i64 0), (3, .slice none 0 0), (4, BP b3 0), (5, .int .i64 t6.1), (6, BP b12 0)] 11 [⟨[], [], []⟩, ⟨[], [], []⟩, ⟨[], [], []⟩, ⟨[], [], []⟩, ⟨[], [], []⟩, ⟨[], [], []⟩, ⟨[], [0], [3, 4, 5]⟩, ⟨[1, 0], [2, 0], [2, 6]⟩, ⟨[3], [3], []⟩, ⟨[4], [5, 4], [7, 8]⟩, ⟨[2, 5], [6, 7, 5], [1, 9]⟩] [⟨some 6, none⟩, ⟨none, some 7⟩, ⟨some 7, some 10⟩, ⟨none, none⟩, ⟨none, none⟩, ⟨some 9, none⟩, ⟨some 10, none⟩, ⟨some 10, none⟩] (fun (g27 : (Option Addr × Nat) × (Option Addr × Nat) × (Option Addr × Nat)) => [.int .i64 t6.1, BP b3 0, BP b3 0, .int .i64 t6.1, .int .i64 t6.1, .int .i64 t6.1, .slice g27.1.1 (List.length ([t6.1, t6.1, t6.1, 3] : (List Int))) g27.1.2, .int .i64 t30.1, .agg #[.int .i64 t8.1.Page, .bool t8.1.N.Leaf, .slice a10 (List.length t8.1.N.L) c11], .slice g27.2.1.1 (List.length t32) g27.2.1.2, .slice g27.2.2.1 (List.length t36.1) g27.2.2.2]) (fun (g27 : (Option Addr × Nat) × (Option Addr × Nat) × (Option Addr × Nat)) => [OwnS kI g27.1.1 g27.1.2 ([t6.1, t6.1, t6.1, 3] : (List Int)), Box b3 [.slice a_0 (List.length p0) c_0, .int .i64 t13.2.i, .int .i64 t13.2.h], Box b3 [.slice a_0 (List.length p0) c_0, .int .i64 t30.2.i, .int .i64 t30.2.h], Box b12 [.int .i64 t8.1.Page, .bool t8.1.N.Leaf, .slice a10 (List.length t8.1.N.L) c11], OwnS kTEntry a10 c11 t8.1.N.L, OwnS kU8 g27.2.1.1 g27.2.1.2 t32, OwnS kU8 g27.2.2.1 g27.2.2.2 t36.1, Box b3 [.slice a_0 (List.length p0) c_0, .int .i64 t36.2.i, .int .i64 t36.2.h]]) ((none, 0), (none, 0), (none, 0)) [1, 4, 3] [8, 4, 3, 9, 10, 1] [] ⟨rfl, rfl, rfl, rfl, rfl, trivial⟩ ⟨rfl, rfl, rfl, trivial⟩ rfl (by kernel_rfl) (fun _ => rfl) (by kernel_rfl) (fun _ => rfl) ⟨?_, ?_, ?_, ?_, ?_, ?_, ?_, ?_, ?_, ?_, ?_, trivial⟩ fun g27 => ?_
    · exact OpOK.of (fun g27 => [(.tmp 5, .int .i64 t6.1)]) _ _ (fun g27 _ => g27) rfl rfl (fun _ => ⟨rfl, trivial⟩) (fun g27 => Pu.toOT Pu.move) (fun _ _ => ⟨rfl, rfl, ⟨rfl, rfl, rfl, rfl, rfl, rfl, rfl, rfl, trivial⟩⟩)
    · exact OpOK.of (fun g27 => [(.tmp 4, BP b3 0)]) _ _ (fun g27 _ => g27) rfl rfl (fun _ => ⟨rfl, trivial⟩) (fun g27 => Pu.toOT Pu.move) (fun _ _ => ⟨rfl, rfl, ⟨rfl, rfl, rfl, rfl, rfl, rfl, rfl, rfl, trivial⟩⟩)
    · exact OpOK.of (fun g27 => [(.tmp 4, BP b3 0)]) _ _ (fun g27 _ => g27) rfl rfl (fun _ => ⟨rfl, trivial⟩) (fun g27 => Pu.toOT Pu.move) (fun _ _ => ⟨rfl, rfl, ⟨rfl, rfl, rfl, rfl, rfl, rfl, rfl, rfl, trivial⟩⟩)
    · exact OpOK.of (fun g27 => [(.tmp 5, .int .i64 t6.1)]) _ _ (fun g27 _ => g27) rfl rfl (fun _ => ⟨rfl, trivial⟩) (fun g27 => Pu.toOT Pu.move) (fun _ _ => ⟨rfl, rfl, ⟨rfl, rfl, rfl, rfl, rfl, rfl, rfl, rfl, trivial⟩⟩)
    · exact OpOK.of (fun g27 => [(.tmp 5, .int .i64 t6.1)]) _ _ (fun g27 _ => g27) rfl rfl (fun _ => ⟨rfl, trivial⟩) (fun g27 => Pu.toOT Pu.move) (fun _ _ => ⟨rfl, rfl, ⟨rfl, rfl, rfl, rfl, rfl, rfl, rfl, rfl, trivial⟩⟩)
    · exact OpOK.of (fun g27 => [(.tmp 5, .int .i64 t6.1)]) _ _ (fun g27 _ => g27) rfl rfl (fun _ => ⟨rfl, trivial⟩) (fun g27 => Pu.toOT Pu.move) (fun _ _ => ⟨rfl, rfl, ⟨rfl, rfl, rfl, rfl, rfl, rfl, rfl, rfl, trivial⟩⟩)
    · exact OpOK.of (fun g27 => [(.tmp 26, .int .i64 t6.1), (.tmp 27, .int .i64 t6.1), (.tmp 28, .int .i64 t6.1), (.const (.int .i64 3), .int .i64 3)]) _ _ (fun g27 x => (x, g27.2.1, g27.2.2)) rfl rfl (fun _ => ⟨rfl, rfl, rfl, rfl, trivial⟩) (fun g27 => OT.buildF (us := [.int .i64 t6.1, .int .i64 t6.1, .int .i64 t6.1, .int .i64 3]) (ys := ([t6.1, t6.1, t6.1, 3] : (List Int))) (enc := (encI .i64)) (hl := fun _ => ⟨rfl, rfl⟩) [.tmp 26, .tmp 27, .tmp 28, .const (.int .i64 3)] sl33.ul sl33.szE sl33.zc rfl rfl rfl rfl rfl) (fun _ _ => ⟨rfl, rfl, ⟨rfl, rfl, rfl, rfl, rfl, rfl, rfl, rfl, trivial⟩⟩)
    · exact OpOK.of (fun g27 => [(.func 79, .func (.func 79) #[] #[]), (.tmp 25, BP b3 0), (.tmp 29, .slice g27.1.1 (List.length ([t6.1, t6.1, t6.1, 3] : (List Int))) g27.1.2)]) _ _ (fun g27 _ => g27) rfl rfl (fun _ => ⟨rfl, rfl, rfl, trivial⟩) (fun g27 => OT.callM (us := [_, _]) (PreX := [Box b3 [.slice a_0 (List.length p0) c_0, .int .i64 t13.2.i, .int .i64 t13.2.h]]) (PreL := [OwnS kI g27.1.1 g27.1.2 ([t6.1, t6.1, t6.1, 3] : (List Int))]) [.tmp 25, .tmp 29] Try.call79 rfl rfl fun w FX FL hs1 hF1 hs2 hF2 hp => spec_l1Int_c (p0 := (⟨p0, t13.2.i, t13.2.h⟩ : TCur)) (p1 := ([t6.1, t6.1, t6.1, 3] : (List Int))) hs1 hF1 (hb_0.passY hp) (hs2.lendY hF2 0 rfl) h31) (fun _ _ => ⟨rfl, rfl, ⟨rfl, rfl, rfl, rfl, rfl, rfl, rfl, rfl, trivial⟩⟩)
    · exact OpOK.of (fun g27 => [(.tmp 6, BP b12 0)]) _ _ (fun g27 _ => g27) rfl rfl (fun _ => ⟨rfl, trivial⟩) (fun g27 => OT.loadBA (vs := [.int .i64 t8.1.Page, .bool t8.1.N.Leaf, .slice a10 (List.length t8.1.N.L) c11]) ag49 sz49 rfl rfl) (fun _ _ => ⟨rfl, rfl, ⟨rfl, rfl, rfl, rfl, rfl, rfl, rfl, rfl, trivial⟩⟩)
    · exact OpOK.of (fun g27 => [(.func 33, .func (.func 33) #[] #[]), (.tmp 30, .int .i64 t30.1), (.tmp 31, .agg #[.int .i64 t8.1.Page, .bool t8.1.N.Leaf, .slice a10 (List.length t8.1.N.L) c11])]) _ _ (fun g27 x => (g27.1, x, g27.2.2)) rfl rfl (fun _ => ⟨rfl, rfl, rfl, trivial⟩) (fun g27 => OT.call (us := [_, _]) (Pre := [OwnS kTEntry a10 c11 t8.1.N.L]) [.tmp 30, .tmp 31] Try.call33 rfl rfl fun w F hs hF hp => spec_PutCell_c (hs.lend hF 0 rfl) h33) (fun _ _ => ⟨rfl, rfl, ⟨rfl, rfl, rfl, rfl, rfl, rfl, rfl, rfl, trivial⟩⟩)
    · exact OpOK.of (fun g27 => [(.func 112, .func (.func 112) #[] #[]), (.tmp 24, BP b3 0), (.tmp 32, .slice g27.2.1.1 (List.length t32) g27.2.1.2)]) _ _ (fun g27 x => (g27.1, g27.2.1, x)) rfl rfl (fun _ => ⟨rfl, rfl, rfl, trivial⟩) (fun g27 => OT.callM (us := [_, _]) (PreX := [Box b3 [.slice a_0 (List.length p0) c_0, .int .i64 t30.2.i, .int .i64 t30.2.h]]) (PreL := [OwnS kU8 g27.2.1.1 g27.2.1.2 t32]) [.tmp 24, .tmp 32] Try.call112 rfl rfl fun w FX FL hs1 hF1 hs2 hF2 hp => spec_l19Bytes_c (p0 := (⟨p0, t30.2.i, t30.2.h⟩ : TCur)) (p1 := t32) hs1 hF1 (hb_0.passY hp) (hs2.lendY hF2 0 rfl) h37) (fun _ _ => ⟨rfl, rfl, ⟨rfl, rfl, rfl, rfl, rfl, rfl, rfl, rfl, trivial⟩⟩)
    refine HQ.keep [(2, _), (3, _), (23, _), (33, _)] ⟨rfl, rfl, rfl, rfl, trivial⟩ ?_
    refine HQ.keepR [(1, _), (2, _), (3, _), (4, _), (8, _), (9, _), (10, _)] ⟨rfl, rfl, rfl, rfl, rfl, rfl, rfl, trivial⟩ rfl ?_
    refine HQ.pu Pu.assign ⟨rfl, trivial⟩ rfl rfl rfl ?_
    refine HQ.pu Pu.assign ⟨rfl, trivial⟩ rfl rfl rfl ?_
    refine HQ.done ?_
    refine HQ.keep [(2, _), (3, _)] ⟨rfl, rfl, trivial⟩ ?_
    refine HQ.ret ?_
    obtain rfl := Option.some.inj H
    exact HQ.fin (vs := [_, _]) Try.results59 (g27.2.2.1, g27.2.2.2) ⟨rfl, rfl, trivial⟩ rfl [10] ⟨rfl, trivial⟩ rfl

/-! impl.Get2 -/
theorem impl_Get2_c {w : World} {p0 : (List Int)} {p1 : Int} {a_0 : Option Addr} {c_0 : Nat} (hb_0 : BorS kU8 a_0 c_0 p0 w.heap (Lt w Nil)) {r : Int × Bool} (H : impl_Get2 p0 p1 = some r) :
    Calls Try.prog 103 #[.slice a_0 (List.length p0) c_0, .int .i64 p1] w (Rt w Nil (fun _ : Unit => .tuple #[.int .i64 r.1, .bool r.2]) (fun _ => [])) := by
  rw [impl_Get2] at H
  refine Calls.enter0 (N := 28) (us := [_, _]) Try.func103 rfl rfl rfl ?_
  refine HQ.rseq ?_
  refine HQ.pu Pu.assign ⟨rfl, trivial⟩ rfl rfl rfl ?_
  refine HQ.pu Pu.assign ⟨rfl, trivial⟩ rfl rfl rfl ?_
  refine HQ.done ?_
  refine HQ.keep [(0, _), (1, _), (4, _), (5, _)] ⟨rfl, rfl, rfl, rfl, trivial⟩ ?_
  refine HQ.seq ?_
  refine HQ.rseq ?_
  refine HQ.pu Pu.move ⟨rfl, trivial⟩ rfl rfl rfl ?_
  refine HQ.pu Pu.lss ⟨rfl, rfl, trivial⟩ rfl rfl rfl ?_
  refine HQ.pu Pu.move ⟨rfl, trivial⟩ rfl rfl rfl ?_
  refine HQ.cutAt 6 [(14, .bool ((decide (p1 < 0)) || (decide (p1 > (wrap64 (((List.length p0 : Nat) : Int) - 2)))))), (0, .slice a_0 (List.length p0) c_0), (1, .int .i64 p1), (4, .int .i64 0), (5, .bool false)] [] ?_ ?_
  · rcases Bool.eq_false_or_eq_true (decide (p1 < 0)) with hg1 | hg1
    · refine HQ.off rfl rfl hg1 rfl ?_
      refine HQ.off rfl rfl hg1 rfl ?_
      refine HQ.off rfl rfl hg1 rfl ?_
      refine HQ.off rfl rfl hg1 rfl ?_
      refine HQ.off rfl rfl hg1 rfl ?_
      refine HQ.pu (Pu.pickOT (u := (decide (p1 > (wrap64 (((List.length p0 : Nat) : Int) - 2))))) hg1) ⟨rfl, rfl, trivial⟩ rfl rfl rfl ?_
      exact HQ.mid ⟨rfl, rfl, rfl, rfl, rfl, trivial⟩ trivial rfl
    · refine HQ.on rfl rfl hg1 ?_
      refine HQ.pu Pu.move ⟨rfl, trivial⟩ rfl rfl rfl ?_
      refine HQ.on rfl rfl hg1 ?_
      refine HQ.pu Pu.move ⟨rfl, trivial⟩ rfl rfl rfl ?_
      refine HQ.on rfl rfl hg1 ?_
      refine HQ.pu (Pu.len ul22) ⟨rfl, trivial⟩ rfl rfl rfl ?_
      refine HQ.on rfl rfl hg1 ?_
      refine HQ.pu Pu.sub ⟨rfl, rfl, trivial⟩ rfl rfl rfl ?_
      refine HQ.on rfl rfl hg1 ?_
      refine HQ.pu Pu.gtr ⟨rfl, rfl, trivial⟩ rfl rfl rfl ?_
      refine HQ.pu (Pu.pickOF hg1) ⟨rfl, rfl, trivial⟩ rfl rfl rfl ?_
      exact HQ.mid ⟨rfl, rfl, rfl, rfl, rfl, trivial⟩ trivial rfl
  refine HQ.done ?_
  refine HQ.keep [(14, _), (0, _), (1, _), (4, _), (5, _)] ⟨rfl, rfl, rfl, rfl, rfl, trivial⟩ ?_
  rcases brk H with ⟨hc, H⟩ | ⟨hc, H⟩
  · refine HQ.condT rfl hc ?_
    clear hc
    refine HQ.rseq ?_
    refine HQ.pu Pu.assign ⟨rfl, trivial⟩ rfl rfl rfl ?_
    refine HQ.pu Pu.assign ⟨rfl, trivial⟩ rfl rfl rfl ?_
    refine HQ.done ?_
    refine HQ.keep [(0, _), (1, _), (4, _), (5, _)] ⟨rfl, rfl, rfl, rfl, trivial⟩ ?_
    refine HQ.ret ?_
    refine HQ.thenR ?_
    obtain rfl := Option.some.inj H
    exact HQ.fin (vs := [_, _]) Try.results103 () ⟨rfl, rfl, trivial⟩ rfl [] trivial rfl
  · refine HQ.condF rfl hc ?_
    clear hc
    refine HQ.skipThen ?_
    obtain ⟨h3, H⟩ := asr H
    obtain ⟨h4, H⟩ := asr H
    refine HQ.drawS mixd [(0, .slice a_0 (List.length p0) c_0), (1, .int .i64 p1), (4, .int .i64 0), (5, .bool false)] 12 [⟨[], [], []⟩, ⟨[], [], []⟩, ⟨[], [], [0, 1]⟩, ⟨[], [], [2]⟩, ⟨[], [], [3]⟩, ⟨[], [], [4]⟩, ⟨[], [], []⟩, ⟨[], [], []⟩, ⟨[], [], [7]⟩, ⟨[], [], [6, 8]⟩, ⟨[], [], [9]⟩, ⟨[], [], [10]⟩] [] (fun (g2 : Unit) => [.slice a_0 (List.length p0) c_0, .int .i64 p1, EP a_0 p1 1 0, .int .u8 (gt p0 p1), .int .i64 (IntKind.i64.wrap (gt p0 p1)), .int .i64 (wrap64 ((IntKind.i64.wrap (gt p0 p1)) * 2 ^ (min (Int.toNat 8) 64))), .slice a_0 (List.length p0) c_0, .int .i64 p1, .int .i64 (wrap64 (p1 + 1)), EP a_0 (wrap64 (p1 + 1)) 1 0, .int .u8 (gt p0 (wrap64 (p1 + 1))), .int .i64 (IntKind.i64.wrap (gt p0 (wrap64 (p1 + 1))))]) (fun (g2 : Unit) => []) () [] [] [] ⟨rfl, rfl, rfl, rfl, trivial⟩ trivial rfl (by kernel_rfl) (fun _ => rfl) (by kernel_rfl) (fun _ => rfl) ⟨?_, ?_, ?_, ?_, ?_, ?_, ?_, ?_, ?_, ?_, ?_, ?_, trivial⟩ fun g2 => ?_
    · exact OpOK.of (fun g2 => [(.tmp 0, .slice a_0 (List.length p0) c_0)]) _ _ (fun g2 _ => g2) rfl rfl (fun _ => ⟨rfl, trivial⟩) (fun g2 => Pu.toOT Pu.move) (fun _ _ => ⟨rfl, rfl, trivial⟩)
    · exact OpOK.of (fun g2 => [(.tmp 1, .int .i64 p1)]) _ _ (fun g2 _ => g2) rfl rfl (fun _ => ⟨rfl, trivial⟩) (fun g2 => Pu.toOT Pu.move) (fun _ _ => ⟨rfl, rfl, trivial⟩)
    · exact OpOK.of (fun g2 => [(.tmp 15, .slice a_0 (List.length p0) c_0), (.tmp 16, .int .i64 p1)]) _ _ (fun g2 _ => g2) rfl rfl (fun _ => ⟨rfl, rfl, trivial⟩) (fun g2 => OT.indexB ul22 sz5 hb_0 h3) (fun _ _ => ⟨rfl, rfl, trivial⟩)
    · exact OpOK.of (fun g2 => [(.tmp 17, EP a_0 p1 1 0)]) _ _ (fun g2 _ => g2) rfl rfl (fun _ => ⟨rfl, trivial⟩) (fun g2 => OT.loadF sc5 hb_0 h3 rfl) (fun _ _ => ⟨rfl, rfl, trivial⟩)
    · exact OpOK.of (fun g2 => [(.tmp 18, .int .u8 (gt p0 p1))]) _ _ (fun g2 _ => g2) rfl rfl (fun _ => ⟨rfl, trivial⟩) (fun g2 => Pu.toOT (Pu.conv ul5 ul3)) (fun _ _ => ⟨rfl, rfl, trivial⟩)
    · exact OpOK.of (fun g2 => [(.tmp 19, .int .i64 (IntKind.i64.wrap (gt p0 p1))), (.const (.int .u64 8), .int .u64 8)]) _ _ (fun g2 _ => g2) rfl rfl (fun _ => ⟨rfl, rfl, trivial⟩) (fun g2 => Pu.toOT (Pu.shl (by decide))) (fun _ _ => ⟨rfl, rfl, trivial⟩)
    · exact OpOK.of (fun g2 => [(.tmp 0, .slice a_0 (List.length p0) c_0)]) _ _ (fun g2 _ => g2) rfl rfl (fun _ => ⟨rfl, trivial⟩) (fun g2 => Pu.toOT Pu.move) (fun _ _ => ⟨rfl, rfl, trivial⟩)
    · exact OpOK.of (fun g2 => [(.tmp 1, .int .i64 p1)]) _ _ (fun g2 _ => g2) rfl rfl (fun _ => ⟨rfl, trivial⟩) (fun g2 => Pu.toOT Pu.move) (fun _ _ => ⟨rfl, rfl, trivial⟩)
    · exact OpOK.of (fun g2 => [(.tmp 22, .int .i64 p1), (.const (.int .i64 1), .int .i64 1)]) _ _ (fun g2 _ => g2) rfl rfl (fun _ => ⟨rfl, rfl, trivial⟩) (fun g2 => Pu.toOT Pu.add) (fun _ _ => ⟨rfl, rfl, trivial⟩)
    · exact OpOK.of (fun g2 => [(.tmp 21, .slice a_0 (List.length p0) c_0), (.tmp 23, .int .i64 (wrap64 (p1 + 1)))]) _ _ (fun g2 _ => g2) rfl rfl (fun _ => ⟨rfl, rfl, trivial⟩) (fun g2 => OT.indexB ul22 sz5 hb_0 h4) (fun _ _ => ⟨rfl, rfl, trivial⟩)
    · exact OpOK.of (fun g2 => [(.tmp 24, EP a_0 (wrap64 (p1 + 1)) 1 0)]) _ _ (fun g2 _ => g2) rfl rfl (fun _ => ⟨rfl, trivial⟩) (fun g2 => OT.loadF sc5 hb_0 h4 rfl) (fun _ _ => ⟨rfl, rfl, trivial⟩)
    · exact OpOK.of (fun g2 => [(.tmp 25, .int .u8 (gt p0 (wrap64 (p1 + 1))))]) _ _ (fun g2 _ => g2) rfl rfl (fun _ => ⟨rfl, trivial⟩) (fun g2 => Pu.toOT (Pu.conv ul5 ul3)) (fun _ _ => ⟨rfl, rfl, trivial⟩)
    refine HQ.keep [(4, _), (5, _), (20, _), (26, _)] ⟨rfl, rfl, rfl, rfl, trivial⟩ ?_
    refine HQ.keepR [] trivial rfl ?_
    refine HQ.pu Pu.or ⟨rfl, rfl, trivial⟩ rfl rfl rfl ?_
    refine HQ.pu Pu.assign ⟨rfl, trivial⟩ rfl rfl rfl ?_
    refine HQ.pu Pu.assign ⟨rfl, trivial⟩ rfl rfl rfl ?_
    refine HQ.done ?_
    refine HQ.keep [(4, _), (5, _)] ⟨rfl, rfl, trivial⟩ ?_
    refine HQ.ret ?_
    obtain rfl := Option.some.inj H
    exact HQ.fin (vs := [_, _]) Try.results103 () ⟨rfl, rfl, trivial⟩ rfl [] trivial rfl

/-! impl.in -/
theorem impl_in_c {w : World} {p0 : Int} {p1 : Int} {p2 : Int}   {r : Bool} (H : impl_in p0 p1 p2 = some r) :
    Calls Try.prog 83 #[.int .i64 p0, .int .i64 p1, .int .i64 p2] w (Rt w Nil (fun _ : Unit => .bool r) (fun _ => [])) := by
  rw [impl_in] at H
  refine Calls.enter0 (N := 15) (us := [_, _, _]) Try.func83 rfl rfl rfl ?_
  refine HQ.rseq ?_
  refine HQ.pu Pu.assign ⟨rfl, trivial⟩ rfl rfl rfl ?_
  refine HQ.done ?_
  refine HQ.keep [(0, _), (1, _), (2, _), (6, _)] ⟨rfl, rfl, rfl, rfl, trivial⟩ ?_
  refine HQ.rseq ?_
  refine HQ.pu Pu.move ⟨rfl, trivial⟩ rfl rfl rfl ?_
  refine HQ.pu Pu.move ⟨rfl, trivial⟩ rfl rfl rfl ?_
  refine HQ.pu Pu.leq ⟨rfl, rfl, trivial⟩ rfl rfl rfl ?_
  refine HQ.pu Pu.move ⟨rfl, trivial⟩ rfl rfl rfl ?_
  refine HQ.cutAt 4 [(14, .bool ((decide (p1 ≤ p0)) && (decide (p0 ≤ p2)))), (6, .bool false)] [] ?_ ?_
  · rcases Bool.eq_false_or_eq_true (decide (p1 ≤ p0)) with hg1 | hg1
    · refine HQ.on rfl rfl hg1 ?_
      refine HQ.pu Pu.move ⟨rfl, trivial⟩ rfl rfl rfl ?_
      refine HQ.on rfl rfl hg1 ?_
      refine HQ.pu Pu.move ⟨rfl, trivial⟩ rfl rfl rfl ?_
      refine HQ.on rfl rfl hg1 ?_
      refine HQ.pu Pu.leq ⟨rfl, rfl, trivial⟩ rfl rfl rfl ?_
      refine HQ.pu (Pu.pickAT hg1) ⟨rfl, rfl, trivial⟩ rfl rfl rfl ?_
      exact HQ.mid ⟨rfl, rfl, trivial⟩ trivial rfl
    · refine HQ.off rfl rfl hg1 rfl ?_
      refine HQ.off rfl rfl hg1 rfl ?_
      refine HQ.off rfl rfl hg1 rfl ?_
      refine HQ.pu (Pu.pickAF (u := (decide (p0 ≤ p2))) hg1) ⟨rfl, rfl, trivial⟩ rfl rfl rfl ?_
      exact HQ.mid ⟨rfl, rfl, trivial⟩ trivial rfl
  refine HQ.pu Pu.assign ⟨rfl, trivial⟩ rfl rfl rfl ?_
  refine HQ.done ?_
  refine HQ.keep [(6, _)] ⟨rfl, trivial⟩ ?_
  refine HQ.ret ?_
  obtain rfl := Option.some.inj H
  exact HQ.fin (vs := [_]) Try.results83 () ⟨rfl, trivial⟩ rfl [] trivial rfl

/-! impl.BoxOk -/
theorem impl_BoxOk_c {w : World} {p0 : TBox}   {r : Bool} (H : impl_BoxOk p0 = some r) :
    Calls Try.prog 109 #[.agg #[.int .i64 p0.X0, .int .i64 p0.Y0, .int .i64 p0.X1, .int .i64 p0.Y1]] w (Rt w Nil (fun _ : Unit => .bool r) (fun _ => [])) := by
  rw [impl_BoxOk] at H
  refine Calls.enter0 (N := 25) (us := [_]) Try.func109 rfl rfl rfl ?_
  refine HQ.rseq ?_
  refine HQ.op [] [1] (OT.box (cs := [.int .i64 p0.X0, .int .i64 p0.Y0, .int .i64 p0.X1, .int .i64 p0.Y1]) rfl) ⟨rfl, trivial⟩ trivial rfl rfl rfl rfl (fun _ => rfl) fun b1 => ?_
  refine HQ.pu Pu.assign ⟨rfl, trivial⟩ rfl rfl rfl ?_
  refine HQ.done ?_
  refine HQ.keep [(1, _), (2, _)] ⟨rfl, rfl, trivial⟩ ?_
  refine HQ.rseq ?_
  refine HQ.pu (Pu.fieldB fo132_0 rfl) ⟨rfl, trivial⟩ rfl rfl rfl ?_
  refine HQ.op [1] [1] (OT.loadB sc3 rfl) ⟨rfl, trivial⟩ ⟨rfl, trivial⟩ rfl rfl rfl rfl (fun _ => rfl) fun _ => ?_
  refine HQ.pu (Pu.fieldB fo132_2 rfl) ⟨rfl, trivial⟩ rfl rfl rfl ?_
  refine HQ.op [1] [1] (OT.loadB sc3 rfl) ⟨rfl, trivial⟩ ⟨rfl, trivial⟩ rfl rfl rfl rfl (fun _ => rfl) fun _ => ?_
  obtain ⟨t2, h3, H⟩ := bnd H
  refine HQ.op [] [] (OT.call (us := [_, _, _]) (Pre := []) [.tmp 4, .const (.int .i64 0), .tmp 6] Try.call83 rfl rfl fun w F hs hF hp => impl_in_c h3) ⟨rfl, rfl, rfl, rfl, trivial⟩ trivial rfl rfl rfl rfl (fun _ => rfl) fun _ => ?_
  refine HQ.pu Pu.move ⟨rfl, trivial⟩ rfl rfl rfl ?_
  obtain ⟨c7, h8, H⟩ := bnd H
  refine HQ.cutAt 4 [(12, .bool c7), (1, BP b1 0), (2, .bool false)] [(1, Box b1 [.int .i64 p0.X0, .int .i64 p0.Y0, .int .i64 p0.X1, .int .i64 p0.Y1])] ?_ ?_
  · clear H
    have H := h8
    rcases brk H with ⟨hg4, H⟩ | ⟨hg4, H⟩
    · refine HQ.on rfl rfl hg4 ?_
      refine HQ.pu (Pu.fieldB fo132_2 rfl) ⟨rfl, trivial⟩ rfl rfl rfl ?_
      refine HQ.on rfl rfl hg4 ?_
      refine HQ.op [1] [1] (OT.loadB sc3 rfl) ⟨rfl, trivial⟩ ⟨rfl, trivial⟩ rfl rfl rfl rfl (fun _ => rfl) fun _ => ?_
      refine HQ.on rfl rfl hg4 ?_
      obtain ⟨t5, h6, H⟩ := bnd H
      refine HQ.op [] [] (OT.call (us := [_, _, _]) (Pre := []) [.tmp 10, .const (.int .i64 0), .const (.int .i64 255)] Try.call83 rfl rfl fun w F hs hF hp => impl_in_c h6) ⟨rfl, rfl, rfl, rfl, trivial⟩ trivial rfl rfl rfl rfl (fun _ => rfl) fun _ => ?_
      obtain rfl := Option.some.inj H
      refine HQ.pu (Pu.pickC1 hg4) ⟨rfl, rfl, trivial⟩ rfl rfl rfl ?_
      exact HQ.mid ⟨rfl, rfl, rfl, trivial⟩ ⟨rfl, trivial⟩ rfl
    · obtain rfl := Option.some.inj H
      refine HQ.off rfl rfl hg4 rfl ?_
      refine HQ.off rfl rfl hg4 rfl ?_
      refine HQ.off rfl rfl hg4 rfl ?_
      refine HQ.pu (Pu.pickC0 hg4) ⟨rfl, rfl, trivial⟩ rfl rfl rfl ?_
      exact HQ.mid ⟨rfl, rfl, rfl, trivial⟩ ⟨rfl, trivial⟩ rfl
  refine HQ.pu Pu.move ⟨rfl, trivial⟩ rfl rfl rfl ?_
  obtain ⟨c12, h13, H⟩ := bnd H
  refine HQ.cutAt 6 [(19, .bool c12), (1, BP b1 0), (2, .bool false)] [(1, Box b1 [.int .i64 p0.X0, .int .i64 p0.Y0, .int .i64 p0.X1, .int .i64 p0.Y1])] ?_ ?_
  · clear H
    have H := h13
    rcases brk H with ⟨hg9, H⟩ | ⟨hg9, H⟩
    · refine HQ.on rfl rfl hg9 ?_
      refine HQ.pu (Pu.fieldB fo132_1 rfl) ⟨rfl, trivial⟩ rfl rfl rfl ?_
      refine HQ.on rfl rfl hg9 ?_
      refine HQ.op [1] [1] (OT.loadB sc3 rfl) ⟨rfl, trivial⟩ ⟨rfl, trivial⟩ rfl rfl rfl rfl (fun _ => rfl) fun _ => ?_
      refine HQ.on rfl rfl hg9 ?_
      refine HQ.pu (Pu.fieldB fo132_3 rfl) ⟨rfl, trivial⟩ rfl rfl rfl ?_
      refine HQ.on rfl rfl hg9 ?_
      refine HQ.op [1] [1] (OT.loadB sc3 rfl) ⟨rfl, trivial⟩ ⟨rfl, trivial⟩ rfl rfl rfl rfl (fun _ => rfl) fun _ => ?_
      refine HQ.on rfl rfl hg9 ?_
      obtain ⟨t10, h11, H⟩ := bnd H
      refine HQ.op [] [] (OT.call (us := [_, _, _]) (Pre := []) [.tmp 15, .const (.int .i64 0), .tmp 17] Try.call83 rfl rfl fun w F hs hF hp => impl_in_c h11) ⟨rfl, rfl, rfl, rfl, trivial⟩ trivial rfl rfl rfl rfl (fun _ => rfl) fun _ => ?_
      obtain rfl := Option.some.inj H
      refine HQ.pu (Pu.pickC1 hg9) ⟨rfl, rfl, trivial⟩ rfl rfl rfl ?_
      exact HQ.mid ⟨rfl, rfl, rfl, trivial⟩ ⟨rfl, trivial⟩ rfl
    · obtain rfl := Option.some.inj H
      refine HQ.off rfl rfl hg9 rfl ?_
      refine HQ.off rfl rfl hg9 rfl ?_
      refine HQ.off rfl rfl hg9 rfl ?_
      refine HQ.off rfl rfl hg9 rfl ?_
      refine HQ.off rfl rfl hg9 rfl ?_
      refine HQ.pu (Pu.pickC0 hg9) ⟨rfl, rfl, trivial⟩ rfl rfl rfl ?_
      exact HQ.mid ⟨rfl, rfl, rfl, trivial⟩ ⟨rfl, trivial⟩ rfl
  refine HQ.pu Pu.move ⟨rfl, trivial⟩ rfl rfl rfl ?_
  obtain ⟨c17, h18, H⟩ := bnd H
  refine HQ.cutAt 4 [(24, .bool c17), (2, .bool false)] [(1, Box b1 [.int .i64 p0.X0, .int .i64 p0.Y0, .int .i64 p0.X1, .int .i64 p0.Y1])] ?_ ?_
  · clear H
    have H := h18
    rcases brk H with ⟨hg14, H⟩ | ⟨hg14, H⟩
    · refine HQ.on rfl rfl hg14 ?_
      refine HQ.pu (Pu.fieldB fo132_3 rfl) ⟨rfl, trivial⟩ rfl rfl rfl ?_
      refine HQ.on rfl rfl hg14 ?_
      refine HQ.op [1] [1] (OT.loadB sc3 rfl) ⟨rfl, trivial⟩ ⟨rfl, trivial⟩ rfl rfl rfl rfl (fun _ => rfl) fun _ => ?_
      refine HQ.on rfl rfl hg14 ?_
      obtain ⟨t15, h16, H⟩ := bnd H
      refine HQ.op [] [] (OT.call (us := [_, _, _]) (Pre := []) [.tmp 22, .const (.int .i64 0), .const (.int .i64 255)] Try.call83 rfl rfl fun w F hs hF hp => impl_in_c h16) ⟨rfl, rfl, rfl, rfl, trivial⟩ trivial rfl rfl rfl rfl (fun _ => rfl) fun _ => ?_
      obtain rfl := Option.some.inj H
      refine HQ.pu (Pu.pickC1 hg14) ⟨rfl, rfl, trivial⟩ rfl rfl rfl ?_
      exact HQ.mid ⟨rfl, rfl, trivial⟩ ⟨rfl, trivial⟩ rfl
    · obtain rfl := Option.some.inj H
      refine HQ.off rfl rfl hg14 rfl ?_
      refine HQ.off rfl rfl hg14 rfl ?_
      refine HQ.off rfl rfl hg14 rfl ?_
      refine HQ.pu (Pu.pickC0 hg14) ⟨rfl, rfl, trivial⟩ rfl rfl rfl ?_
      exact HQ.mid ⟨rfl, rfl, trivial⟩ ⟨rfl, trivial⟩ rfl
  refine HQ.pu Pu.assign ⟨rfl, trivial⟩ rfl rfl rfl ?_
  refine HQ.done ?_
  refine HQ.keep [(2, _)] ⟨rfl, trivial⟩ ?_
  refine HQ.ret ?_
  obtain rfl := Option.some.inj H
  exact HQ.fin (vs := [_]) Try.results109 () ⟨rfl, trivial⟩ rfl [] trivial rfl

/-! impl.GetEntry -/
theorem impl_GetEntry_c {w : World} {p0 : (List Int)} {p1 : Int} {a_0 : Option Addr} {c_0 : Nat} (hb_0 : BorS kU8 a_0 c_0 p0 w.heap (Lt w Nil)) {r : TEntry × Bool} (H : impl_GetEntry p0 p1 = some r) :
    Calls Try.prog 127 #[.slice a_0 (List.length p0) c_0, .int .i64 p1] w (Rt w Nil (fun _ : Unit => .tuple #[.agg #[.int .i64 r.1.N, .int .i64 r.1.R.X0, .int .i64 r.1.R.Y0, .int .i64 r.1.R.X1, .int .i64 r.1.R.Y1], .bool r.2]) (fun _ => [])) := by
  rw [impl_GetEntry] at H
  refine Calls.enter0 (N := 58) (us := [_, _]) Try.func127 rfl rfl rfl ?_
  refine HQ.rseq ?_
  refine HQ.op [] [1] (OT.alloc zc134) trivial trivial rfl rfl rfl rfl (fun _ => rfl) fun b1 => ?_
  refine HQ.pu Pu.assign ⟨rfl, trivial⟩ rfl rfl rfl ?_
  refine HQ.done ?_
  refine HQ.keep [(0, _), (1, _), (4, _), (5, _)] ⟨rfl, rfl, rfl, rfl, trivial⟩ ?_
  refine HQ.seq ?_
  refine HQ.rseq ?_
  refine HQ.pu Pu.move ⟨rfl, trivial⟩ rfl rfl rfl ?_
  refine HQ.pu Pu.lss ⟨rfl, rfl, trivial⟩ rfl rfl rfl ?_
  refine HQ.pu Pu.move ⟨rfl, trivial⟩ rfl rfl rfl ?_
  refine HQ.cutAt 6 [(17, .bool ((decide (p1 < 0)) || (decide (p1 > (wrap64 (((List.length p0 : Nat) : Int) - 6)))))), (0, .slice a_0 (List.length p0) c_0), (1, .int .i64 p1), (4, BP b1 0), (5, .bool false)] [(1, Box b1 [.int .i64 0, .int .i64 0, .int .i64 0, .int .i64 0, .int .i64 0])] ?_ ?_
  · rcases Bool.eq_false_or_eq_true (decide (p1 < 0)) with hg2 | hg2
    · refine HQ.off rfl rfl hg2 rfl ?_
      refine HQ.off rfl rfl hg2 rfl ?_
      refine HQ.off rfl rfl hg2 rfl ?_
      refine HQ.off rfl rfl hg2 rfl ?_
      refine HQ.off rfl rfl hg2 rfl ?_
      refine HQ.pu (Pu.pickOT (u := (decide (p1 > (wrap64 (((List.length p0 : Nat) : Int) - 6))))) hg2) ⟨rfl, rfl, trivial⟩ rfl rfl rfl ?_
      exact HQ.mid ⟨rfl, rfl, rfl, rfl, rfl, trivial⟩ ⟨rfl, trivial⟩ rfl
    · refine HQ.on rfl rfl hg2 ?_
      refine HQ.pu Pu.move ⟨rfl, trivial⟩ rfl rfl rfl ?_
      refine HQ.on rfl rfl hg2 ?_
      refine HQ.pu Pu.move ⟨rfl, trivial⟩ rfl rfl rfl ?_
      refine HQ.on rfl rfl hg2 ?_
      refine HQ.pu (Pu.len ul22) ⟨rfl, trivial⟩ rfl rfl rfl ?_
      refine HQ.on rfl rfl hg2 ?_
      refine HQ.pu Pu.sub ⟨rfl, rfl, trivial⟩ rfl rfl rfl ?_
      refine HQ.on rfl rfl hg2 ?_
      refine HQ.pu Pu.gtr ⟨rfl, rfl, trivial⟩ rfl rfl rfl ?_
      refine HQ.pu (Pu.pickOF hg2) ⟨rfl, rfl, trivial⟩ rfl rfl rfl ?_
      exact HQ.mid ⟨rfl, rfl, rfl, rfl, rfl, trivial⟩ ⟨rfl, trivial⟩ rfl
  refine HQ.done ?_
  refine HQ.keep [(17, _), (0, _), (1, _), (4, _), (5, _)] ⟨rfl, rfl, rfl, rfl, rfl, trivial⟩ ?_
  rcases brk H with ⟨hc, H⟩ | ⟨hc, H⟩
  · refine HQ.condT rfl hc ?_
    clear hc
    refine HQ.rseq ?_
    refine HQ.pu (Pu.build (us := []) (cs := [.int .i64 0, .int .i64 0, .int .i64 0, .int .i64 0, .int .i64 0]) [] st134 rfl rfl rfl) trivial rfl rfl rfl ?_
    refine HQ.opN [1] [1] [] (OT.storeC (cs' := [.int .i64 0, .int .i64 0, .int .i64 0, .int .i64 0, .int .i64 0]) sz134 rfl rfl rfl rfl rfl) ⟨rfl, rfl, trivial⟩ ⟨rfl, trivial⟩ rfl rfl rfl (fun _ => rfl) fun _ => ?_
    refine HQ.pu Pu.assign ⟨rfl, trivial⟩ rfl rfl rfl ?_
    refine HQ.done ?_
    refine HQ.keep [(0, _), (1, _), (4, _), (5, _)] ⟨rfl, rfl, rfl, rfl, trivial⟩ ?_
    refine HQ.ret ?_
    refine HQ.thenR ?_
    obtain rfl := Option.some.inj H
    exact HQ.fin (vs := [_, _]) Try.results127 () ⟨⟨_, _, 1, rfl, rfl, ag134, sz134, rfl⟩, rfl, trivial⟩ rfl [] trivial rfl
  · refine HQ.condF rfl hc ?_
    clear hc
    refine HQ.skipThen ?_
    refine HQ.rseq ?_
    refine HQ.pu Pu.move ⟨rfl, trivial⟩ rfl rfl rfl ?_
    refine HQ.pu Pu.move ⟨rfl, trivial⟩ rfl rfl rfl ?_
    obtain ⟨t3, h4, H⟩ := bnd H
    refine HQ.op [] [] (OT.call (us := [_, _]) (Pre := []) [.tmp 20, .tmp 21] Try.call103 rfl rfl fun w F hs hF hp => impl_Get2_c (hb_0.pass hp) h4) ⟨rfl, rfl, rfl, trivial⟩ trivial rfl rfl rfl rfl (fun _ => rfl) fun _ => ?_
    refine HQ.pu Pu.move ⟨rfl, trivial⟩ rfl rfl rfl ?_
    refine HQ.pu (Pu.extract rfl) ⟨rfl, trivial⟩ rfl rfl rfl ?_
    refine HQ.pu (Pu.extract rfl) ⟨rfl, trivial⟩ rfl rfl rfl ?_
    refine HQ.pu Pu.assign ⟨rfl, trivial⟩ rfl rfl rfl ?_
    refine HQ.pu Pu.assign ⟨rfl, trivial⟩ rfl rfl rfl ?_
    refine HQ.done ?_
    refine HQ.keep [(0, _), (1, _), (4, _), (5, _), (6, _)] ⟨rfl, rfl, rfl, rfl, rfl, trivial⟩ ?_
    obtain ⟨h6, H⟩ := asr H
    obtain ⟨h7, H⟩ := asr H
    obtain ⟨h8, H⟩ := asr H
    obtain ⟨h9, H⟩ := asr H
    refine HQ.drawS mixd [(0, .slice a_0 (List.length p0) c_0), (1, .int .i64 p1), (4, BP b1 0), (5, .bool false), (6, .int .i64 t3.1)] 28 [⟨[], [], []⟩, ⟨[], [], []⟩, ⟨[], [], []⟩, ⟨[], [], [2]⟩, ⟨[], [], [1, 3]⟩, ⟨[], [], [4]⟩, ⟨[], [], [5]⟩, ⟨[], [], []⟩, ⟨[], [], []⟩, ⟨[], [], [8]⟩, ⟨[], [], [7, 9]⟩, ⟨[], [], [10]⟩, ⟨[], [], [11]⟩, ⟨[], [], []⟩, ⟨[], [], []⟩, ⟨[], [], [14]⟩, ⟨[], [], [13, 15]⟩, ⟨[], [], [16]⟩, ⟨[], [], [17]⟩, ⟨[], [], []⟩, ⟨[], [], []⟩, ⟨[], [], [20]⟩, ⟨[], [], [19, 21]⟩, ⟨[], [], [22]⟩, ⟨[], [], [23]⟩, ⟨[], [], [6, 12, 18, 24]⟩, ⟨[], [], [0, 25]⟩, ⟨[], [0], []⟩] [⟨some 27, none⟩] (fun (g5 : Nat) => [.int .i64 t3.1, .slice a_0 (List.length p0) c_0, .int .i64 p1, .int .i64 (wrap64 (p1 + 2)), EP a_0 (wrap64 (p1 + 2)) 1 0, .int .u8 (gt p0 (wrap64 (p1 + 2))), .int .i64 (IntKind.i64.wrap (gt p0 (wrap64 (p1 + 2)))), .slice a_0 (List.length p0) c_0, .int .i64 p1, .int .i64 (wrap64 (p1 + 3)), EP a_0 (wrap64 (p1 + 3)) 1 0, .int .u8 (gt p0 (wrap64 (p1 + 3))), .int .i64 (IntKind.i64.wrap (gt p0 (wrap64 (p1 + 3)))), .slice a_0 (List.length p0) c_0, .int .i64 p1, .int .i64 (wrap64 (p1 + 4)), EP a_0 (wrap64 (p1 + 4)) 1 0, .int .u8 (gt p0 (wrap64 (p1 + 4))), .int .i64 (IntKind.i64.wrap (gt p0 (wrap64 (p1 + 4)))), .slice a_0 (List.length p0) c_0, .int .i64 p1, .int .i64 (wrap64 (p1 + 5)), EP a_0 (wrap64 (p1 + 5)) 1 0, .int .u8 (gt p0 (wrap64 (p1 + 5))), .int .i64 (IntKind.i64.wrap (gt p0 (wrap64 (p1 + 5)))), .agg #[.int .i64 (IntKind.i64.wrap (gt p0 (wrap64 (p1 + 2)))), .int .i64 (IntKind.i64.wrap (gt p0 (wrap64 (p1 + 3)))), .int .i64 (IntKind.i64.wrap (gt p0 (wrap64 (p1 + 4)))), .int .i64 (IntKind.i64.wrap (gt p0 (wrap64 (p1 + 5))))], .agg #[.int .i64 t3.1, .int .i64 (IntKind.i64.wrap (gt p0 (wrap64 (p1 + 2)))), .int .i64 (IntKind.i64.wrap (gt p0 (wrap64 (p1 + 3)))), .int .i64 (IntKind.i64.wrap (gt p0 (wrap64 (p1 + 4)))), .int .i64 (IntKind.i64.wrap (gt p0 (wrap64 (p1 + 5))))], BP g5 0]) (fun (g5 : Nat) => [Box g5 [.int .i64 0, .int .i64 0, .int .i64 0, .int .i64 0, .int .i64 0]]) 0 [] [2] [] ⟨rfl, rfl, rfl, rfl, rfl, trivial⟩ trivial rfl (by kernel_rfl) (fun _ => rfl) (by kernel_rfl) (fun _ => rfl) ⟨?_, ?_, ?_, ?_, ?_, ?_, ?_, ?_, ?_, ?_, ?_, ?_, ?_, ?_, ?_, ?_, ?_, ?_, ?_, ?_, ?_, ?_, ?_, ?_, ?_, ?_, ?_, ?_, trivial⟩ fun g5 => ?_
    · exact OpOK.of (fun g5 => [(.tmp 6, .int .i64 t3.1)]) _ _ (fun g5 _ => g5) rfl rfl (fun _ => ⟨rfl, trivial⟩) (fun g5 => Pu.toOT Pu.move) (fun _ _ => ⟨rfl, rfl, ⟨rfl, trivial⟩⟩)
    · exact OpOK.of (fun g5 => [(.tmp 0, .slice a_0 (List.length p0) c_0)]) _ _ (fun g5 _ => g5) rfl rfl (fun _ => ⟨rfl, trivial⟩) (fun g5 => Pu.toOT Pu.move) (fun _ _ => ⟨rfl, rfl, ⟨rfl, trivial⟩⟩)
    · exact OpOK.of (fun g5 => [(.tmp 1, .int .i64 p1)]) _ _ (fun g5 _ => g5) rfl rfl (fun _ => ⟨rfl, trivial⟩) (fun g5 => Pu.toOT Pu.move) (fun _ _ => ⟨rfl, rfl, ⟨rfl, trivial⟩⟩)
    · exact OpOK.of (fun g5 => [(.tmp 27, .int .i64 p1), (.const (.int .i64 2), .int .i64 2)]) _ _ (fun g5 _ => g5) rfl rfl (fun _ => ⟨rfl, rfl, trivial⟩) (fun g5 => Pu.toOT Pu.add) (fun _ _ => ⟨rfl, rfl, ⟨rfl, trivial⟩⟩)
    · exact OpOK.of (fun g5 => [(.tmp 26, .slice a_0 (List.length p0) c_0), (.tmp 28, .int .i64 (wrap64 (p1 + 2)))]) _ _ (fun g5 _ => g5) rfl rfl (fun _ => ⟨rfl, rfl, trivial⟩) (fun g5 => OT.indexB ul22 sz5 hb_0 h6) (fun _ _ => ⟨rfl, rfl, ⟨rfl, trivial⟩⟩)
    · exact OpOK.of (fun g5 => [(.tmp 29, EP a_0 (wrap64 (p1 + 2)) 1 0)]) _ _ (fun g5 _ => g5) rfl rfl (fun _ => ⟨rfl, trivial⟩) (fun g5 => OT.loadF sc5 hb_0 h6 rfl) (fun _ _ => ⟨rfl, rfl, ⟨rfl, trivial⟩⟩)
    · exact OpOK.of (fun g5 => [(.tmp 30, .int .u8 (gt p0 (wrap64 (p1 + 2))))]) _ _ (fun g5 _ => g5) rfl rfl (fun _ => ⟨rfl, trivial⟩) (fun g5 => Pu.toOT (Pu.conv ul5 ul3)) (fun _ _ => ⟨rfl, rfl, ⟨rfl, trivial⟩⟩)
    · exact OpOK.of (fun g5 => [(.tmp 0, .slice a_0 (List.length p0) c_0)]) _ _ (fun g5 _ => g5) rfl rfl (fun _ => ⟨rfl, trivial⟩) (fun g5 => Pu.toOT Pu.move) (fun _ _ => ⟨rfl, rfl, ⟨rfl, trivial⟩⟩)
    · exact OpOK.of (fun g5 => [(.tmp 1, .int .i64 p1)]) _ _ (fun g5 _ => g5) rfl rfl (fun _ => ⟨rfl, trivial⟩) (fun g5 => Pu.toOT Pu.move) (fun _ _ => ⟨rfl, rfl, ⟨rfl, trivial⟩⟩)
    · exact OpOK.of (fun g5 => [(.tmp 33, .int .i64 p1), (.const (.int .i64 3), .int .i64 3)]) _ _ (fun g5 _ => g5) rfl rfl (fun _ => ⟨rfl, rfl, trivial⟩) (fun g5 => Pu.toOT Pu.add) (fun _ _ => ⟨rfl, rfl, ⟨rfl, trivial⟩⟩)
    · exact OpOK.of (fun g5 => [(.tmp 32, .slice a_0 (List.length p0) c_0), (.tmp 34, .int .i64 (wrap64 (p1 + 3)))]) _ _ (fun g5 _ => g5) rfl rfl (fun _ => ⟨rfl, rfl, trivial⟩) (fun g5 => OT.indexB ul22 sz5 hb_0 h7) (fun _ _ => ⟨rfl, rfl, ⟨rfl, trivial⟩⟩)
    · exact OpOK.of (fun g5 => [(.tmp 35, EP a_0 (wrap64 (p1 + 3)) 1 0)]) _ _ (fun g5 _ => g5) rfl rfl (fun _ => ⟨rfl, trivial⟩) (fun g5 => OT.loadF sc5 hb_0 h7 rfl) (fun _ _ => ⟨rfl, rfl, ⟨rfl, trivial⟩⟩)
    · exact OpOK.of (fun g5 => [(.tmp 36, .int .u8 (gt p0 (wrap64 (p1 + 3))))]) _ _ (fun g5 _ => g5) rfl rfl (fun _ => ⟨rfl, trivial⟩) (fun g5 => Pu.toOT (Pu.conv ul5 ul3)) (fun _ _ => ⟨rfl, rfl, ⟨rfl, trivial⟩⟩)
    · exact OpOK.of (fun g5 => [(.tmp 0, .slice a_0 (List.length p0) c_0)]) _ _ (fun g5 _ => g5) rfl rfl (fun _ => ⟨rfl, trivial⟩) (fun g5 => Pu.toOT Pu.move) (fun _ _ => ⟨rfl, rfl, ⟨rfl, trivial⟩⟩)
    · exact OpOK.of (fun g5 => [(.tmp 1, .int .i64 p1)]) _ _ (fun g5 _ => g5) rfl rfl (fun _ => ⟨rfl, trivial⟩) (fun g5 => Pu.toOT Pu.move) (fun _ _ => ⟨rfl, rfl, ⟨rfl, trivial⟩⟩)
    · exact OpOK.of (fun g5 => [(.tmp 39, .int .i64 p1), (.const (.int .i64 4), .int .i64 4)]) _ _ (fun g5 _ => g5) rfl rfl (fun _ => ⟨rfl, rfl, trivial⟩) (fun g5 => Pu.toOT Pu.add) (fun _ _ => ⟨rfl, rfl, ⟨rfl, trivial⟩⟩)
    · exact OpOK.of (fun g5 => [(.tmp 38, .slice a_0 (List.length p0) c_0), (.tmp 40, .int .i64 (wrap64 (p1 + 4)))]) _ _ (fun g5 _ => g5) rfl rfl (fun _ => ⟨rfl, rfl, trivial⟩) (fun g5 => OT.indexB ul22 sz5 hb_0 h8) (fun _ _ => ⟨rfl, rfl, ⟨rfl, trivial⟩⟩)
    · exact OpOK.of (fun g5 => [(.tmp 41, EP a_0 (wrap64 (p1 + 4)) 1 0)]) _ _ (fun g5 _ => g5) rfl rfl (fun _ => ⟨rfl, trivial⟩) (fun g5 => OT.loadF sc5 hb_0 h8 rfl) (fun _ _ => ⟨rfl, rfl, ⟨rfl, trivial⟩⟩)
    · exact OpOK.of (fun g5 => [(.tmp 42, .int .u8 (gt p0 (wrap64 (p1 + 4))))]) _ _ (fun g5 _ => g5) rfl rfl (fun _ => ⟨rfl, trivial⟩) (fun g5 => Pu.toOT (Pu.conv ul5 ul3)) (fun _ _ => ⟨rfl, rfl, ⟨rfl, trivial⟩⟩)
    · exact OpOK.of (fun g5 => [(.tmp 0, .slice a_0 (List.length p0) c_0)]) _ _ (fun g5 _ => g5) rfl rfl (fun _ => ⟨rfl, trivial⟩) (fun g5 => Pu.toOT Pu.move) (fun _ _ => ⟨rfl, rfl, ⟨rfl, trivial⟩⟩)
    · exact OpOK.of (fun g5 => [(.tmp 1, .int .i64 p1)]) _ _ (fun g5 _ => g5) rfl rfl (fun _ => ⟨rfl, trivial⟩) (fun g5 => Pu.toOT Pu.move) (fun _ _ => ⟨rfl, rfl, ⟨rfl, trivial⟩⟩)
    · exact OpOK.of (fun g5 => [(.tmp 45, .int .i64 p1), (.const (.int .i64 5), .int .i64 5)]) _ _ (fun g5 _ => g5) rfl rfl (fun _ => ⟨rfl, rfl, trivial⟩) (fun g5 => Pu.toOT Pu.add) (fun _ _ => ⟨rfl, rfl, ⟨rfl, trivial⟩⟩)
    · exact OpOK.of (fun g5 => [(.tmp 44, .slice a_0 (List.length p0) c_0), (.tmp 46, .int .i64 (wrap64 (p1 + 5)))]) _ _ (fun g5 _ => g5) rfl rfl (fun _ => ⟨rfl, rfl, trivial⟩) (fun g5 => OT.indexB ul22 sz5 hb_0 h9) (fun _ _ => ⟨rfl, rfl, ⟨rfl, trivial⟩⟩)
    · exact OpOK.of (fun g5 => [(.tmp 47, EP a_0 (wrap64 (p1 + 5)) 1 0)]) _ _ (fun g5 _ => g5) rfl rfl (fun _ => ⟨rfl, trivial⟩) (fun g5 => OT.loadF sc5 hb_0 h9 rfl) (fun _ _ => ⟨rfl, rfl, ⟨rfl, trivial⟩⟩)
    · exact OpOK.of (fun g5 => [(.tmp 48, .int .u8 (gt p0 (wrap64 (p1 + 5))))]) _ _ (fun g5 _ => g5) rfl rfl (fun _ => ⟨rfl, trivial⟩) (fun g5 => Pu.toOT (Pu.conv ul5 ul3)) (fun _ _ => ⟨rfl, rfl, ⟨rfl, trivial⟩⟩)
    · exact OpOK.of (fun g5 => [(.tmp 31, .int .i64 (IntKind.i64.wrap (gt p0 (wrap64 (p1 + 2))))), (.tmp 37, .int .i64 (IntKind.i64.wrap (gt p0 (wrap64 (p1 + 3))))), (.tmp 43, .int .i64 (IntKind.i64.wrap (gt p0 (wrap64 (p1 + 4))))), (.tmp 49, .int .i64 (IntKind.i64.wrap (gt p0 (wrap64 (p1 + 5)))))]) _ _ (fun g5 _ => g5) rfl rfl (fun _ => ⟨rfl, rfl, rfl, rfl, trivial⟩) (fun g5 => Pu.toOT (Pu.build (us := [.int .i64 (IntKind.i64.wrap (gt p0 (wrap64 (p1 + 2)))), .int .i64 (IntKind.i64.wrap (gt p0 (wrap64 (p1 + 3)))), .int .i64 (IntKind.i64.wrap (gt p0 (wrap64 (p1 + 4)))), .int .i64 (IntKind.i64.wrap (gt p0 (wrap64 (p1 + 5))))]) (cs := [.int .i64 (IntKind.i64.wrap (gt p0 (wrap64 (p1 + 2)))), .int .i64 (IntKind.i64.wrap (gt p0 (wrap64 (p1 + 3)))), .int .i64 (IntKind.i64.wrap (gt p0 (wrap64 (p1 + 4)))), .int .i64 (IntKind.i64.wrap (gt p0 (wrap64 (p1 + 5))))]) [(0, .tmp 31), (1, .tmp 37), (2, .tmp 43), (3, .tmp 49)] st132 rfl rfl rfl)) (fun _ _ => ⟨rfl, rfl, ⟨rfl, trivial⟩⟩)
    · exact OpOK.of (fun g5 => [(.tmp 25, .int .i64 t3.1), (.tmp 50, .agg #[.int .i64 (IntKind.i64.wrap (gt p0 (wrap64 (p1 + 2)))), .int .i64 (IntKind.i64.wrap (gt p0 (wrap64 (p1 + 3)))), .int .i64 (IntKind.i64.wrap (gt p0 (wrap64 (p1 + 4)))), .int .i64 (IntKind.i64.wrap (gt p0 (wrap64 (p1 + 5))))])]) _ _ (fun g5 _ => g5) rfl rfl (fun _ => ⟨rfl, rfl, trivial⟩) (fun g5 => Pu.toOT (Pu.build (us := [.int .i64 t3.1, .agg #[.int .i64 (IntKind.i64.wrap (gt p0 (wrap64 (p1 + 2)))), .int .i64 (IntKind.i64.wrap (gt p0 (wrap64 (p1 + 3)))), .int .i64 (IntKind.i64.wrap (gt p0 (wrap64 (p1 + 4)))), .int .i64 (IntKind.i64.wrap (gt p0 (wrap64 (p1 + 5))))]]) (cs := [.int .i64 t3.1, .int .i64 (IntKind.i64.wrap (gt p0 (wrap64 (p1 + 2)))), .int .i64 (IntKind.i64.wrap (gt p0 (wrap64 (p1 + 3)))), .int .i64 (IntKind.i64.wrap (gt p0 (wrap64 (p1 + 4)))), .int .i64 (IntKind.i64.wrap (gt p0 (wrap64 (p1 + 5))))]) [(0, .tmp 25), (1, .tmp 50)] st134 rfl rfl rfl)) (fun _ _ => ⟨rfl, rfl, ⟨rfl, trivial⟩⟩)
    · exact OpOK.of (fun g5 => []) _ _ (fun g5 x => x) rfl rfl (fun _ => trivial) (fun g5 => OT.alloc zc134) (fun _ _ => ⟨rfl, rfl, ⟨rfl, trivial⟩⟩)
    refine HQ.keep [(4, _), (5, _), (51, _), (8, _)] ⟨rfl, rfl, rfl, rfl, trivial⟩ ?_
    refine HQ.keepR [(1, _), (2, _)] ⟨rfl, rfl, trivial⟩ rfl ?_
    refine HQ.opN [2] [2] [] (OT.storeC (cs' := [.int .i64 t3.1, .int .i64 (IntKind.i64.wrap (gt p0 (wrap64 (p1 + 2)))), .int .i64 (IntKind.i64.wrap (gt p0 (wrap64 (p1 + 3)))), .int .i64 (IntKind.i64.wrap (gt p0 (wrap64 (p1 + 4)))), .int .i64 (IntKind.i64.wrap (gt p0 (wrap64 (p1 + 5))))]) sz134 rfl rfl rfl rfl rfl) ⟨rfl, rfl, trivial⟩ ⟨rfl, trivial⟩ rfl rfl rfl (fun _ => rfl) fun _ => ?_
    refine HQ.done ?_
    refine HQ.keep [(4, _), (5, _), (8, _)] ⟨rfl, rfl, rfl, trivial⟩ ?_
    refine HQ.seq ?_
    refine HQ.rseq ?_
    refine HQ.pu (Pu.fieldB fo134_1 rfl) ⟨rfl, trivial⟩ rfl rfl rfl ?_
    refine HQ.op [2] [2] (OT.loadBA (vs := [.int .i64 (IntKind.i64.wrap (gt p0 (wrap64 (p1 + 2)))), .int .i64 (IntKind.i64.wrap (gt p0 (wrap64 (p1 + 3)))), .int .i64 (IntKind.i64.wrap (gt p0 (wrap64 (p1 + 4)))), .int .i64 (IntKind.i64.wrap (gt p0 (wrap64 (p1 + 5))))]) ag132 sz132 rfl rfl) ⟨rfl, trivial⟩ ⟨rfl, trivial⟩ rfl rfl rfl rfl (fun _ => rfl) fun _ => ?_
    obtain ⟨t11, h12, H⟩ := bnd H
    refine HQ.op [] [] (OT.call (us := [_]) (Pre := []) [.tmp 53] Try.call109 rfl rfl fun w F hs hF hp => impl_BoxOk_c h12) ⟨rfl, rfl, trivial⟩ trivial rfl rfl rfl rfl (fun _ => rfl) fun _ => ?_
    refine HQ.pu Pu.not ⟨rfl, trivial⟩ rfl rfl rfl ?_
    refine HQ.done ?_
    refine HQ.keep [(4, _), (5, _), (8, _), (55, _)] ⟨rfl, rfl, rfl, rfl, trivial⟩ ?_
    rcases brk H with ⟨hc, H⟩ | ⟨hc, H⟩
    · refine HQ.condT rfl hc ?_
      clear hc
      refine HQ.rseq ?_
      refine HQ.pu (Pu.build (us := []) (cs := [.int .i64 0, .int .i64 0, .int .i64 0, .int .i64 0, .int .i64 0]) [] st134 rfl rfl rfl) trivial rfl rfl rfl ?_
      refine HQ.opN [1] [1] [] (OT.storeC (cs' := [.int .i64 0, .int .i64 0, .int .i64 0, .int .i64 0, .int .i64 0]) sz134 rfl rfl rfl rfl rfl) ⟨rfl, rfl, trivial⟩ ⟨rfl, trivial⟩ rfl rfl rfl (fun _ => rfl) fun _ => ?_
      refine HQ.pu Pu.assign ⟨rfl, trivial⟩ rfl rfl rfl ?_
      refine HQ.done ?_
      refine HQ.keep [(4, _), (5, _), (8, _)] ⟨rfl, rfl, rfl, trivial⟩ ?_
      refine HQ.ret ?_
      refine HQ.thenR ?_
      obtain rfl := Option.some.inj H
      exact HQ.fin (vs := [_, _]) Try.results127 () ⟨⟨_, _, 1, rfl, rfl, ag134, sz134, rfl⟩, rfl, trivial⟩ rfl [] trivial rfl
    · refine HQ.condF rfl hc ?_
      clear hc
      refine HQ.skipThen ?_
      refine HQ.rseq ?_
      refine HQ.op [2] [2] (OT.loadBA (vs := [.int .i64 t3.1, .int .i64 (IntKind.i64.wrap (gt p0 (wrap64 (p1 + 2)))), .int .i64 (IntKind.i64.wrap (gt p0 (wrap64 (p1 + 3)))), .int .i64 (IntKind.i64.wrap (gt p0 (wrap64 (p1 + 4)))), .int .i64 (IntKind.i64.wrap (gt p0 (wrap64 (p1 + 5))))]) ag134 sz134 rfl rfl) ⟨rfl, trivial⟩ ⟨rfl, trivial⟩ rfl rfl rfl rfl (fun _ => rfl) fun _ => ?_
      refine HQ.opN [1] [1] [] (OT.storeC (cs' := [.int .i64 t3.1, .int .i64 (IntKind.i64.wrap (gt p0 (wrap64 (p1 + 2)))), .int .i64 (IntKind.i64.wrap (gt p0 (wrap64 (p1 + 3)))), .int .i64 (IntKind.i64.wrap (gt p0 (wrap64 (p1 + 4)))), .int .i64 (IntKind.i64.wrap (gt p0 (wrap64 (p1 + 5))))]) sz134 rfl rfl rfl rfl rfl) ⟨rfl, rfl, trivial⟩ ⟨rfl, trivial⟩ rfl rfl rfl (fun _ => rfl) fun _ => ?_
      refine HQ.pu Pu.assign ⟨rfl, trivial⟩ rfl rfl rfl ?_
      refine HQ.done ?_
      refine HQ.keep [(4, _), (5, _)] ⟨rfl, rfl, trivial⟩ ?_
      refine HQ.ret ?_
      obtain rfl := Option.some.inj H
      exact HQ.fin (vs := [_, _]) Try.results127 () ⟨⟨_, _, 1, rfl, rfl, ag134, sz134, rfl⟩, rfl, trivial⟩ rfl [] trivial rfl

/-! impl.EntryAt$1 -/
theorem impl_EntryAt_1_c {w : World} {p0 : TEntry} {q0 : Int} {β_q0 : Nat} {F0 : Fp} (hs0 : Sat [Box β_q0 [.int .i64 q0]] w.heap F0) (hF0 : ∀ b, F0 b → b < w.heap.size)  {r : Bool × Int} (H : impl_EntryAt_1 p0 q0 = some r) :
    Calls Try.prog 132 #[.agg #[.int .i64 p0.N, .int .i64 p0.R.X0, .int .i64 p0.R.Y0, .int .i64 p0.R.X1, .int .i64 p0.R.Y1], BP β_q0 0] w (Rt w F0 (fun _ : Unit => .bool r.1) (fun _ => [Box β_q0 [.int .i64 r.2]])) := by
  rw [impl_EntryAt_1] at H
  refine Calls.enter (N := 8) (us := [_, _]) (F0 := F0) (Γ0 := [(1, Box β_q0 [.int .i64 q0])]) Try.func132 rfl rfl rfl hs0 hF0 ?_
  refine HQ.rseq ?_
  refine HQ.op [] [2] (OT.box (cs := [.int .i64 p0.N, .int .i64 p0.R.X0, .int .i64 p0.R.Y0, .int .i64 p0.R.X1, .int .i64 p0.R.Y1]) rfl) ⟨rfl, trivial⟩ trivial rfl rfl rfl rfl (fun _ => rfl) fun b1 => ?_
  refine HQ.pu Pu.assign ⟨rfl, trivial⟩ rfl rfl rfl ?_
  refine HQ.done ?_
  refine HQ.keep [(1, _), (2, _), (3, _)] ⟨rfl, rfl, rfl, trivial⟩ ?_
  refine HQ.rseq ?_
  refine HQ.pu (Pu.fieldB fo134_0 rfl) ⟨rfl, trivial⟩ rfl rfl rfl ?_
  refine HQ.op [2] [2] (OT.loadB sc3 rfl) ⟨rfl, trivial⟩ ⟨rfl, trivial⟩ rfl rfl rfl rfl (fun _ => rfl) fun _ => ?_
  refine HQ.op [1] [1] (OT.loadB sc3 rfl) ⟨rfl, trivial⟩ ⟨rfl, trivial⟩ rfl rfl rfl rfl (fun _ => rfl) fun _ => ?_
  refine HQ.pu Pu.eql ⟨rfl, rfl, trivial⟩ rfl rfl rfl ?_
  refine HQ.pu Pu.assign ⟨rfl, trivial⟩ rfl rfl rfl ?_
  refine HQ.done ?_
  refine HQ.keep [(3, _)] ⟨rfl, trivial⟩ ?_
  refine HQ.ret ?_
  obtain rfl := Option.some.inj H
  exact HQ.fin (vs := [_]) Try.results132 () ⟨rfl, trivial⟩ rfl [1] ⟨rfl, trivial⟩ rfl

/-! slices.IndexFunc(()impl.Entry,impl.Entry) -/
theorem slices_IndexFunc_impl_Entry_impl_Entry_impl_EntryAt_1_c {w : World} {k : Nat} {p0 : (List TEntry)} {p1_0 : Int} {a_0 : Option Addr} {c_0 : Nat} {β_1_0 : Nat} {F0 : Fp} (hs0 : Sat [Box β_1_0 [.int .i64 p1_0]] w.heap F0) (hF0 : ∀ b, F0 b → b < w.heap.size) (hb_0 : BorS kTEntry a_0 c_0 p0 w.heap (Lt w F0)) {r : Int × Int} (H : slices_IndexFunc_impl_Entry_impl_Entry_impl_EntryAt_1 k p0 p1_0 = some r) :
    Calls Try.prog 131 #[.slice a_0 (List.length p0) c_0, .func (.func 132) #[] #[BP β_1_0 0]] w (Rt w F0 (fun _ : Unit => .int .i64 r.1) (fun _ => [Box β_1_0 [.int .i64 r.2]])) := by
  rw [slices_IndexFunc_impl_Entry_impl_Entry_impl_EntryAt_1] at H
  refine Calls.enter (N := 19) (us := [_, _]) (F0 := F0) (Γ0 := [(1, Box β_1_0 [.int .i64 p1_0])]) Try.func131 rfl rfl rfl hs0 hF0 ?_
  refine HQ.rseq ?_
  refine HQ.pu Pu.assign ⟨rfl, trivial⟩ rfl rfl rfl ?_
  refine HQ.done ?_
  refine HQ.keep [(0, _), (1, _), (4, _)] ⟨rfl, rfl, rfl, trivial⟩ ?_
  refine HQ.seq ?_
  refine HQ.rseq ?_
  refine HQ.pu Pu.move ⟨rfl, trivial⟩ rfl rfl rfl ?_
  refine HQ.pu (Pu.len ul45) ⟨rfl, trivial⟩ rfl rfl rfl ?_
  refine HQ.pu Pu.move ⟨rfl, trivial⟩ rfl rfl rfl ?_
  refine HQ.done ?_
  refine HQ.keep [(0, _), (1, _), (4, _), (7, _), (8, _)] ⟨rfl, rfl, rfl, rfl, rfl, trivial⟩ ?_
  refine HQ.block ?_
  obtain ⟨o12, h15, H⟩ := bnd H
  refine HQ.loop h15 0 (fun (s : Int × Int) (g : Unit) => match s, g with | (i4, i5), () => [(0, .slice a_0 (List.length p0) c_0), (1, .func (.func 132) #[] #[BP β_1_0 0]), (4, .int .i64 0), (7, .int .i64 ((List.length p0 : Nat) : Int)), (8, .int .i64 i4)]) (fun (s : Int × Int) (g : Unit) => match s, g with | (i4, i5), () => [(1, Box β_1_0 [.int .i64 i5])]) (fun r => bodyPost Try.prog Try.f131 (Rt w F0 (fun _ : Unit => .int .i64 r.1) (fun _ => [Box β_1_0 [.int .i64 r.2]])) .ret) () ⟨rfl, rfl, rfl, rfl, rfl, trivial⟩ ⟨rfl, trivial⟩ rfl ?_ ?_ ?_
  · clear H h15
    rintro ⟨i4, i5⟩ _ o H
    rw [slices_IndexFunc_impl_Entry_impl_Entry_impl_EntryAt_1_b0] at H
    refine HQ.keep [(0, _), (1, _), (4, _), (7, _), (8, _)] ⟨rfl, rfl, rfl, rfl, rfl, trivial⟩ ?_
    refine HQ.keepR [(1, _)] ⟨rfl, trivial⟩ rfl ?_
    refine HQ.rseq ?_
    refine HQ.pu Pu.lss ⟨rfl, rfl, trivial⟩ rfl rfl rfl ?_
    refine HQ.done ?_
    refine HQ.keep [(0, _), (1, _), (4, _), (7, _), (8, _), (9, _)] ⟨rfl, rfl, rfl, rfl, rfl, rfl, trivial⟩ ?_
    refine HQ.seq ?_
    rcases brk H with ⟨hc, H⟩ | ⟨hc, H⟩
    · refine HQ.condT rfl hc ?_
      clear hc
      refine HQ.skipThen ?_
      refine HQ.seq ?_
      refine HQ.block ?_
      refine HQ.rseq ?_
      refine HQ.pu Pu.move ⟨rfl, trivial⟩ rfl rfl rfl ?_
      refine HQ.pu Pu.assign ⟨rfl, trivial⟩ rfl rfl rfl ?_
      refine HQ.done ?_
      refine HQ.keep [(0, _), (1, _), (4, _), (7, _), (8, _), (5, _)] ⟨rfl, rfl, rfl, rfl, rfl, rfl, trivial⟩ ?_
      refine HQ.rseq ?_
      refine HQ.pu Pu.move ⟨rfl, trivial⟩ rfl rfl rfl ?_
      refine HQ.pu Pu.move ⟨rfl, trivial⟩ rfl rfl rfl ?_
      refine HQ.pu Pu.move ⟨rfl, trivial⟩ rfl rfl rfl ?_
      obtain ⟨h9, H⟩ := asr H
      refine HQ.op [] [] (OT.indexB ul45 sz134 hb_0 h9) ⟨rfl, rfl, trivial⟩ trivial rfl rfl rfl rfl (fun _ => rfl) fun _ => ?_
      refine HQ.op [] [] (OT.loadFA (vs := [.int .i64 ((gt p0 i4).N), .int .i64 ((gt p0 i4).R.X0), .int .i64 ((gt p0 i4).R.Y0), .int .i64 ((gt p0 i4).R.X1), .int .i64 ((gt p0 i4).R.Y1)]) ag134 sz134 hb_0 h9 rfl rfl) ⟨rfl, trivial⟩ trivial rfl rfl rfl rfl (fun _ => rfl) fun _ => ?_
      obtain ⟨t10, h11, H⟩ := bnd H
      refine HQ.op [1] [1] (OT.callV (us := [.agg #[.int .i64 ((gt p0 i4).N), .int .i64 ((gt p0 i4).R.X0), .int .i64 ((gt p0 i4).R.Y0), .int .i64 ((gt p0 i4).R.X1), .int .i64 ((gt p0 i4).R.Y1)]]) (cap := #[BP β_1_0 0]) (all := #[.agg #[.int .i64 ((gt p0 i4).N), .int .i64 ((gt p0 i4).R.X0), .int .i64 ((gt p0 i4).R.Y0), .int .i64 ((gt p0 i4).R.X1), .int .i64 ((gt p0 i4).R.Y1)], BP β_1_0 0]) (PreX := [Box β_1_0 [.int .i64 i5]]) (PreL := []) [.tmp 15] Try.call132 rfl rfl rfl fun w FX FL hs1 hF1 hs2 hF2 hp => impl_EntryAt_1_c (p0 := (gt p0 i4)) (q0 := i5) hs1 hF1 h11) ⟨rfl, rfl, trivial⟩ ⟨rfl, trivial⟩ rfl rfl rfl rfl (fun _ => rfl) fun _ => ?_
      refine HQ.done ?_
      refine HQ.keep [(0, _), (1, _), (4, _), (7, _), (8, _), (5, _), (16, _)] ⟨rfl, rfl, rfl, rfl, rfl, rfl, rfl, trivial⟩ ?_
      rcases brk H with ⟨hc, H⟩ | ⟨hc, H⟩
      · refine HQ.condT rfl hc ?_
        clear hc
        refine HQ.rseq ?_
        refine HQ.pu Pu.move ⟨rfl, trivial⟩ rfl rfl rfl ?_
        refine HQ.pu Pu.assign ⟨rfl, trivial⟩ rfl rfl rfl ?_
        refine HQ.done ?_
        refine HQ.keep [(0, _), (1, _), (4, _), (7, _), (8, _)] ⟨rfl, rfl, rfl, rfl, rfl, trivial⟩ ?_
        refine HQ.ret ?_
        refine HQ.blkR ?_
        refine HQ.thenR ?_
        obtain rfl := Option.some.inj H
        refine HQ.retL ?_
        exact HQ.fin (vs := [_]) Try.results131 () ⟨rfl, trivial⟩ rfl [1] ⟨rfl, trivial⟩ rfl
      · refine HQ.condF rfl hc ?_
        clear hc
        refine HQ.skip ?_
        refine HQ.blkN ?_
        refine HQ.thenN ?_
        refine HQ.regionQ ?_
        refine HQ.pu Pu.add ⟨rfl, rfl, trivial⟩ rfl rfl rfl ?_
        refine HQ.pu Pu.move ⟨rfl, trivial⟩ rfl rfl rfl ?_
        refine HQ.done ?_
        refine HQ.keep [(0, _), (1, _), (4, _), (7, _), (8, _)] ⟨rfl, rfl, rfl, rfl, rfl, trivial⟩ ?_
        obtain rfl := Option.some.inj H
        exact HQ.next () ⟨rfl, rfl, rfl, rfl, rfl, trivial⟩ ⟨rfl, trivial⟩ rfl
    · refine HQ.condF rfl hc ?_
      clear hc
      refine HQ.exit ?_
      refine HQ.thenE ?_
      obtain rfl := Option.some.inj H
      exact HQ.out () ⟨rfl, rfl, rfl, rfl, rfl, trivial⟩ ⟨rfl, trivial⟩ rfl
  · rintro ⟨i13, i14⟩ rfl _
    clear h15
    replace H := H
    refine HQ.keep [(0, _), (1, _), (4, _), (7, _), (8, _)] ⟨rfl, rfl, rfl, rfl, rfl, trivial⟩ ?_
    refine HQ.keepR [(1, _)] ⟨rfl, trivial⟩ rfl ?_
    refine HQ.blkE ?_
    refine HQ.thenN ?_
    refine HQ.rseq ?_
    refine HQ.pu Pu.assign ⟨rfl, trivial⟩ rfl rfl rfl ?_
    refine HQ.done ?_
    refine HQ.keep [(4, _)] ⟨rfl, trivial⟩ ?_
    refine HQ.ret ?_
    obtain rfl := Option.some.inj H
    exact HQ.fin (vs := [_]) Try.results131 () ⟨rfl, trivial⟩ rfl [1] ⟨rfl, trivial⟩ rfl
  · rintro r rfl a w hr
    obtain rfl := Option.some.inj H
    exact hr

/-! impl.EntryAt -/
theorem impl_EntryAt_c {w : World} {k : Nat} {p0 : (List TEntry)} {p1 : Int} {a_0 : Option Addr} {c_0 : Nat} (hb_0 : BorS kTEntry a_0 c_0 p0 w.heap (Lt w Nil)) {r : Int} (H : impl_EntryAt k p0 p1 = some r) :
    Calls Try.prog 110 #[.slice a_0 (List.length p0) c_0, .int .i64 p1] w (Rt w Nil (fun _ : Unit => .int .i64 r) (fun _ => [])) := by
  rw [impl_EntryAt] at H
  refine Calls.enter0 (N := 8) (us := [_, _]) Try.func110 rfl rfl rfl ?_
  refine HQ.rseq ?_
  refine HQ.op [] [1] (OT.box (cs := [.int .i64 p1]) rfl) ⟨rfl, trivial⟩ trivial rfl rfl rfl rfl (fun _ => rfl) fun b1 => ?_
  refine HQ.pu Pu.assign ⟨rfl, trivial⟩ rfl rfl rfl ?_
  refine HQ.done ?_
  refine HQ.keep [(0, _), (3, _), (4, _)] ⟨rfl, rfl, rfl, trivial⟩ ?_
  refine HQ.rseq ?_
  refine HQ.pu Pu.move ⟨rfl, trivial⟩ rfl rfl rfl ?_
  refine HQ.pu (Pu.makeFunc (us := [BP b1 0]) [.tmp 3] rfl rfl) ⟨rfl, trivial⟩ rfl rfl rfl ?_
  obtain ⟨t2, h3, H⟩ := bnd H
  refine HQ.op [1] [1] (OT.callM (us := [_, _]) (PreX := [Box b1 [.int .i64 p1]]) (PreL := []) [.tmp 5, .tmp 6] Try.call131 rfl rfl fun w FX FL hs1 hF1 hs2 hF2 hp => slices_IndexFunc_impl_Entry_impl_Entry_impl_EntryAt_1_c (p0 := p0) (p1_0 := p1) hs1 hF1 (hb_0.passY hp) h3) ⟨rfl, rfl, rfl, trivial⟩ ⟨rfl, trivial⟩ rfl rfl rfl rfl (fun _ => rfl) fun _ => ?_
  refine HQ.pu Pu.assign ⟨rfl, trivial⟩ rfl rfl rfl ?_
  refine HQ.done ?_
  refine HQ.keep [(4, _)] ⟨rfl, trivial⟩ ?_
  refine HQ.ret ?_
  obtain rfl := Option.some.inj H
  exact HQ.fin (vs := [_]) Try.results110 () ⟨rfl, trivial⟩ rfl [] trivial rfl

end Go.Proofs.Sx
