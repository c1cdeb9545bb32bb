import Derived.Test.YtkhommmhkeohbaaQdF9
import Derived.KernelRfl
namespace Go.Proofs.Sx
open Go.RowKit
set_option linter.unusedVariables false
set_option linter.unusedSimpArgs false
set_option maxRecDepth 20000
set_option maxHeartbeats 1000000
/-! spec.DrawGetEnd -/
theorem spec_DrawGetEnd_c {w : World} {k : Nat} {p0 : (List Int)} {a_0 : Option Addr} {c_0 : Nat} (hb_0 : BorS kU8 a_0 c_0 p0 w.heap (Lt w Nil)) {r : Int × (List Int)} (H : spec_DrawGetEnd k p0 = some r) :
    Calls Try.prog 61 #[.slice a_0 (List.length p0) c_0] w (Rt w Nil (fun g : Option Addr × Nat => .tuple #[.int .i64 r.1, .slice g.1 (List.length r.2) g.2]) (fun g => [OwnS kU8 g.1 g.2 r.2])) := by
  rw [spec_DrawGetEnd] at H
  refine Calls.enter0 (N := 34) (us := [_]) Try.func61 rfl rfl rfl ?_
  refine HQ.rseq ?_
  refine HQ.pu Pu.assign ⟨rfl, trivial⟩ rfl rfl rfl ?_
  refine HQ.pu Pu.assign ⟨rfl, trivial⟩ rfl rfl rfl ?_
  refine HQ.done ?_
  refine HQ.keep [(0, _), (2, _), (3, _)] ⟨rfl, rfl, rfl, trivial⟩ ?_
  refine HQ.rseq ?_
  refine HQ.pu Pu.move ⟨rfl, trivial⟩ rfl rfl rfl ?_
  obtain ⟨t1, h2, H⟩ := bnd H
  refine HQ.op [] [1] (OT.call (us := [_]) (Pre := []) [.tmp 7] Try.call77 rfl rfl fun w F hs hF hp => spec_l1New_c (hb_0.pass hp) h2) ⟨rfl, rfl, trivial⟩ trivial rfl rfl rfl rfl (fun _ => rfl) fun b3 => ?_
  refine HQ.pu Pu.assign ⟨rfl, trivial⟩ rfl rfl rfl ?_
  refine HQ.done ?_
  refine HQ.keep [(2, _), (3, _), (4, _)] ⟨rfl, rfl, rfl, trivial⟩ ?_
  refine HQ.rseq ?_
  refine HQ.pu Pu.move ⟨rfl, trivial⟩ rfl rfl rfl ?_
  refine HQ.op [] [2] (OT.buildF (us := [.int .i64 1, .int .i64 2, .int .i64 2, .int .i64 2, .int .i64 300]) (ys := ([1, 2, 2, 2, 300] : (List Int))) (enc := (encI .i64)) (hl := fun _ => ⟨rfl, rfl⟩) [.const (.int .i64 1), .const (.int .i64 2), .const (.int .i64 2), .const (.int .i64 2), .const (.int .i64 300)] sl33.ul sl33.szE sl33.zc rfl rfl rfl rfl rfl) ⟨rfl, rfl, rfl, rfl, rfl, trivial⟩ trivial rfl rfl rfl rfl (fun _ => rfl) fun ⟨a4, c5⟩ => ?_
  obtain ⟨t6, h7, H⟩ := bnd H
  refine HQ.op [1, 2] [1, 2] (OT.callM (us := [_, _]) (PreX := [Box b3 [.slice a_0 (List.length p0) c_0, .int .i64 t1.i, .int .i64 t1.h]]) (PreL := [OwnS kI a4 c5 ([1, 2, 2, 2, 300] : (List Int))]) [.tmp 9, .tmp 10] Try.call79 rfl rfl fun w FX FL hs1 hF1 hs2 hF2 hp => spec_l1Int_c (p0 := (⟨p0, t1.i, t1.h⟩ : TCur)) (p1 := ([1, 2, 2, 2, 300] : (List Int))) hs1 hF1 (hb_0.passY hp) (hs2.lendY hF2 0 rfl) h7) ⟨rfl, rfl, rfl, trivial⟩ ⟨rfl, rfl, trivial⟩ rfl rfl rfl rfl (fun _ => rfl) fun _ => ?_
  refine HQ.pu Pu.assign ⟨rfl, trivial⟩ rfl rfl rfl ?_
  refine HQ.done ?_
  refine HQ.keep [(2, _), (3, _), (4, _), (5, _)] ⟨rfl, rfl, rfl, rfl, trivial⟩ ?_
  refine HQ.rseq ?_
  refine HQ.pu Pu.move ⟨rfl, trivial⟩ rfl rfl rfl ?_
  obtain ⟨t8, h9, H⟩ := bnd H
  refine HQ.op [1] [3, 1] (OT.callM (us := [_]) (PreX := [Box b3 [.slice a_0 (List.length p0) c_0, .int .i64 t6.2.i, .int .i64 t6.2.h]]) (PreL := []) [.tmp 12] Try.call119 rfl rfl fun w FX FL hs1 hF1 hs2 hF2 hp => spec_l19Draw_c (p0 := (⟨p0, t6.2.i, t6.2.h⟩ : TCur)) hs1 hF1 (hb_0.passY hp) h9) ⟨rfl, rfl, trivial⟩ ⟨rfl, trivial⟩ rfl rfl rfl rfl (fun _ => rfl) fun ⟨a10, c11⟩ => ?_
  refine HQ.op [] [4] (OT.alloc zc57) trivial trivial rfl rfl rfl rfl (fun _ => rfl) fun b12 => ?_
  refine HQ.opN [4] [4] [] (OT.storeC (cs' := [.int .i64 t8.1.Seq, .int .i64 t8.1.Root, .int .i64 t8.1.Size, .slice a10 (List.length t8.1.Puts) c11]) sz57 rfl rfl rfl rfl rfl) ⟨rfl, rfl, trivial⟩ ⟨rfl, trivial⟩ rfl rfl rfl (fun _ => rfl) fun _ => ?_
  refine HQ.done ?_
  refine HQ.keep [(2, _), (3, _), (4, _), (5, _), (6, _)] ⟨rfl, rfl, rfl, rfl, rfl, trivial⟩ ?_
  refine HQ.seq ?_
  refine HQ.rseq ?_
  refine HQ.pu Pu.move ⟨rfl, trivial⟩ rfl rfl rfl ?_
  obtain ⟨t13, h14, H⟩ := bnd H
  refine HQ.op [1] [1] (OT.callM (us := [_, _]) (PreX := [Box b3 [.slice a_0 (List.length p0) c_0, .int .i64 t8.2.i, .int .i64 t8.2.h]]) (PreL := []) [.tmp 14, .const (.int .i64 8)] Try.call87 rfl rfl fun w FX FL hs1 hF1 hs2 hF2 hp => spec_l1Once_c (p0 := (⟨p0, t8.2.i, t8.2.h⟩ : TCur)) (p1 := 8) hs1 hF1 (hb_0.passY hp) h14) ⟨rfl, rfl, rfl, trivial⟩ ⟨rfl, trivial⟩ rfl rfl rfl rfl (fun _ => rfl) fun _ => ?_
  refine HQ.done ?_
  refine HQ.keep [(2, _), (3, _), (4, _), (5, _), (6, _), (15, _)] ⟨rfl, rfl, rfl, rfl, rfl, rfl, trivial⟩ ?_
  rcases brk H with ⟨hc, H⟩ | ⟨hc, H⟩
  · refine HQ.condT rfl hc ?_
    clear hc
    refine HQ.rseq ?_
    refine HQ.pu Pu.move ⟨rfl, trivial⟩ rfl rfl rfl ?_
    refine HQ.pu Pu.move ⟨rfl, trivial⟩ rfl rfl rfl ?_
    refine HQ.pu Pu.move ⟨rfl, trivial⟩ rfl rfl rfl ?_
    refine HQ.pu Pu.move ⟨rfl, trivial⟩ rfl rfl rfl ?_
    obtain ⟨t15, h16, H⟩ := bnd H
    refine HQ.op [1] [5, 1] (OT.callM (us := [_]) (PreX := [Box b3 [.slice a_0 (List.length p0) c_0, .int .i64 t13.2.i, .int .i64 t13.2.h]]) (PreL := []) [.tmp 19] Try.call96 rfl rfl fun w FX FL hs1 hF1 hs2 hF2 hp => spec_l19Change_c (p0 := (⟨p0, t13.2.i, t13.2.h⟩ : TCur)) hs1 hF1 (hb_0.passY hp) h16) ⟨rfl, rfl, trivial⟩ ⟨rfl, trivial⟩ rfl rfl rfl rfl (fun _ => rfl) fun ⟨a17, c18⟩ => ?_
    obtain ⟨t19, h20, H⟩ := bnd H
    refine HQ.op [5] [6, 5] (OT.call (us := [_, _]) (Pre := [OwnS kTEntry a17 c18 t15.1.N.L]) [.tmp 18, .tmp 20] Try.call33 rfl rfl fun w F hs hF hp => spec_PutCell_c (hs.lend hF 0 rfl) h20) ⟨rfl, rfl, rfl, trivial⟩ ⟨rfl, trivial⟩ rfl rfl rfl rfl (fun _ => rfl) fun ⟨a21, c22⟩ => ?_
    obtain ⟨t23, h24, H⟩ := bnd H
    refine HQ.op [1, 6] [7, 1, 6] (OT.callM (us := [_, _]) (PreX := [Box b3 [.slice a_0 (List.length p0) c_0, .int .i64 t15.2.i, .int .i64 t15.2.h]]) (PreL := [OwnS kU8 a21 c22 t19]) [.tmp 17, .tmp 21] Try.call112 rfl rfl fun w FX FL hs1 hF1 hs2 hF2 hp => spec_l19Bytes_c (p0 := (⟨p0, t15.2.i, t15.2.h⟩ : TCur)) (p1 := t19) hs1 hF1 (hb_0.passY hp) (hs2.lendY hF2 0 rfl) h24) ⟨rfl, rfl, rfl, trivial⟩ ⟨rfl, rfl, trivial⟩ rfl rfl rfl rfl (fun _ => rfl) fun ⟨a25, c26⟩ => ?_
    refine HQ.pu Pu.assign ⟨rfl, trivial⟩ rfl rfl rfl ?_
    refine HQ.pu Pu.assign ⟨rfl, trivial⟩ rfl rfl rfl ?_
    refine HQ.done ?_
    refine HQ.keep [(2, _), (3, _), (4, _), (5, _), (6, _)] ⟨rfl, rfl, rfl, rfl, rfl, trivial⟩ ?_
    refine HQ.ret ?_
    refine HQ.thenR ?_
    obtain rfl := Option.some.inj H
    exact HQ.fin (vs := [_, _]) Try.results61 (a25, c26) ⟨rfl, rfl, trivial⟩ rfl [7] ⟨rfl, trivial⟩ rfl
  · refine HQ.condF rfl hc ?_
    clear hc
    refine HQ.skipThen ?_
    obtain ⟨t30, h31, H⟩ := bnd H
    obtain ⟨t32, h33, H⟩ := bnd H
    obtain ⟨t36, h37, H⟩ := bnd H
    refine HQ.drawS mixd [(2, .int .i64 0), (3, .slice none 0 0), (4, BP b3 0), (5, .int .i64 t6.1), (6, BP b12 0)] 11 [⟨[], [], []⟩, ⟨[], [], []⟩, ⟨[], [], []⟩, ⟨[], [], []⟩, ⟨[], [], []⟩, ⟨[], [], []⟩, ⟨[], [0], [3, 4, 5]⟩, ⟨[1, 0], [2, 0], [2, 6]⟩, ⟨[3], [3], []⟩, ⟨[4], [5, 4], [7, 8]⟩, ⟨[2, 5], [6, 7, 5], [1, 9]⟩] [⟨some 6, none⟩, ⟨none, some 7⟩, ⟨some 7, some 10⟩, ⟨none, none⟩, ⟨none, none⟩, ⟨some 9, none⟩, ⟨some 10, none⟩, ⟨some 10, none⟩] (fun (g27 : (Option Addr × Nat) × (Option Addr × Nat) × (Option Addr × Nat)) => [.int .i64 t6.1, BP b3 0, BP b3 0, .int .i64 t6.1, .int .i64 t6.1, .int .i64 t6.1, .slice g27.1.1 (List.length ([t6.1, t6.1, t6.1, 3] : (List Int))) g27.1.2, .int .i64 t30.1, .agg #[.int .i64 t8.1.Seq, .int .i64 t8.1.Root, .int .i64 t8.1.Size, .slice a10 (List.length t8.1.Puts) c11], .slice g27.2.1.1 (List.length t32) g27.2.1.2, .slice g27.2.2.1 (List.length t36.1) g27.2.2.2]) (fun (g27 : (Option Addr × Nat) × (Option Addr × Nat) × (Option Addr × Nat)) => [OwnS kI g27.1.1 g27.1.2 ([t6.1, t6.1, t6.1, 3] : (List Int)), Box b3 [.slice a_0 (List.length p0) c_0, .int .i64 t13.2.i, .int .i64 t13.2.h], Box b3 [.slice a_0 (List.length p0) c_0, .int .i64 t30.2.i, .int .i64 t30.2.h], Box b12 [.int .i64 t8.1.Seq, .int .i64 t8.1.Root, .int .i64 t8.1.Size, .slice a10 (List.length t8.1.Puts) c11], OwnS kTChange a10 c11 t8.1.Puts, OwnS kU8 g27.2.1.1 g27.2.1.2 t32, OwnS kU8 g27.2.2.1 g27.2.2.2 t36.1, Box b3 [.slice a_0 (List.length p0) c_0, .int .i64 t36.2.i, .int .i64 t36.2.h]]) ((none, 0), (none, 0), (none, 0)) [1, 4, 3] [8, 4, 3, 9, 10, 1] [] ⟨rfl, rfl, rfl, rfl, rfl, trivial⟩ ⟨rfl, rfl, rfl, trivial⟩ rfl (by kernel_rfl) (fun _ => rfl) (by kernel_rfl) (fun _ => rfl) ⟨?_, ?_, ?_, ?_, ?_, ?_, ?_, ?_, ?_, ?_, ?_, trivial⟩ fun g27 => ?_
    · exact OpOK.of (fun g27 => [(.tmp 5, .int .i64 t6.1)]) _ _ (fun g27 _ => g27) rfl rfl (fun _ => ⟨rfl, trivial⟩) (fun g27 => Pu.toOT Pu.move) (fun _ _ => ⟨rfl, rfl, ⟨rfl, rfl, rfl, rfl, rfl, rfl, rfl, rfl, trivial⟩⟩)
    · exact OpOK.of (fun g27 => [(.tmp 4, BP b3 0)]) _ _ (fun g27 _ => g27) rfl rfl (fun _ => ⟨rfl, trivial⟩) (fun g27 => Pu.toOT Pu.move) (fun _ _ => ⟨rfl, rfl, ⟨rfl, rfl, rfl, rfl, rfl, rfl, rfl, rfl, trivial⟩⟩)
    · exact OpOK.of (fun g27 => [(.tmp 4, BP b3 0)]) _ _ (fun g27 _ => g27) rfl rfl (fun _ => ⟨rfl, trivial⟩) (fun g27 => Pu.toOT Pu.move) (fun _ _ => ⟨rfl, rfl, ⟨rfl, rfl, rfl, rfl, rfl, rfl, rfl, rfl, trivial⟩⟩)
    · exact OpOK.of (fun g27 => [(.tmp 5, .int .i64 t6.1)]) _ _ (fun g27 _ => g27) rfl rfl (fun _ => ⟨rfl, trivial⟩) (fun g27 => Pu.toOT Pu.move) (fun _ _ => ⟨rfl, rfl, ⟨rfl, rfl, rfl, rfl, rfl, rfl, rfl, rfl, trivial⟩⟩)
    · exact OpOK.of (fun g27 => [(.tmp 5, .int .i64 t6.1)]) _ _ (fun g27 _ => g27) rfl rfl (fun _ => ⟨rfl, trivial⟩) (fun g27 => Pu.toOT Pu.move) (fun _ _ => ⟨rfl, rfl, ⟨rfl, rfl, rfl, rfl, rfl, rfl, rfl, rfl, trivial⟩⟩)
    · exact OpOK.of (fun g27 => [(.tmp 5, .int .i64 t6.1)]) _ _ (fun g27 _ => g27) rfl rfl (fun _ => ⟨rfl, trivial⟩) (fun g27 => Pu.toOT Pu.move) (fun _ _ => ⟨rfl, rfl, ⟨rfl, rfl, rfl, rfl, rfl, rfl, rfl, rfl, trivial⟩⟩)
    · exact OpOK.of (fun g27 => [(.tmp 26, .int .i64 t6.1), (.tmp 27, .int .i64 t6.1), (.tmp 28, .int .i64 t6.1), (.const (.int .i64 3), .int .i64 3)]) _ _ (fun g27 x => (x, g27.2.1, g27.2.2)) rfl rfl (fun _ => ⟨rfl, rfl, rfl, rfl, trivial⟩) (fun g27 => OT.buildF (us := [.int .i64 t6.1, .int .i64 t6.1, .int .i64 t6.1, .int .i64 3]) (ys := ([t6.1, t6.1, t6.1, 3] : (List Int))) (enc := (encI .i64)) (hl := fun _ => ⟨rfl, rfl⟩) [.tmp 26, .tmp 27, .tmp 28, .const (.int .i64 3)] sl33.ul sl33.szE sl33.zc rfl rfl rfl rfl rfl) (fun _ _ => ⟨rfl, rfl, ⟨rfl, rfl, rfl, rfl, rfl, rfl, rfl, rfl, trivial⟩⟩)
    · exact OpOK.of (fun g27 => [(.func 79, .func (.func 79) #[] #[]), (.tmp 25, BP b3 0), (.tmp 29, .slice g27.1.1 (List.length ([t6.1, t6.1, t6.1, 3] : (List Int))) g27.1.2)]) _ _ (fun g27 _ => g27) rfl rfl (fun _ => ⟨rfl, rfl, rfl, trivial⟩) (fun g27 => OT.callM (us := [_, _]) (PreX := [Box b3 [.slice a_0 (List.length p0) c_0, .int .i64 t13.2.i, .int .i64 t13.2.h]]) (PreL := [OwnS kI g27.1.1 g27.1.2 ([t6.1, t6.1, t6.1, 3] : (List Int))]) [.tmp 25, .tmp 29] Try.call79 rfl rfl fun w FX FL hs1 hF1 hs2 hF2 hp => spec_l1Int_c (p0 := (⟨p0, t13.2.i, t13.2.h⟩ : TCur)) (p1 := ([t6.1, t6.1, t6.1, 3] : (List Int))) hs1 hF1 (hb_0.passY hp) (hs2.lendY hF2 0 rfl) h31) (fun _ _ => ⟨rfl, rfl, ⟨rfl, rfl, rfl, rfl, rfl, rfl, rfl, rfl, trivial⟩⟩)
    · exact OpOK.of (fun g27 => [(.tmp 6, BP b12 0)]) _ _ (fun g27 _ => g27) rfl rfl (fun _ => ⟨rfl, trivial⟩) (fun g27 => OT.loadBA (vs := [.int .i64 t8.1.Seq, .int .i64 t8.1.Root, .int .i64 t8.1.Size, .slice a10 (List.length t8.1.Puts) c11]) ag57 sz57 rfl rfl) (fun _ _ => ⟨rfl, rfl, ⟨rfl, rfl, rfl, rfl, rfl, rfl, rfl, rfl, trivial⟩⟩)
    · exact OpOK.of (fun g27 => [(.func 34, .func (.func 34) #[] #[]), (.tmp 30, .int .i64 t30.1), (.tmp 31, .agg #[.int .i64 t8.1.Seq, .int .i64 t8.1.Root, .int .i64 t8.1.Size, .slice a10 (List.length t8.1.Puts) c11])]) _ _ (fun g27 x => (g27.1, x, g27.2.2)) rfl rfl (fun _ => ⟨rfl, rfl, rfl, trivial⟩) (fun g27 => OT.call (us := [_, _]) (Pre := [OwnS kTChange a10 c11 t8.1.Puts]) [.tmp 30, .tmp 31] Try.call34 rfl rfl fun w F hs hF hp => spec_EndCell_c (hs.lend hF 0 rfl) h33) (fun _ _ => ⟨rfl, rfl, ⟨rfl, rfl, rfl, rfl, rfl, rfl, rfl, rfl, trivial⟩⟩)
    · exact OpOK.of (fun g27 => [(.func 112, .func (.func 112) #[] #[]), (.tmp 24, BP b3 0), (.tmp 32, .slice g27.2.1.1 (List.length t32) g27.2.1.2)]) _ _ (fun g27 x => (g27.1, g27.2.1, x)) rfl rfl (fun _ => ⟨rfl, rfl, rfl, trivial⟩) (fun g27 => OT.callM (us := [_, _]) (PreX := [Box b3 [.slice a_0 (List.length p0) c_0, .int .i64 t30.2.i, .int .i64 t30.2.h]]) (PreL := [OwnS kU8 g27.2.1.1 g27.2.1.2 t32]) [.tmp 24, .tmp 32] Try.call112 rfl rfl fun w FX FL hs1 hF1 hs2 hF2 hp => spec_l19Bytes_c (p0 := (⟨p0, t30.2.i, t30.2.h⟩ : TCur)) (p1 := t32) hs1 hF1 (hb_0.passY hp) (hs2.lendY hF2 0 rfl) h37) (fun _ _ => ⟨rfl, rfl, ⟨rfl, rfl, rfl, rfl, rfl, rfl, rfl, rfl, trivial⟩⟩)
    refine HQ.keep [(2, _), (3, _), (23, _), (33, _)] ⟨rfl, rfl, rfl, rfl, trivial⟩ ?_
    refine HQ.keepR [(1, _), (2, _), (3, _), (4, _), (8, _), (9, _), (10, _)] ⟨rfl, rfl, rfl, rfl, rfl, rfl, rfl, trivial⟩ rfl ?_
    refine HQ.pu Pu.assign ⟨rfl, trivial⟩ rfl rfl rfl ?_
    refine HQ.pu Pu.assign ⟨rfl, trivial⟩ rfl rfl rfl ?_
    refine HQ.done ?_
    refine HQ.keep [(2, _), (3, _)] ⟨rfl, rfl, trivial⟩ ?_
    refine HQ.ret ?_
    obtain rfl := Option.some.inj H
    exact HQ.fin (vs := [_, _]) Try.results61 (g27.2.2.1, g27.2.2.2) ⟨rfl, rfl, trivial⟩ rfl [10] ⟨rfl, trivial⟩ rfl

/-! (impl.Tx).numbersOk -/
theorem impl_Tx_numbersOk_c {w : World} {p0 : TTx} {a_0 : Option Addr} {c_0 : Nat}  {r : Bool} (H : impl_Tx_numbersOk p0 = some r) :
    Calls Try.prog 104 #[.agg #[.int .i64 p0.Seq, .int .i64 p0.Root, .int .i64 p0.Size, .slice a_0 (List.length p0.Puts) c_0]] w (Rt w Nil (fun _ : Unit => .bool r) (fun _ => [])) := by
  rw [impl_Tx_numbersOk] at H
  refine Calls.enter0 (N := 19) (us := [_]) Try.func104 rfl rfl rfl ?_
  refine HQ.rseq ?_
  refine HQ.op [] [1] (OT.box (cs := [.int .i64 p0.Seq, .int .i64 p0.Root, .int .i64 p0.Size, .slice a_0 (List.length p0.Puts) c_0]) rfl) ⟨rfl, trivial⟩ trivial rfl rfl rfl rfl (fun _ => rfl) fun b1 => ?_
  refine HQ.pu Pu.assign ⟨rfl, trivial⟩ rfl rfl rfl ?_
  refine HQ.done ?_
  refine HQ.keep [(1, _), (2, _)] ⟨rfl, rfl, trivial⟩ ?_
  refine HQ.rseq ?_
  refine HQ.pu (Pu.fieldB fo57_0 rfl) ⟨rfl, trivial⟩ rfl rfl rfl ?_
  refine HQ.op [1] [1] (OT.loadB sc3 rfl) ⟨rfl, trivial⟩ ⟨rfl, trivial⟩ rfl rfl rfl rfl (fun _ => rfl) fun _ => ?_
  obtain ⟨t2, h3, H⟩ := bnd H
  refine HQ.op [] [] (OT.call (us := [_, _, _]) (Pre := []) [.tmp 4, .const (.int .i64 1), .const (.int .i64 65535)] Try.call83 rfl rfl fun w F hs hF hp => impl_in_c h3) ⟨rfl, rfl, rfl, rfl, trivial⟩ trivial rfl rfl rfl rfl (fun _ => rfl) fun _ => ?_
  refine HQ.pu Pu.move ⟨rfl, trivial⟩ rfl rfl rfl ?_
  obtain ⟨c7, h8, H⟩ := bnd H
  refine HQ.cutAt 4 [(10, .bool c7), (1, BP b1 0), (2, .bool false)] [(1, Box b1 [.int .i64 p0.Seq, .int .i64 p0.Root, .int .i64 p0.Size, .slice a_0 (List.length p0.Puts) c_0])] ?_ ?_
  · clear H
    have H := h8
    rcases brk H with ⟨hg4, H⟩ | ⟨hg4, H⟩
    · refine HQ.on rfl rfl hg4 ?_
      refine HQ.pu (Pu.fieldB fo57_2 rfl) ⟨rfl, trivial⟩ rfl rfl rfl ?_
      refine HQ.on rfl rfl hg4 ?_
      refine HQ.op [1] [1] (OT.loadB sc3 rfl) ⟨rfl, trivial⟩ ⟨rfl, trivial⟩ rfl rfl rfl rfl (fun _ => rfl) fun _ => ?_
      refine HQ.on rfl rfl hg4 ?_
      obtain ⟨t5, h6, H⟩ := bnd H
      refine HQ.op [] [] (OT.call (us := [_, _, _]) (Pre := []) [.tmp 8, .const (.int .i64 1), .const (.int .i64 48)] Try.call83 rfl rfl fun w F hs hF hp => impl_in_c h6) ⟨rfl, rfl, rfl, rfl, trivial⟩ trivial rfl rfl rfl rfl (fun _ => rfl) fun _ => ?_
      obtain rfl := Option.some.inj H
      refine HQ.pu (Pu.pickC1 hg4) ⟨rfl, rfl, trivial⟩ rfl rfl rfl ?_
      exact HQ.mid ⟨rfl, rfl, rfl, trivial⟩ ⟨rfl, trivial⟩ rfl
    · obtain rfl := Option.some.inj H
      refine HQ.off rfl rfl hg4 rfl ?_
      refine HQ.off rfl rfl hg4 rfl ?_
      refine HQ.off rfl rfl hg4 rfl ?_
      refine HQ.pu (Pu.pickC0 hg4) ⟨rfl, rfl, trivial⟩ rfl rfl rfl ?_
      exact HQ.mid ⟨rfl, rfl, rfl, trivial⟩ ⟨rfl, trivial⟩ rfl
  refine HQ.pu Pu.move ⟨rfl, trivial⟩ rfl rfl rfl ?_
  obtain ⟨c12, h13, H⟩ := bnd H
  refine HQ.cutAt 7 [(18, .bool c12), (2, .bool false)] [(1, Box b1 [.int .i64 p0.Seq, .int .i64 p0.Root, .int .i64 p0.Size, .slice a_0 (List.length p0.Puts) c_0])] ?_ ?_
  · clear H
    have H := h13
    rcases brk H with ⟨hg9, H⟩ | ⟨hg9, H⟩
    · refine HQ.on rfl rfl hg9 ?_
      refine HQ.pu (Pu.fieldB fo57_1 rfl) ⟨rfl, trivial⟩ rfl rfl rfl ?_
      refine HQ.on rfl rfl hg9 ?_
      refine HQ.op [1] [1] (OT.loadB sc3 rfl) ⟨rfl, trivial⟩ ⟨rfl, trivial⟩ rfl rfl rfl rfl (fun _ => rfl) fun _ => ?_
      refine HQ.on rfl rfl hg9 ?_
      refine HQ.pu (Pu.fieldB fo57_2 rfl) ⟨rfl, trivial⟩ rfl rfl rfl ?_
      refine HQ.on rfl rfl hg9 ?_
      refine HQ.op [1] [1] (OT.loadB sc3 rfl) ⟨rfl, trivial⟩ ⟨rfl, trivial⟩ rfl rfl rfl rfl (fun _ => rfl) fun _ => ?_
      refine HQ.on rfl rfl hg9 ?_
      refine HQ.pu Pu.sub ⟨rfl, rfl, trivial⟩ rfl rfl rfl ?_
      refine HQ.on rfl rfl hg9 ?_
      obtain ⟨t10, h11, H⟩ := bnd H
      refine HQ.op [] [] (OT.call (us := [_, _, _]) (Pre := []) [.tmp 13, .const (.int .i64 0), .tmp 16] Try.call83 rfl rfl fun w F hs hF hp => impl_in_c h11) ⟨rfl, rfl, rfl, rfl, trivial⟩ trivial rfl rfl rfl rfl (fun _ => rfl) fun _ => ?_
      obtain rfl := Option.some.inj H
      refine HQ.pu (Pu.pickC1 hg9) ⟨rfl, rfl, trivial⟩ rfl rfl rfl ?_
      exact HQ.mid ⟨rfl, rfl, trivial⟩ ⟨rfl, trivial⟩ rfl
    · obtain rfl := Option.some.inj H
      refine HQ.off rfl rfl hg9 rfl ?_
      refine HQ.off rfl rfl hg9 rfl ?_
      refine HQ.off rfl rfl hg9 rfl ?_
      refine HQ.off rfl rfl hg9 rfl ?_
      refine HQ.off rfl rfl hg9 rfl ?_
      refine HQ.off rfl rfl hg9 rfl ?_
      refine HQ.pu (Pu.pickC0 hg9) ⟨rfl, rfl, trivial⟩ rfl rfl rfl ?_
      exact HQ.mid ⟨rfl, rfl, trivial⟩ ⟨rfl, trivial⟩ rfl
  refine HQ.pu Pu.assign ⟨rfl, trivial⟩ rfl rfl rfl ?_
  refine HQ.done ?_
  refine HQ.keep [(2, _)] ⟨rfl, trivial⟩ ?_
  refine HQ.ret ?_
  obtain rfl := Option.some.inj H
  exact HQ.fin (vs := [_]) Try.results104 () ⟨rfl, trivial⟩ rfl [] trivial rfl

/-! impl.endCell -/
theorem impl_endCell_c {w : World} {p0 : Int} {p1 : TTx} {p2 : Int} {a_0 : Option Addr} {c_0 : Nat}  {r : (List Int)} (H : impl_endCell p0 p1 p2 = some r) :
    Calls Try.prog 102 #[.int .i64 p0, .agg #[.int .i64 p1.Seq, .int .i64 p1.Root, .int .i64 p1.Size, .slice a_0 (List.length p1.Puts) c_0], .int .i64 p2] w (Rt w Nil (fun g : Option Addr × Nat => .slice g.1 (List.length r) g.2) (fun g => [OwnS kU8 g.1 g.2 r])) := by
  rw [impl_endCell] at H
  refine Calls.enter0 (N := 23) (us := [_, _, _]) Try.func102 rfl rfl rfl ?_
  refine HQ.rseq ?_
  refine HQ.op [] [1] (OT.box (cs := [.int .i64 p1.Seq, .int .i64 p1.Root, .int .i64 p1.Size, .slice a_0 (List.length p1.Puts) c_0]) rfl) ⟨rfl, trivial⟩ trivial rfl rfl rfl rfl (fun _ => rfl) fun b1 => ?_
  refine HQ.pu Pu.assign ⟨rfl, trivial⟩ rfl rfl rfl ?_
  refine HQ.done ?_
  refine HQ.keep [(0, _), (2, _), (4, _), (6, _)] ⟨rfl, rfl, rfl, rfl, trivial⟩ ?_
  obtain ⟨t5, h6, H⟩ := bnd H
  obtain ⟨t9, h10, H⟩ := bnd H
  refine HQ.drawS mixd [(0, .int .i64 p0), (2, .int .i64 p2), (4, BP b1 0), (6, .slice none 0 0)] 15 [⟨[], [0], []⟩, ⟨[], [], []⟩, ⟨[0], [1, 0], [0, 1]⟩, ⟨[], [], []⟩, ⟨[2], [2], [3]⟩, ⟨[1], [3, 1], [2, 4]⟩, ⟨[], [], []⟩, ⟨[2], [2], [6]⟩, ⟨[], [], [7]⟩, ⟨[], [], []⟩, ⟨[2], [2], [9]⟩, ⟨[], [], [10]⟩, ⟨[], [], []⟩, ⟨[], [], [12]⟩, ⟨[], [4], [8, 11, 13]⟩] [⟨some 0, none⟩, ⟨some 2, none⟩, ⟨none, none⟩, ⟨some 5, none⟩, ⟨some 14, none⟩] (fun (g2 : (Option Addr × Nat) × (Option Addr × Nat) × (Option Addr × Nat) × (Option Addr × Nat)) => [.slice g2.1.1 (List.length ([2] : (List Int))) g2.1.2, .int .i64 p0, .slice g2.2.1.1 (List.length t5) g2.2.1.2, BP b1 0, .int .i64 p1.Seq, .slice g2.2.2.1.1 (List.length t9) g2.2.2.1.2, BP b1 1, .int .i64 p1.Root, .int .u8 (IntKind.u8.wrap p1.Root), BP b1 2, .int .i64 p1.Size, .int .u8 (IntKind.u8.wrap p1.Size), .int .i64 p2, .int .u8 (IntKind.u8.wrap p2), .slice g2.2.2.2.1 (List.length ([(IntKind.u8.wrap p1.Root), (IntKind.u8.wrap p1.Size), (IntKind.u8.wrap p2)] : (List Int))) g2.2.2.2.2]) (fun (g2 : (Option Addr × Nat) × (Option Addr × Nat) × (Option Addr × Nat) × (Option Addr × Nat)) => [OwnS kU8 g2.1.1 g2.1.2 ([2] : (List Int)), OwnS kU8 g2.2.1.1 g2.2.1.2 t5, Box b1 [.int .i64 p1.Seq, .int .i64 p1.Root, .int .i64 p1.Size, .slice a_0 (List.length p1.Puts) c_0], OwnS kU8 g2.2.2.1.1 g2.2.2.1.2 t9, OwnS kU8 g2.2.2.2.1 g2.2.2.2.2 ([(IntKind.u8.wrap p1.Root), (IntKind.u8.wrap p1.Size), (IntKind.u8.wrap p2)] : (List Int))]) ((none, 0), (none, 0), (none, 0), (none, 0)) [1] [2, 3, 1, 4, 5] [] ⟨rfl, rfl, rfl, rfl, trivial⟩ ⟨rfl, trivial⟩ rfl (by kernel_rfl) (fun _ => rfl) (by kernel_rfl) (fun _ => rfl) ⟨?_, ?_, ?_, ?_, ?_, ?_, ?_, ?_, ?_, ?_, ?_, ?_, ?_, ?_, ?_, trivial⟩ fun g2 => ?_
  · exact OpOK.of (fun g2 => [(.const (.int .u8 2), .int .u8 2)]) _ _ (fun g2 x => (x, g2.2.1, g2.2.2.1, g2.2.2.2)) rfl rfl (fun _ => ⟨rfl, trivial⟩) (fun g2 => OT.buildF (us := [.int .u8 2]) (ys := ([2] : (List Int))) (enc := (encI .u8)) (hl := fun _ => ⟨rfl, rfl⟩) [.const (.int .u8 2)] sl22.ul sl22.szE sl22.zc rfl rfl rfl rfl rfl) (fun _ _ => ⟨rfl, rfl, ⟨rfl, rfl, rfl, rfl, rfl, trivial⟩⟩)
  · exact OpOK.of (fun g2 => [(.tmp 0, .int .i64 p0)]) _ _ (fun g2 _ => g2) rfl rfl (fun _ => ⟨rfl, trivial⟩) (fun g2 => Pu.toOT Pu.move) (fun _ _ => ⟨rfl, rfl, ⟨rfl, rfl, rfl, rfl, rfl, trivial⟩⟩)
  · exact OpOK.of (fun g2 => [(.func 97, .func (.func 97) #[] #[]), (.tmp 7, .slice g2.1.1 (List.length ([2] : (List Int))) g2.1.2), (.tmp 8, .int .i64 p0)]) _ _ (fun g2 x => (g2.1, x, g2.2.2.1, g2.2.2.2)) rfl rfl (fun _ => ⟨rfl, rfl, rfl, trivial⟩) (fun g2 => OT.call (us := [_, _]) (Pre := [OwnS kU8 g2.1.1 g2.1.2 ([2] : (List Int))]) [.tmp 7, .tmp 8] Try.call97 rfl rfl fun w F hs hF hp => impl_Put2_c (hs.lend hF 0 rfl) h6) (fun _ _ => ⟨rfl, rfl, ⟨rfl, rfl, rfl, rfl, rfl, trivial⟩⟩)
  · exact OpOK.of (fun g2 => [(.tmp 4, BP b1 0)]) _ _ (fun g2 _ => g2) rfl rfl (fun _ => ⟨rfl, trivial⟩) (fun g2 => Pu.toOT (Pu.fieldB fo57_0 rfl)) (fun _ _ => ⟨rfl, rfl, ⟨rfl, rfl, rfl, rfl, rfl, trivial⟩⟩)
  · exact OpOK.of (fun g2 => [(.tmp 10, BP b1 0)]) _ _ (fun g2 _ => g2) rfl rfl (fun _ => ⟨rfl, trivial⟩) (fun g2 => OT.loadB sc3 rfl) (fun _ _ => ⟨rfl, rfl, ⟨rfl, rfl, rfl, rfl, rfl, trivial⟩⟩)
  · exact OpOK.of (fun g2 => [(.func 97, .func (.func 97) #[] #[]), (.tmp 9, .slice g2.2.1.1 (List.length t5) g2.2.1.2), (.tmp 11, .int .i64 p1.Seq)]) _ _ (fun g2 x => (g2.1, g2.2.1, x, g2.2.2.2)) rfl rfl (fun _ => ⟨rfl, rfl, rfl, trivial⟩) (fun g2 => OT.call (us := [_, _]) (Pre := [OwnS kU8 g2.2.1.1 g2.2.1.2 t5]) [.tmp 9, .tmp 11] Try.call97 rfl rfl fun w F hs hF hp => impl_Put2_c (hs.lend hF 0 rfl) h10) (fun _ _ => ⟨rfl, rfl, ⟨rfl, rfl, rfl, rfl, rfl, trivial⟩⟩)
  · exact OpOK.of (fun g2 => [(.tmp 4, BP b1 0)]) _ _ (fun g2 _ => g2) rfl rfl (fun _ => ⟨rfl, trivial⟩) (fun g2 => Pu.toOT (Pu.fieldB fo57_1 rfl)) (fun _ _ => ⟨rfl, rfl, ⟨rfl, rfl, rfl, rfl, rfl, trivial⟩⟩)
  · exact OpOK.of (fun g2 => [(.tmp 13, BP b1 1)]) _ _ (fun g2 _ => g2) rfl rfl (fun _ => ⟨rfl, trivial⟩) (fun g2 => OT.loadB sc3 rfl) (fun _ _ => ⟨rfl, rfl, ⟨rfl, rfl, rfl, rfl, rfl, trivial⟩⟩)
  · exact OpOK.of (fun g2 => [(.tmp 14, .int .i64 p1.Root)]) _ _ (fun g2 _ => g2) rfl rfl (fun _ => ⟨rfl, trivial⟩) (fun g2 => Pu.toOT (Pu.conv ul3 ul5)) (fun _ _ => ⟨rfl, rfl, ⟨rfl, rfl, rfl, rfl, rfl, trivial⟩⟩)
  · exact OpOK.of (fun g2 => [(.tmp 4, BP b1 0)]) _ _ (fun g2 _ => g2) rfl rfl (fun _ => ⟨rfl, trivial⟩) (fun g2 => Pu.toOT (Pu.fieldB fo57_2 rfl)) (fun _ _ => ⟨rfl, rfl, ⟨rfl, rfl, rfl, rfl, rfl, trivial⟩⟩)
  · exact OpOK.of (fun g2 => [(.tmp 16, BP b1 2)]) _ _ (fun g2 _ => g2) rfl rfl (fun _ => ⟨rfl, trivial⟩) (fun g2 => OT.loadB sc3 rfl) (fun _ _ => ⟨rfl, rfl, ⟨rfl, rfl, rfl, rfl, rfl, trivial⟩⟩)
  · exact OpOK.of (fun g2 => [(.tmp 17, .int .i64 p1.Size)]) _ _ (fun g2 _ => g2) rfl rfl (fun _ => ⟨rfl, trivial⟩) (fun g2 => Pu.toOT (Pu.conv ul3 ul5)) (fun _ _ => ⟨rfl, rfl, ⟨rfl, rfl, rfl, rfl, rfl, trivial⟩⟩)
  · exact OpOK.of (fun g2 => [(.tmp 2, .int .i64 p2)]) _ _ (fun g2 _ => g2) rfl rfl (fun _ => ⟨rfl, trivial⟩) (fun g2 => Pu.toOT Pu.move) (fun _ _ => ⟨rfl, rfl, ⟨rfl, rfl, rfl, rfl, rfl, trivial⟩⟩)
  · exact OpOK.of (fun g2 => [(.tmp 19, .int .i64 p2)]) _ _ (fun g2 _ => g2) rfl rfl (fun _ => ⟨rfl, trivial⟩) (fun g2 => Pu.toOT (Pu.conv ul3 ul5)) (fun _ _ => ⟨rfl, rfl, ⟨rfl, rfl, rfl, rfl, rfl, trivial⟩⟩)
  · exact OpOK.of (fun g2 => [(.tmp 15, .int .u8 (IntKind.u8.wrap p1.Root)), (.tmp 18, .int .u8 (IntKind.u8.wrap p1.Size)), (.tmp 20, .int .u8 (IntKind.u8.wrap p2))]) _ _ (fun g2 x => (g2.1, g2.2.1, g2.2.2.1, x)) rfl rfl (fun _ => ⟨rfl, rfl, rfl, trivial⟩) (fun g2 => OT.buildF (us := [.int .u8 (IntKind.u8.wrap p1.Root), .int .u8 (IntKind.u8.wrap p1.Size), .int .u8 (IntKind.u8.wrap p2)]) (ys := ([(IntKind.u8.wrap p1.Root), (IntKind.u8.wrap p1.Size), (IntKind.u8.wrap p2)] : (List Int))) (enc := (encI .u8)) (hl := fun _ => ⟨rfl, rfl⟩) [.tmp 15, .tmp 18, .tmp 20] sl22.ul sl22.szE sl22.zc rfl rfl rfl rfl rfl) (fun _ _ => ⟨rfl, rfl, ⟨rfl, rfl, rfl, rfl, rfl, trivial⟩⟩)
  refine HQ.keep [(6, _), (12, _), (21, _)] ⟨rfl, rfl, rfl, trivial⟩ ?_
  refine HQ.keepR [(1, _), (2, _), (3, _), (4, _), (5, _)] ⟨rfl, rfl, rfl, rfl, rfl, trivial⟩ rfl ?_
  obtain ⟨h17, H⟩ := asr H
  refine HQ.op [4, 5] [4, 5] (OT.appendG (enc := (encI .u8)) (hl := fun _ => ⟨rfl, rfl⟩) sl22 ul22 h17) ⟨rfl, rfl, trivial⟩ ⟨rfl, rfl, trivial⟩ rfl rfl rfl rfl (fun _ => rfl) fun ⟨a15, c16⟩ => ?_
  refine HQ.pu Pu.assign ⟨rfl, trivial⟩ rfl rfl rfl ?_
  refine HQ.done ?_
  refine HQ.keep [(6, _)] ⟨rfl, trivial⟩ ?_
  refine HQ.ret ?_
  obtain rfl := Option.some.inj H
  exact HQ.fin (vs := [_]) Try.results102 (a15, c16) ⟨rfl, trivial⟩ rfl [4] ⟨rfl, trivial⟩ rfl

/-! impl.GetEnd -/
theorem impl_GetEnd_c {w : World} {k : Nat} {p0 : Int} {p1 : (List Int)} {a_0 : Option Addr} {c_0 : Nat} (hb_0 : BorS kU8 a_0 c_0 p1 w.heap (Lt w Nil)) {r : TTx × Int × Bool} (H : impl_GetEnd k p0 p1 = some r) :
    Calls Try.prog 31 #[.int .i64 p0, .slice a_0 (List.length p1) c_0] w (Rt w Nil (fun g : Option Addr × Nat => .tuple #[.agg #[.int .i64 r.1.Seq, .int .i64 r.1.Root, .int .i64 r.1.Size, .slice g.1 (List.length r.1.Puts) g.2], .int .i64 r.2.1, .bool r.2.2]) (fun g => [OwnS kTChange g.1 g.2 r.1.Puts])) := by
  rw [impl_GetEnd] at H
  refine Calls.enter0 (N := 61) (us := [_, _]) Try.func31 rfl rfl rfl ?_
  refine HQ.rseq ?_
  refine HQ.op [] [1] (OT.alloc zc57) trivial trivial rfl rfl rfl rfl (fun _ => rfl) fun b1 => ?_
  refine HQ.pu Pu.assign ⟨rfl, trivial⟩ rfl rfl rfl ?_
  refine HQ.pu Pu.assign ⟨rfl, trivial⟩ rfl rfl rfl ?_
  refine HQ.done ?_
  refine HQ.keep [(0, _), (1, _), (4, _), (5, _), (6, _)] ⟨rfl, rfl, rfl, rfl, rfl, trivial⟩ ?_
  refine HQ.seq ?_
  refine HQ.rseq ?_
  refine HQ.pu Pu.move ⟨rfl, trivial⟩ rfl rfl rfl ?_
  refine HQ.pu (Pu.len ul22) ⟨rfl, trivial⟩ rfl rfl rfl ?_
  refine HQ.pu Pu.neq ⟨rfl, rfl, trivial⟩ rfl rfl rfl ?_
  refine HQ.pu Pu.move ⟨rfl, trivial⟩ rfl rfl rfl ?_
  obtain ⟨c5, h6, H⟩ := bnd H
  refine HQ.cutAt 4 [(18, .bool c5), (0, .int .i64 p0), (1, .slice a_0 (List.length p1) c_0), (4, BP b1 0), (5, .int .i64 0), (6, .bool false)] [(1, Box b1 [.int .i64 0, .int .i64 0, .int .i64 0, .slice none 0 0])] ?_ ?_
  · clear H
    have H := h6
    rcases brk H with ⟨hg2, H⟩ | ⟨hg2, H⟩
    · obtain rfl := Option.some.inj H
      refine HQ.off rfl rfl hg2 rfl ?_
      refine HQ.off rfl rfl hg2 rfl ?_
      refine HQ.off rfl rfl hg2 rfl ?_
      refine HQ.pu (Pu.pickC1 hg2) ⟨rfl, rfl, trivial⟩ rfl rfl rfl ?_
      exact HQ.mid ⟨rfl, rfl, rfl, rfl, rfl, rfl, trivial⟩ ⟨rfl, trivial⟩ rfl
    · refine HQ.on rfl rfl hg2 ?_
      refine HQ.pu Pu.move ⟨rfl, trivial⟩ rfl rfl rfl ?_
      refine HQ.on rfl rfl hg2 ?_
      obtain ⟨t3, h4, H⟩ := bnd H
      refine HQ.op [] [] (OT.call (us := [_, _, _]) (Pre := []) [.tmp 15, .const (.int .i64 0), .const (.int .i64 65535)] Try.call83 rfl rfl fun w F hs hF hp => impl_in_c h4) ⟨rfl, rfl, rfl, rfl, trivial⟩ trivial rfl rfl rfl rfl (fun _ => rfl) fun _ => ?_
      refine HQ.on rfl rfl hg2 ?_
      refine HQ.pu Pu.not ⟨rfl, trivial⟩ rfl rfl rfl ?_
      obtain rfl := Option.some.inj H
      refine HQ.pu (Pu.pickC0 hg2) ⟨rfl, rfl, trivial⟩ rfl rfl rfl ?_
      exact HQ.mid ⟨rfl, rfl, rfl, rfl, rfl, rfl, trivial⟩ ⟨rfl, trivial⟩ rfl
  refine HQ.done ?_
  refine HQ.keep [(18, _), (0, _), (1, _), (4, _), (5, _), (6, _)] ⟨rfl, rfl, rfl, rfl, rfl, rfl, trivial⟩ ?_
  rcases brk H with ⟨hc, H⟩ | ⟨hc, H⟩
  · refine HQ.condT rfl hc ?_
    clear hc
    refine HQ.rseq ?_
    refine HQ.pu (Pu.build (us := []) (cs := [.int .i64 0, .int .i64 0, .int .i64 0, .slice none 0 0]) [] st57 rfl rfl rfl) trivial rfl rfl rfl ?_
    refine HQ.opN [1] [1] [] (OT.storeC (cs' := [.int .i64 0, .int .i64 0, .int .i64 0, .slice none 0 0]) sz57 rfl rfl rfl rfl rfl) ⟨rfl, rfl, trivial⟩ ⟨rfl, trivial⟩ rfl rfl rfl (fun _ => rfl) fun _ => ?_
    refine HQ.pu Pu.assign ⟨rfl, trivial⟩ rfl rfl rfl ?_
    refine HQ.pu Pu.assign ⟨rfl, trivial⟩ rfl rfl rfl ?_
    refine HQ.done ?_
    refine HQ.keep [(0, _), (1, _), (4, _), (5, _), (6, _)] ⟨rfl, rfl, rfl, rfl, rfl, trivial⟩ ?_
    refine HQ.ret ?_
    refine HQ.thenR ?_
    obtain rfl := Option.some.inj H
    refine HQ.nil kTChange 2 rfl ?_
    exact HQ.fin (vs := [_, _, _]) Try.results31 (none, 0) ⟨⟨_, _, 1, rfl, rfl, ag57, sz57, rfl⟩, rfl, rfl, trivial⟩ rfl [2] ⟨rfl, trivial⟩ rfl
  · refine HQ.condF rfl hc ?_
    clear hc
    refine HQ.skipThen ?_
    refine HQ.rseq ?_
    refine HQ.pu Pu.move ⟨rfl, trivial⟩ rfl rfl rfl ?_
    obtain ⟨t7, h8, H⟩ := bnd H
    refine HQ.op [] [] (OT.call (us := [_, _]) (Pre := []) [.tmp 21, .const (.int .i64 3)] Try.call103 rfl rfl fun w F hs hF hp => impl_Get2_c (hb_0.pass hp) h8) ⟨rfl, rfl, rfl, trivial⟩ trivial rfl rfl rfl rfl (fun _ => rfl) fun _ => ?_
    refine HQ.pu Pu.move ⟨rfl, trivial⟩ rfl rfl rfl ?_
    refine HQ.pu (Pu.extract rfl) ⟨rfl, trivial⟩ rfl rfl rfl ?_
    refine HQ.pu (Pu.extract rfl) ⟨rfl, trivial⟩ rfl rfl rfl ?_
    refine HQ.pu Pu.assign ⟨rfl, trivial⟩ rfl rfl rfl ?_
    refine HQ.pu Pu.assign ⟨rfl, trivial⟩ rfl rfl rfl ?_
    refine HQ.done ?_
    refine HQ.keep [(0, _), (1, _), (4, _), (5, _), (6, _), (7, _)] ⟨rfl, rfl, rfl, rfl, rfl, rfl, trivial⟩ ?_
    obtain ⟨h10, H⟩ := asr H
    obtain ⟨h11, H⟩ := asr H
    refine HQ.drawS mixd [(0, .int .i64 p0), (1, .slice a_0 (List.length p1) c_0), (4, BP b1 0), (5, .int .i64 0), (6, .bool false), (7, .int .i64 t7.1)] 11 [⟨[], [], []⟩, ⟨[], [], []⟩, ⟨[], [], [1]⟩, ⟨[], [], [2]⟩, ⟨[], [], [3]⟩, ⟨[], [], []⟩, ⟨[], [], [5]⟩, ⟨[], [], [6]⟩, ⟨[], [], [7]⟩, ⟨[], [], [0, 4, 8]⟩, ⟨[], [0], []⟩] [⟨some 10, none⟩] (fun (g9 : Nat) => [.int .i64 t7.1, .slice a_0 (List.length p1) c_0, EP a_0 5 1 0, .int .u8 (gt p1 5), .int .i64 (IntKind.i64.wrap (gt p1 5)), .slice a_0 (List.length p1) c_0, EP a_0 6 1 0, .int .u8 (gt p1 6), .int .i64 (IntKind.i64.wrap (gt p1 6)), .agg #[.int .i64 t7.1, .int .i64 (IntKind.i64.wrap (gt p1 5)), .int .i64 (IntKind.i64.wrap (gt p1 6)), .slice none 0 0], BP g9 0]) (fun (g9 : Nat) => [Box g9 [.int .i64 0, .int .i64 0, .int .i64 0, .slice none 0 0]]) 0 [] [3] [] ⟨rfl, rfl, rfl, rfl, rfl, rfl, trivial⟩ trivial rfl (by kernel_rfl) (fun _ => rfl) (by kernel_rfl) (fun _ => rfl) ⟨?_, ?_, ?_, ?_, ?_, ?_, ?_, ?_, ?_, ?_, ?_, trivial⟩ fun g9 => ?_
    · exact OpOK.of (fun g9 => [(.tmp 7, .int .i64 t7.1)]) _ _ (fun g9 _ => g9) rfl rfl (fun _ => ⟨rfl, trivial⟩) (fun g9 => Pu.toOT Pu.move) (fun _ _ => ⟨rfl, rfl, ⟨rfl, trivial⟩⟩)
    · exact OpOK.of (fun g9 => [(.tmp 1, .slice a_0 (List.length p1) c_0)]) _ _ (fun g9 _ => g9) rfl rfl (fun _ => ⟨rfl, trivial⟩) (fun g9 => Pu.toOT Pu.move) (fun _ _ => ⟨rfl, rfl, ⟨rfl, trivial⟩⟩)
    · exact OpOK.of (fun g9 => [(.tmp 26, .slice a_0 (List.length p1) c_0), (.const (.int .i64 5), .int .i64 5)]) _ _ (fun g9 _ => g9) rfl rfl (fun _ => ⟨rfl, rfl, trivial⟩) (fun g9 => OT.indexB ul22 sz5 hb_0 h10) (fun _ _ => ⟨rfl, rfl, ⟨rfl, trivial⟩⟩)
    · exact OpOK.of (fun g9 => [(.tmp 27, EP a_0 5 1 0)]) _ _ (fun g9 _ => g9) rfl rfl (fun _ => ⟨rfl, trivial⟩) (fun g9 => OT.loadF sc5 hb_0 h10 rfl) (fun _ _ => ⟨rfl, rfl, ⟨rfl, trivial⟩⟩)
    · exact OpOK.of (fun g9 => [(.tmp 28, .int .u8 (gt p1 5))]) _ _ (fun g9 _ => g9) rfl rfl (fun _ => ⟨rfl, trivial⟩) (fun g9 => Pu.toOT (Pu.conv ul5 ul3)) (fun _ _ => ⟨rfl, rfl, ⟨rfl, trivial⟩⟩)
    · exact OpOK.of (fun g9 => [(.tmp 1, .slice a_0 (List.length p1) c_0)]) _ _ (fun g9 _ => g9) rfl rfl (fun _ => ⟨rfl, trivial⟩) (fun g9 => Pu.toOT Pu.move) (fun _ _ => ⟨rfl, rfl, ⟨rfl, trivial⟩⟩)
    · exact OpOK.of (fun g9 => [(.tmp 30, .slice a_0 (List.length p1) c_0), (.const (.int .i64 6), .int .i64 6)]) _ _ (fun g9 _ => g9) rfl rfl (fun _ => ⟨rfl, rfl, trivial⟩) (fun g9 => OT.indexB ul22 sz5 hb_0 h11) (fun _ _ => ⟨rfl, rfl, ⟨rfl, trivial⟩⟩)
    · exact OpOK.of (fun g9 => [(.tmp 31, EP a_0 6 1 0)]) _ _ (fun g9 _ => g9) rfl rfl (fun _ => ⟨rfl, trivial⟩) (fun g9 => OT.loadF sc5 hb_0 h11 rfl) (fun _ _ => ⟨rfl, rfl, ⟨rfl, trivial⟩⟩)
    · exact OpOK.of (fun g9 => [(.tmp 32, .int .u8 (gt p1 6))]) _ _ (fun g9 _ => g9) rfl rfl (fun _ => ⟨rfl, trivial⟩) (fun g9 => Pu.toOT (Pu.conv ul5 ul3)) (fun _ _ => ⟨rfl, rfl, ⟨rfl, trivial⟩⟩)
    · exact OpOK.of (fun g9 => [(.tmp 25, .int .i64 t7.1), (.tmp 29, .int .i64 (IntKind.i64.wrap (gt p1 5))), (.tmp 33, .int .i64 (IntKind.i64.wrap (gt p1 6)))]) _ _ (fun g9 _ => g9) rfl rfl (fun _ => ⟨rfl, rfl, rfl, trivial⟩) (fun g9 => Pu.toOT (Pu.build (us := [.int .i64 t7.1, .int .i64 (IntKind.i64.wrap (gt p1 5)), .int .i64 (IntKind.i64.wrap (gt p1 6))]) (cs := [.int .i64 t7.1, .int .i64 (IntKind.i64.wrap (gt p1 5)), .int .i64 (IntKind.i64.wrap (gt p1 6)), .slice none 0 0]) [(0, .tmp 25), (1, .tmp 29), (2, .tmp 33)] st57 rfl rfl rfl)) (fun _ _ => ⟨rfl, rfl, ⟨rfl, trivial⟩⟩)
    · exact OpOK.of (fun g9 => []) _ _ (fun g9 x => x) rfl rfl (fun _ => trivial) (fun g9 => OT.alloc zc57) (fun _ _ => ⟨rfl, rfl, ⟨rfl, trivial⟩⟩)
    refine HQ.keep [(0, _), (1, _), (4, _), (5, _), (6, _), (34, _), (9, _)] ⟨rfl, rfl, rfl, rfl, rfl, rfl, rfl, trivial⟩ ?_
    refine HQ.keepR [(1, _), (3, _)] ⟨rfl, rfl, trivial⟩ rfl ?_
    refine HQ.opN [3] [3] [] (OT.storeC (cs' := [.int .i64 t7.1, .int .i64 (IntKind.i64.wrap (gt p1 5)), .int .i64 (IntKind.i64.wrap (gt p1 6)), .slice none 0 0]) sz57 rfl rfl rfl rfl rfl) ⟨rfl, rfl, trivial⟩ ⟨rfl, trivial⟩ rfl rfl rfl (fun _ => rfl) fun _ => ?_
    refine HQ.done ?_
    refine HQ.keep [(0, _), (1, _), (4, _), (5, _), (6, _), (9, _)] ⟨rfl, rfl, rfl, rfl, rfl, rfl, trivial⟩ ?_
    refine HQ.rseq ?_
    refine HQ.pu Pu.move ⟨rfl, trivial⟩ rfl rfl rfl ?_
    obtain ⟨h13, H⟩ := asr H
    refine HQ.op [] [] (OT.indexB ul22 sz5 hb_0 h13) ⟨rfl, rfl, trivial⟩ trivial rfl rfl rfl rfl (fun _ => rfl) fun _ => ?_
    refine HQ.op [] [] (OT.loadF sc5 hb_0 h13 rfl) ⟨rfl, trivial⟩ trivial rfl rfl rfl rfl (fun _ => rfl) fun _ => ?_
    refine HQ.pu (Pu.conv ul5 ul3) ⟨rfl, trivial⟩ rfl rfl rfl ?_
    refine HQ.pu Pu.assign ⟨rfl, trivial⟩ rfl rfl rfl ?_
    refine HQ.done ?_
    refine HQ.keep [(0, _), (1, _), (4, _), (5, _), (6, _), (9, _), (10, _)] ⟨rfl, rfl, rfl, rfl, rfl, rfl, rfl, trivial⟩ ?_
    refine HQ.seq ?_
    refine HQ.rseq ?_
    refine HQ.op [3] [3] (OT.loadBA (vs := [.int .i64 t7.1, .int .i64 (IntKind.i64.wrap (gt p1 5)), .int .i64 (IntKind.i64.wrap (gt p1 6)), .slice none 0 0]) ag57 sz57 rfl rfl) ⟨rfl, trivial⟩ ⟨rfl, trivial⟩ rfl rfl rfl rfl (fun _ => rfl) fun _ => ?_
    obtain ⟨t14, h15, H⟩ := bnd H
    refine HQ.op [] [] (OT.call (us := [_]) (Pre := []) [.tmp 39] Try.call104 rfl rfl fun w F hs hF hp => impl_Tx_numbersOk_c h15) ⟨rfl, rfl, trivial⟩ trivial rfl rfl rfl rfl (fun _ => rfl) fun _ => ?_
    refine HQ.pu Pu.not ⟨rfl, trivial⟩ rfl rfl rfl ?_
    refine HQ.pu Pu.move ⟨rfl, trivial⟩ rfl rfl rfl ?_
    refine HQ.cutAt 5 [(47, .bool ((!t14) || (decide ((IntKind.i64.wrap (gt p1 7)) > (IntKind.i64.wrap (gt p1 6)))))), (0, .int .i64 p0), (1, .slice a_0 (List.length p1) c_0), (4, BP b1 0), (5, .int .i64 0), (6, .bool false), (9, BP g9 0), (10, .int .i64 (IntKind.i64.wrap (gt p1 7)))] [(1, Box b1 [.int .i64 0, .int .i64 0, .int .i64 0, .slice none 0 0]), (3, Box g9 [.int .i64 t7.1, .int .i64 (IntKind.i64.wrap (gt p1 5)), .int .i64 (IntKind.i64.wrap (gt p1 6)), .slice none 0 0])] ?_ ?_
    · rcases Bool.eq_false_or_eq_true (!t14) with hg16 | hg16
      · refine HQ.off rfl rfl hg16 rfl ?_
        refine HQ.off rfl rfl hg16 rfl ?_
        refine HQ.off rfl rfl hg16 rfl ?_
        refine HQ.off rfl rfl hg16 rfl ?_
        refine HQ.pu (Pu.pickOT (u := (decide ((IntKind.i64.wrap (gt p1 7)) > (IntKind.i64.wrap (gt p1 6))))) hg16) ⟨rfl, rfl, trivial⟩ rfl rfl rfl ?_
        exact HQ.mid ⟨rfl, rfl, rfl, rfl, rfl, rfl, rfl, rfl, trivial⟩ ⟨rfl, rfl, trivial⟩ rfl
      · refine HQ.on rfl rfl hg16 ?_
        refine HQ.pu Pu.move ⟨rfl, trivial⟩ rfl rfl rfl ?_
        refine HQ.on rfl rfl hg16 ?_
        refine HQ.pu (Pu.fieldB fo57_2 rfl) ⟨rfl, trivial⟩ rfl rfl rfl ?_
        refine HQ.on rfl rfl hg16 ?_
        refine HQ.op [3] [3] (OT.loadB sc3 rfl) ⟨rfl, trivial⟩ ⟨rfl, trivial⟩ rfl rfl rfl rfl (fun _ => rfl) fun _ => ?_
        refine HQ.on rfl rfl hg16 ?_
        refine HQ.pu Pu.gtr ⟨rfl, rfl, trivial⟩ rfl rfl rfl ?_
        refine HQ.pu (Pu.pickOF hg16) ⟨rfl, rfl, trivial⟩ rfl rfl rfl ?_
        exact HQ.mid ⟨rfl, rfl, rfl, rfl, rfl, rfl, rfl, rfl, trivial⟩ ⟨rfl, rfl, trivial⟩ rfl
    refine HQ.pu Pu.move ⟨rfl, trivial⟩ rfl rfl rfl ?_
    obtain ⟨c28, h29, H⟩ := bnd H
    refine HQ.cutAt 9 [(57, .bool c28), (4, BP b1 0), (5, .int .i64 0), (6, .bool false), (9, BP g9 0), (10, .int .i64 (IntKind.i64.wrap (gt p1 7)))] [(1, Box b1 [.int .i64 0, .int .i64 0, .int .i64 0, .slice none 0 0]), (3, Box g9 [.int .i64 t7.1, .int .i64 (IntKind.i64.wrap (gt p1 5)), .int .i64 (IntKind.i64.wrap (gt p1 6)), .slice none 0 0])] ?_ ?_
    · clear H
      have H := h29
      rcases brk H with ⟨hg17, H⟩ | ⟨hg17, H⟩
      · obtain rfl := Option.some.inj H
        refine HQ.off rfl rfl hg17 rfl ?_
        refine HQ.off rfl rfl hg17 rfl ?_
        refine HQ.off rfl rfl hg17 rfl ?_
        refine HQ.off rfl rfl hg17 rfl ?_
        refine HQ.off rfl rfl hg17 rfl ?_
        refine HQ.off rfl rfl hg17 rfl ?_
        refine HQ.off rfl rfl hg17 rfl ?_
        refine HQ.off rfl rfl hg17 rfl ?_
        refine HQ.pu (Pu.pickC1 hg17) ⟨rfl, rfl, trivial⟩ rfl rfl rfl ?_
        exact HQ.mid ⟨rfl, rfl, rfl, rfl, rfl, rfl, trivial⟩ ⟨rfl, rfl, trivial⟩ rfl
      · refine HQ.on rfl rfl hg17 ?_
        refine HQ.pu Pu.move ⟨rfl, trivial⟩ rfl rfl rfl ?_
        refine HQ.on rfl rfl hg17 ?_
        refine HQ.op [3] [3] (OT.loadBA (vs := [.int .i64 t7.1, .int .i64 (IntKind.i64.wrap (gt p1 5)), .int .i64 (IntKind.i64.wrap (gt p1 6)), .slice none 0 0]) ag57 sz57 rfl rfl) ⟨rfl, trivial⟩ ⟨rfl, trivial⟩ rfl rfl rfl rfl (fun _ => rfl) fun _ => ?_
        refine HQ.on rfl rfl hg17 ?_
        refine HQ.pu Pu.move ⟨rfl, trivial⟩ rfl rfl rfl ?_
        refine HQ.on rfl rfl hg17 ?_
        obtain ⟨t18, h19, H⟩ := bnd H
        refine HQ.op [] [4] (OT.call (us := [_, _, _]) (Pre := []) [.tmp 49, .tmp 50, .tmp 51] Try.call102 rfl rfl fun w F hs hF hp => impl_endCell_c h19) ⟨rfl, rfl, rfl, rfl, trivial⟩ trivial rfl rfl rfl rfl (fun _ => rfl) fun ⟨a20, c21⟩ => ?_
        refine HQ.on rfl rfl hg17 ?_
        obtain ⟨t22, h23, H⟩ := bnd H
        refine HQ.op [4] [5, 4] (OT.call (us := [_, _]) (Pre := [OwnS kU8 a20 c21 t18]) [.tmp 52, .const (.int .i64 32)] Try.call24 rfl rfl fun w F hs hF hp => impl_Pad_c (hs.lend hF 0 rfl) h23) ⟨rfl, rfl, rfl, trivial⟩ ⟨rfl, trivial⟩ rfl rfl rfl rfl (fun _ => rfl) fun ⟨a24, c25⟩ => ?_
        refine HQ.on rfl rfl hg17 ?_
        refine HQ.pu Pu.move ⟨rfl, trivial⟩ rfl rfl rfl ?_
        refine HQ.on rfl rfl hg17 ?_
        obtain ⟨t26, h27, H⟩ := bnd H
        refine HQ.op [5] [5] (OT.call (us := [_, _]) (Pre := [OwnS kU8 a24 c25 t22]) [.tmp 53, .tmp 54] Try.call100 rfl rfl fun w F hs hF hp => bytes_Equal_c (hs.lend hF 0 rfl) (hb_0.pass hp) h27) ⟨rfl, rfl, rfl, trivial⟩ ⟨rfl, trivial⟩ rfl rfl rfl rfl (fun _ => rfl) fun _ => ?_
        refine HQ.on rfl rfl hg17 ?_
        refine HQ.pu Pu.not ⟨rfl, trivial⟩ rfl rfl rfl ?_
        obtain rfl := Option.some.inj H
        refine HQ.pu (Pu.pickC0 hg17) ⟨rfl, rfl, trivial⟩ rfl rfl rfl ?_
        exact HQ.mid ⟨rfl, rfl, rfl, rfl, rfl, rfl, trivial⟩ ⟨rfl, rfl, trivial⟩ rfl
    refine HQ.done ?_
    refine HQ.keep [(57, _), (4, _), (5, _), (6, _), (9, _), (10, _)] ⟨rfl, rfl, rfl, rfl, rfl, rfl, trivial⟩ ?_
    rcases brk H with ⟨hc, H⟩ | ⟨hc, H⟩
    · refine HQ.condT rfl hc ?_
      clear hc
      refine HQ.rseq ?_
      refine HQ.pu (Pu.build (us := []) (cs := [.int .i64 0, .int .i64 0, .int .i64 0, .slice none 0 0]) [] st57 rfl rfl rfl) trivial rfl rfl rfl ?_
      refine HQ.opN [1] [1] [] (OT.storeC (cs' := [.int .i64 0, .int .i64 0, .int .i64 0, .slice none 0 0]) sz57 rfl rfl rfl rfl rfl) ⟨rfl, rfl, trivial⟩ ⟨rfl, trivial⟩ rfl rfl rfl (fun _ => rfl) fun _ => ?_
      refine HQ.pu Pu.assign ⟨rfl, trivial⟩ rfl rfl rfl ?_
      refine HQ.pu Pu.assign ⟨rfl, trivial⟩ rfl rfl rfl ?_
      refine HQ.done ?_
      refine HQ.keep [(4, _), (5, _), (6, _), (9, _), (10, _)] ⟨rfl, rfl, rfl, rfl, rfl, trivial⟩ ?_
      refine HQ.ret ?_
      refine HQ.thenR ?_
      obtain rfl := Option.some.inj H
      refine HQ.nil kTChange 6 rfl ?_
      exact HQ.fin (vs := [_, _, _]) Try.results31 (none, 0) ⟨⟨_, _, 1, rfl, rfl, ag57, sz57, rfl⟩, rfl, rfl, trivial⟩ rfl [6] ⟨rfl, trivial⟩ rfl
    · refine HQ.condF rfl hc ?_
      clear hc
      refine HQ.skipThen ?_
      refine HQ.rseq ?_
      refine HQ.op [3] [3] (OT.loadBA (vs := [.int .i64 t7.1, .int .i64 (IntKind.i64.wrap (gt p1 5)), .int .i64 (IntKind.i64.wrap (gt p1 6)), .slice none 0 0]) ag57 sz57 rfl rfl) ⟨rfl, trivial⟩ ⟨rfl, trivial⟩ rfl rfl rfl rfl (fun _ => rfl) fun _ => ?_
      refine HQ.pu Pu.move ⟨rfl, trivial⟩ rfl rfl rfl ?_
      refine HQ.opN [1] [1] [] (OT.storeC (cs' := [.int .i64 t7.1, .int .i64 (IntKind.i64.wrap (gt p1 5)), .int .i64 (IntKind.i64.wrap (gt p1 6)), .slice none 0 0]) sz57 rfl rfl rfl rfl rfl) ⟨rfl, rfl, trivial⟩ ⟨rfl, trivial⟩ rfl rfl rfl (fun _ => rfl) fun _ => ?_
      refine HQ.pu Pu.assign ⟨rfl, trivial⟩ rfl rfl rfl ?_
      refine HQ.pu Pu.assign ⟨rfl, trivial⟩ rfl rfl rfl ?_
      refine HQ.done ?_
      refine HQ.keep [(4, _), (5, _), (6, _)] ⟨rfl, rfl, rfl, trivial⟩ ?_
      refine HQ.ret ?_
      obtain rfl := Option.some.inj H
      refine HQ.nil kTChange 7 rfl ?_
      exact HQ.fin (vs := [_, _, _]) Try.results31 (none, 0) ⟨⟨_, _, 1, rfl, rfl, ag57, sz57, rfl⟩, rfl, rfl, trivial⟩ rfl [7] ⟨rfl, trivial⟩ rfl

end Go.Proofs.Sx
