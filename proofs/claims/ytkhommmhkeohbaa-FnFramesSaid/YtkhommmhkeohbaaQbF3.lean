import Derived.Test.YtkhommmhkeohbaaQbF2
import Derived.KernelRfl
namespace Go.Proofs.Sx
open Go.RowKit
set_option linter.unusedVariables false
set_option linter.unusedSimpArgs false
set_option maxRecDepth 20000
set_option maxHeartbeats 1000000
/-! spec.l5Any -/
theorem spec_l5Any_c {w : World} {k : Nat} {p0 : TCur} {β_0 : Nat} {a_0 : Option Addr} {c_0 : Nat} {F0 : Fp} (hs0 : Sat [Box β_0 [.slice a_0 (List.length p0.b) c_0, .int .i64 p0.i, .int .i64 p0.h]] w.heap F0) (hF0 : ∀ b, F0 b → b < w.heap.size) (hb_0 : BorS kU8 a_0 c_0 p0.b w.heap (Lt w F0)) {r : TNode × TCur} (H : spec_l5Any k p0 = some r) :
    Calls Try.prog 125 #[BP β_0 0] w (Rt w F0 (fun g : Option Addr × Nat => .agg #[.bool r.1.Leaf, .slice g.1 (List.length r.1.L) g.2]) (fun g => [OwnS kTEntry g.1 g.2 r.1.L, Box β_0 [.slice a_0 (List.length p0.b) c_0, .int .i64 r.2.i, .int .i64 r.2.h]])) := by
  rw [spec_l5Any] at H
  refine Calls.enter (N := 57) (us := [_]) (F0 := F0) (Γ0 := [(1, Box β_0 [.slice a_0 (List.length p0.b) c_0, .int .i64 p0.i, .int .i64 p0.h])]) Try.func125 rfl rfl rfl hs0 hF0 ?_
  refine HQ.rseq ?_
  refine HQ.op [] [2] (OT.alloc zc47) trivial trivial rfl rfl rfl rfl (fun _ => rfl) fun b1 => ?_
  refine HQ.done ?_
  refine HQ.keep [(0, _), (2, _)] ⟨rfl, rfl, trivial⟩ ?_
  refine HQ.rseq ?_
  refine HQ.pu Pu.move ⟨rfl, trivial⟩ rfl rfl rfl ?_
  obtain ⟨t2, h3, H⟩ := bnd H
  refine HQ.op [1] [3, 1] (OT.callM (us := [_]) (PreX := [Box β_0 [.slice a_0 (List.length p0.b) c_0, .int .i64 p0.i, .int .i64 p0.h]]) (PreL := []) [.tmp 5] Try.call124 rfl rfl fun w FX FL hs1 hF1 hs2 hF2 hp => spec_l5Draw_c (p0 := p0) hs1 hF1 (hb_0.passY hp) h3) ⟨rfl, rfl, trivial⟩ ⟨rfl, trivial⟩ rfl rfl rfl rfl (fun _ => rfl) fun ⟨a4, c5⟩ => ?_
  refine HQ.op [] [4] (OT.alloc zc47) trivial trivial rfl rfl rfl rfl (fun _ => rfl) fun b6 => ?_
  refine HQ.opN [4] [4] [] (OT.storeC (cs' := [.bool t2.1.Leaf, .slice a4 (List.length t2.1.L) c5]) sz47 rfl rfl rfl rfl rfl) ⟨rfl, rfl, trivial⟩ ⟨rfl, trivial⟩ rfl rfl rfl (fun _ => rfl) fun _ => ?_
  refine HQ.done ?_
  refine HQ.keep [(0, _), (2, _), (3, _)] ⟨rfl, rfl, rfl, trivial⟩ ?_
  refine HQ.seq ?_
  refine HQ.rseq ?_
  refine HQ.pu Pu.move ⟨rfl, trivial⟩ rfl rfl rfl ?_
  obtain ⟨t7, h8, H⟩ := bnd H
  refine HQ.op [1] [1] (OT.callM (us := [_, _]) (PreX := [Box β_0 [.slice a_0 (List.length p0.b) c_0, .int .i64 t2.2.i, .int .i64 t2.2.h]]) (PreL := []) [.tmp 7, .const (.int .i64 12)] Try.call86 rfl rfl fun w FX FL hs1 hF1 hs2 hF2 hp => spec_l1Below_c (p0 := (⟨p0.b, t2.2.i, t2.2.h⟩ : TCur)) (p1 := 12) hs1 hF1 (hb_0.passY hp) h8) ⟨rfl, rfl, rfl, trivial⟩ ⟨rfl, trivial⟩ rfl rfl rfl rfl (fun _ => rfl) fun _ => ?_
  refine HQ.done ?_
  refine HQ.keep [(0, _), (2, _), (3, _), (8, _)] ⟨rfl, rfl, rfl, rfl, trivial⟩ ?_
  refine HQ.block ?_
  refine HQ.rseq ?_
  refine HQ.pu Pu.eql ⟨rfl, rfl, trivial⟩ rfl rfl rfl ?_
  refine HQ.pu Pu.assign ⟨rfl, trivial⟩ rfl rfl rfl ?_
  refine HQ.done ?_
  refine HQ.keep [(0, _), (2, _), (3, _), (8, _), (9, _)] ⟨rfl, rfl, rfl, rfl, rfl, trivial⟩ ?_
  rcases brk H with ⟨hc, H⟩ | ⟨hc, H⟩
  · refine HQ.condT rfl hc ?_
    clear hc
    refine HQ.regionQ ?_
    refine HQ.pu (Pu.fieldB fo47_0 rfl) ⟨rfl, trivial⟩ rfl rfl rfl ?_
    refine HQ.op [4] [4] (OT.loadB sc4 rfl) ⟨rfl, trivial⟩ ⟨rfl, trivial⟩ rfl rfl rfl rfl (fun _ => rfl) fun _ => ?_
    refine HQ.pu Pu.not ⟨rfl, trivial⟩ rfl rfl rfl ?_
    refine HQ.pu (Pu.fieldB fo47_0 rfl) ⟨rfl, trivial⟩ rfl rfl rfl ?_
    refine HQ.opN [4] [4] [] (OT.storeC (cs' := [.bool (!t2.1.Leaf), .slice a4 (List.length t2.1.L) c5]) sz4 rfl rfl rfl rfl rfl) ⟨rfl, rfl, trivial⟩ ⟨rfl, trivial⟩ rfl rfl rfl (fun _ => rfl) fun _ => ?_
    refine HQ.done ?_
    refine HQ.keep [(2, _), (3, _)] ⟨rfl, rfl, trivial⟩ ?_
    refine HQ.blkN ?_
    refine HQ.thenN ?_
    refine HQ.rseq ?_
    refine HQ.op [4] [4] (OT.loadBA (vs := [.bool (!t2.1.Leaf), .slice a4 (List.length t2.1.L) c5]) ag47 sz47 rfl rfl) ⟨rfl, trivial⟩ ⟨rfl, trivial⟩ rfl rfl rfl rfl (fun _ => rfl) fun _ => ?_
    refine HQ.opN [2] [2] [] (OT.storeC (cs' := [.bool (!t2.1.Leaf), .slice a4 (List.length t2.1.L) c5]) sz47 rfl rfl rfl rfl rfl) ⟨rfl, rfl, trivial⟩ ⟨rfl, trivial⟩ rfl rfl rfl (fun _ => rfl) fun _ => ?_
    refine HQ.done ?_
    refine HQ.keep [(2, _)] ⟨rfl, trivial⟩ ?_
    refine HQ.ret ?_
    obtain rfl := Option.some.inj H
    exact HQ.fin (vs := [_]) Try.results125 (a4, c5) ⟨⟨_, _, 2, rfl, rfl, ag47, sz47, rfl⟩, trivial⟩ rfl [3, 1] ⟨rfl, rfl, trivial⟩ rfl
  · refine HQ.condF rfl hc ?_
    clear hc
    refine HQ.rseq ?_
    refine HQ.pu Pu.eql ⟨rfl, rfl, trivial⟩ rfl rfl rfl ?_
    refine HQ.pu Pu.assign ⟨rfl, trivial⟩ rfl rfl rfl ?_
    refine HQ.done ?_
    refine HQ.keep [(0, _), (2, _), (3, _), (8, _), (15, _)] ⟨rfl, rfl, rfl, rfl, rfl, trivial⟩ ?_
    rcases brk H with ⟨hc, H⟩ | ⟨hc, H⟩
    · refine HQ.condT rfl hc ?_
      clear hc
      obtain ⟨t12, h13, H⟩ := bnd H
      obtain ⟨t14, h15, H⟩ := bnd H
      refine HQ.draw mixd [(0, BP β_0 0), (2, BP b1 0), (3, BP b6 0)] 9 [⟨[], [], []⟩, ⟨[0], [0], [0]⟩, ⟨[], [], []⟩, ⟨[], [1], []⟩, ⟨[2, 1], [3, 1], [2, 3]⟩, ⟨[], [], []⟩, ⟨[3], [4], [5]⟩, ⟨[], [], [4, 6]⟩, ⟨[], [5], [7]⟩] [⟨none, none⟩, ⟨some 3, none⟩, ⟨none, some 4⟩, ⟨some 4, some 6⟩, ⟨some 6, none⟩, ⟨some 8, none⟩] (fun (g9 : (Option Addr × Nat) × (Option Addr × Nat)) => [BP b6 1, .slice a4 (List.length t2.1.L) c5, BP β_0 0, .slice g9.1.1 (List.length ([0, 47, 48, 999, 1000, (-1)] : (List Int))) g9.1.2, .int .i64 t12.1, BP β_0 0, .agg #[.int .i64 t14.1.X0, .int .i64 t14.1.Y0, .int .i64 t14.1.X1, .int .i64 t14.1.Y1], .agg #[.int .i64 t12.1, .int .i64 t14.1.X0, .int .i64 t14.1.Y0, .int .i64 t14.1.X1, .int .i64 t14.1.Y1], .slice g9.2.1 (List.length ([(⟨t12.1, t14.1⟩ : TEntry)] : (List TEntry))) g9.2.2]) (fun (g9 : (Option Addr × Nat) × (Option Addr × Nat)) => [Box b6 [.bool t2.1.Leaf, .slice a4 (List.length t2.1.L) c5], OwnS kI g9.1.1 g9.1.2 ([0, 47, 48, 999, 1000, (-1)] : (List Int)), Box β_0 [.slice a_0 (List.length p0.b) c_0, .int .i64 t7.2.i, .int .i64 t7.2.h], Box β_0 [.slice a_0 (List.length p0.b) c_0, .int .i64 t12.2.i, .int .i64 t12.2.h], Box β_0 [.slice a_0 (List.length p0.b) c_0, .int .i64 t14.2.i, .int .i64 t14.2.h], OwnS kTEntry g9.2.1 g9.2.2 ([(⟨t12.1, t14.1⟩ : TEntry)] : (List TEntry))]) ((none, 0), (none, 0)) [4, 1] [4, 5, 1, 6] [] ⟨rfl, rfl, rfl, trivial⟩ ⟨rfl, rfl, trivial⟩ rfl (by kernel_rfl) (fun _ => rfl) (by kernel_rfl) (fun _ => rfl) ⟨?_, ?_, ?_, ?_, ?_, ?_, ?_, ?_, ?_, trivial⟩ fun g9 => ?_
      · exact OpOK.of (fun g9 => [(.tmp 3, BP b6 0)]) _ _ (fun g9 _ => g9) rfl rfl (fun _ => ⟨rfl, trivial⟩) (fun g9 => Pu.toOT (Pu.fieldB fo47_1 rfl)) (fun _ _ => ⟨rfl, rfl, ⟨rfl, rfl, rfl, rfl, rfl, rfl, trivial⟩⟩)
      · exact OpOK.of (fun g9 => [(.tmp 17, BP b6 1)]) _ _ (fun g9 _ => g9) rfl rfl (fun _ => ⟨rfl, trivial⟩) (fun g9 => OT.loadB sc45 rfl) (fun _ _ => ⟨rfl, rfl, ⟨rfl, rfl, rfl, rfl, rfl, rfl, trivial⟩⟩)
      · exact OpOK.of (fun g9 => [(.tmp 0, BP β_0 0)]) _ _ (fun g9 _ => g9) rfl rfl (fun _ => ⟨rfl, trivial⟩) (fun g9 => Pu.toOT Pu.move) (fun _ _ => ⟨rfl, rfl, ⟨rfl, rfl, rfl, rfl, rfl, rfl, trivial⟩⟩)
      · exact OpOK.of (fun g9 => [(.const (.int .i64 0), .int .i64 0), (.const (.int .i64 47), .int .i64 47), (.const (.int .i64 48), .int .i64 48), (.const (.int .i64 999), .int .i64 999), (.const (.int .i64 1000), .int .i64 1000), (.const (.int .i64 (-1)), .int .i64 (-1))]) _ _ (fun g9 x => (x, g9.2)) rfl rfl (fun _ => ⟨rfl, rfl, rfl, rfl, rfl, rfl, trivial⟩) (fun g9 => OT.buildF (us := [.int .i64 0, .int .i64 47, .int .i64 48, .int .i64 999, .int .i64 1000, .int .i64 (-1)]) (ys := ([0, 47, 48, 999, 1000, (-1)] : (List Int))) (enc := (encI .i64)) (hl := fun _ => ⟨rfl, rfl⟩) [.const (.int .i64 0), .const (.int .i64 47), .const (.int .i64 48), .const (.int .i64 999), .const (.int .i64 1000), .const (.int .i64 (-1))] sl33.ul sl33.szE sl33.zc rfl rfl rfl rfl rfl) (fun _ _ => ⟨rfl, rfl, ⟨rfl, rfl, rfl, rfl, rfl, rfl, trivial⟩⟩)
      · exact OpOK.of (fun g9 => [(.func 79, .func (.func 79) #[] #[]), (.tmp 19, BP β_0 0), (.tmp 20, .slice g9.1.1 (List.length ([0, 47, 48, 999, 1000, (-1)] : (List Int))) g9.1.2)]) _ _ (fun g9 _ => g9) rfl rfl (fun _ => ⟨rfl, rfl, rfl, trivial⟩) (fun g9 => OT.callM (us := [_, _]) (PreX := [Box β_0 [.slice a_0 (List.length p0.b) c_0, .int .i64 t7.2.i, .int .i64 t7.2.h]]) (PreL := [OwnS kI g9.1.1 g9.1.2 ([0, 47, 48, 999, 1000, (-1)] : (List Int))]) [.tmp 19, .tmp 20] Try.call79 rfl rfl fun w FX FL hs1 hF1 hs2 hF2 hp => spec_l1Int_c (p0 := (⟨p0.b, t7.2.i, t7.2.h⟩ : TCur)) (p1 := ([0, 47, 48, 999, 1000, (-1)] : (List Int))) hs1 hF1 (hb_0.passY hp) (hs2.lendY hF2 0 rfl) h13) (fun _ _ => ⟨rfl, rfl, ⟨rfl, rfl, rfl, rfl, rfl, rfl, trivial⟩⟩)
      · exact OpOK.of (fun g9 => [(.tmp 0, BP β_0 0)]) _ _ (fun g9 _ => g9) rfl rfl (fun _ => ⟨rfl, trivial⟩) (fun g9 => Pu.toOT Pu.move) (fun _ _ => ⟨rfl, rfl, ⟨rfl, rfl, rfl, rfl, rfl, rfl, trivial⟩⟩)
      · exact OpOK.of (fun g9 => [(.func 138, .func (.func 138) #[] #[]), (.tmp 22, BP β_0 0)]) _ _ (fun g9 _ => g9) rfl rfl (fun _ => ⟨rfl, rfl, trivial⟩) (fun g9 => OT.callM (us := [_]) (PreX := [Box β_0 [.slice a_0 (List.length p0.b) c_0, .int .i64 t12.2.i, .int .i64 t12.2.h]]) (PreL := []) [.tmp 22] Try.call138 rfl rfl fun w FX FL hs1 hF1 hs2 hF2 hp => spec_l2Any_c (p0 := (⟨p0.b, t12.2.i, t12.2.h⟩ : TCur)) hs1 hF1 (hb_0.passY hp) h15) (fun _ _ => ⟨rfl, rfl, ⟨rfl, rfl, rfl, rfl, rfl, rfl, trivial⟩⟩)
      · exact OpOK.of (fun g9 => [(.tmp 21, .int .i64 t12.1), (.tmp 23, .agg #[.int .i64 t14.1.X0, .int .i64 t14.1.Y0, .int .i64 t14.1.X1, .int .i64 t14.1.Y1])]) _ _ (fun g9 _ => g9) rfl rfl (fun _ => ⟨rfl, rfl, trivial⟩) (fun g9 => Pu.toOT (Pu.build (us := [.int .i64 t12.1, .agg #[.int .i64 t14.1.X0, .int .i64 t14.1.Y0, .int .i64 t14.1.X1, .int .i64 t14.1.Y1]]) (cs := [.int .i64 t12.1, .int .i64 t14.1.X0, .int .i64 t14.1.Y0, .int .i64 t14.1.X1, .int .i64 t14.1.Y1]) [(0, .tmp 21), (1, .tmp 23)] st134 rfl rfl rfl)) (fun _ _ => ⟨rfl, rfl, ⟨rfl, rfl, rfl, rfl, rfl, rfl, trivial⟩⟩)
      · exact OpOK.of (fun g9 => [(.tmp 24, .agg #[.int .i64 t12.1, .int .i64 t14.1.X0, .int .i64 t14.1.Y0, .int .i64 t14.1.X1, .int .i64 t14.1.Y1])]) _ _ (fun g9 x => (g9.1, x)) rfl rfl (fun _ => ⟨rfl, trivial⟩) (fun g9 => OT.buildF (us := [.agg #[.int .i64 t12.1, .int .i64 t14.1.X0, .int .i64 t14.1.Y0, .int .i64 t14.1.X1, .int .i64 t14.1.Y1]]) (ys := ([(⟨t12.1, t14.1⟩ : TEntry)] : (List TEntry))) (enc := encTEntry) (hl := fun _ => ⟨rfl, rfl⟩) [.tmp 24] sl45.ul sl45.szE sl45.zc rfl rfl rfl rfl rfl) (fun _ _ => ⟨rfl, rfl, ⟨rfl, rfl, rfl, rfl, rfl, rfl, trivial⟩⟩)
      refine HQ.keep [(2, _), (3, _), (18, _), (25, _)] ⟨rfl, rfl, rfl, rfl, trivial⟩ ?_
      refine HQ.keepR [(1, _), (2, _), (3, _), (4, _), (5, _), (6, _)] ⟨rfl, rfl, rfl, rfl, rfl, rfl, trivial⟩ rfl ?_
      obtain ⟨h20, H⟩ := asr H
      refine HQ.op [3, 6] [3, 6] (OT.appendG (enc := encTEntry) (hl := fun _ => ⟨rfl, rfl⟩) sl45 ul45 h20) ⟨rfl, rfl, trivial⟩ ⟨rfl, rfl, trivial⟩ rfl rfl rfl rfl (fun _ => rfl) fun ⟨a18, c19⟩ => ?_
      refine HQ.pu (Pu.fieldB fo47_1 rfl) ⟨rfl, trivial⟩ rfl rfl rfl ?_
      refine HQ.opN [4] [4] [] (OT.storeC (cs' := [.bool t2.1.Leaf, .slice a18 (List.length (t2.1.L ++ ([(⟨t12.1, t14.1⟩ : TEntry)] : (List TEntry)))) c19]) sz45 rfl rfl rfl rfl rfl) ⟨rfl, rfl, trivial⟩ ⟨rfl, trivial⟩ rfl rfl rfl (fun _ => rfl) fun _ => ?_
      refine HQ.done ?_
      refine HQ.keep [(2, _), (3, _)] ⟨rfl, rfl, trivial⟩ ?_
      refine HQ.blkN ?_
      refine HQ.thenN ?_
      refine HQ.rseq ?_
      refine HQ.op [4] [4] (OT.loadBA (vs := [.bool t2.1.Leaf, .slice a18 (List.length (t2.1.L ++ ([(⟨t12.1, t14.1⟩ : TEntry)] : (List TEntry)))) c19]) ag47 sz47 rfl rfl) ⟨rfl, trivial⟩ ⟨rfl, trivial⟩ rfl rfl rfl rfl (fun _ => rfl) fun _ => ?_
      refine HQ.opN [2] [2] [] (OT.storeC (cs' := [.bool t2.1.Leaf, .slice a18 (List.length (t2.1.L ++ ([(⟨t12.1, t14.1⟩ : TEntry)] : (List TEntry)))) c19]) sz47 rfl rfl rfl rfl rfl) ⟨rfl, rfl, trivial⟩ ⟨rfl, trivial⟩ rfl rfl rfl (fun _ => rfl) fun _ => ?_
      refine HQ.done ?_
      refine HQ.keep [(2, _)] ⟨rfl, trivial⟩ ?_
      refine HQ.ret ?_
      obtain rfl := Option.some.inj H
      exact HQ.fin (vs := [_]) Try.results125 (a18, c19) ⟨⟨_, _, 2, rfl, rfl, ag47, sz47, rfl⟩, trivial⟩ rfl [3, 1] ⟨rfl, rfl, trivial⟩ rfl
    · refine HQ.condF rfl hc ?_
      clear hc
      refine HQ.rseq ?_
      refine HQ.pu Pu.eql ⟨rfl, rfl, trivial⟩ rfl rfl rfl ?_
      refine HQ.pu Pu.assign ⟨rfl, trivial⟩ rfl rfl rfl ?_
      refine HQ.done ?_
      refine HQ.keep [(0, _), (2, _), (3, _), (8, _), (28, _)] ⟨rfl, rfl, rfl, rfl, rfl, trivial⟩ ?_
      rcases brk H with ⟨hc, H⟩ | ⟨hc, H⟩
      · refine HQ.condT rfl hc ?_
        clear hc
        refine HQ.rseq ?_
        refine HQ.pu Pu.assign ⟨rfl, trivial⟩ rfl rfl rfl ?_
        refine HQ.done ?_
        refine HQ.keep [(0, _), (2, _), (3, _), (4, _)] ⟨rfl, rfl, rfl, rfl, trivial⟩ ?_
        refine HQ.block ?_
        obtain ⟨o51, h58, H⟩ := bnd H
        refine HQ.loop h58 1 (fun (s : Int × Int × Int × (List TEntry)) (g : Option Addr × Nat) => match s, g with | (i29, i30, i31, l32), (a33, c34) => [(0, BP β_0 0), (2, BP b1 0), (3, BP b6 0), (4, .int .i64 i29)]) (fun (s : Int × Int × Int × (List TEntry)) (g : Option Addr × Nat) => match s, g with | (i29, i30, i31, l32), (a33, c34) => [(1, Box β_0 [.slice a_0 (List.length p0.b) c_0, .int .i64 i30, .int .i64 i31]), (2, Box b1 [.bool false, .slice none 0 0]), (4, Box b6 [.bool t2.1.Leaf, .slice a33 (List.length l32) c34]), (3, OwnS kTEntry a33 c34 l32)]) (fun _ _ _ => False) (a4, c5) ⟨rfl, rfl, rfl, rfl, trivial⟩ ⟨rfl, rfl, rfl, rfl, trivial⟩ rfl ?_ ?_ ?_
        · clear H h58
          rintro ⟨i29, i30, i31, l32⟩ ⟨a33, c34⟩ o H
          rw [spec_l5Any_b0] at H
          refine HQ.keep [(0, _), (2, _), (3, _), (4, _)] ⟨rfl, rfl, rfl, rfl, trivial⟩ ?_
          refine HQ.keepR [(1, _), (2, _), (4, _), (3, _)] ⟨rfl, rfl, rfl, rfl, trivial⟩ rfl ?_
          refine HQ.seq ?_
          refine HQ.rseq ?_
          refine HQ.pu Pu.move ⟨rfl, trivial⟩ rfl rfl rfl ?_
          refine HQ.pu Pu.lss ⟨rfl, rfl, trivial⟩ rfl rfl rfl ?_
          refine HQ.done ?_
          refine HQ.keep [(0, _), (2, _), (3, _), (4, _), (31, _)] ⟨rfl, rfl, rfl, rfl, rfl, trivial⟩ ?_
          rcases brk H with ⟨hc, H⟩ | ⟨hc, H⟩
          · refine HQ.condT rfl hc ?_
            clear hc
            refine HQ.skipThen ?_
            refine HQ.seq ?_
            refine HQ.block ?_
            obtain ⟨t44, h45, H⟩ := bnd H
            refine HQ.draw mixd [(0, BP β_0 0), (2, BP b1 0), (3, BP b6 0), (4, .int .i64 i29)] 8 [⟨[], [], []⟩, ⟨[0], [0], [0]⟩, ⟨[], [], []⟩, ⟨[], [], [2]⟩, ⟨[], [], []⟩, ⟨[1], [2], [4]⟩, ⟨[], [], [3, 5]⟩, ⟨[], [3], [6]⟩] [⟨none, none⟩, ⟨none, some 5⟩, ⟨some 5, none⟩, ⟨some 7, none⟩] (fun (g43 : (Option Addr × Nat)) => [BP b6 1, .slice a33 (List.length l32) c34, .int .i64 i29, .int .i64 (wrap64 (31 + i29)), BP β_0 0, .agg #[.int .i64 t44.1.X0, .int .i64 t44.1.Y0, .int .i64 t44.1.X1, .int .i64 t44.1.Y1], .agg #[.int .i64 (wrap64 (31 + i29)), .int .i64 t44.1.X0, .int .i64 t44.1.Y0, .int .i64 t44.1.X1, .int .i64 t44.1.Y1], .slice g43.1 (List.length ([(⟨(wrap64 (31 + i29)), t44.1⟩ : TEntry)] : (List TEntry))) g43.2]) (fun (g43 : (Option Addr × Nat)) => [Box b6 [.bool t2.1.Leaf, .slice a33 (List.length l32) c34], Box β_0 [.slice a_0 (List.length p0.b) c_0, .int .i64 i30, .int .i64 i31], Box β_0 [.slice a_0 (List.length p0.b) c_0, .int .i64 t44.2.i, .int .i64 t44.2.h], OwnS kTEntry g43.1 g43.2 ([(⟨(wrap64 (31 + i29)), t44.1⟩ : TEntry)] : (List TEntry))]) (none, 0) [4, 1] [4, 1, 9] [] ⟨rfl, rfl, rfl, rfl, trivial⟩ ⟨rfl, rfl, trivial⟩ rfl (by kernel_rfl) (fun _ => rfl) (by kernel_rfl) (fun _ => rfl) ⟨?_, ?_, ?_, ?_, ?_, ?_, ?_, ?_, trivial⟩ fun g43 => ?_
            · exact OpOK.of (fun g43 => [(.tmp 3, BP b6 0)]) _ _ (fun g43 _ => g43) rfl rfl (fun _ => ⟨rfl, trivial⟩) (fun g43 => Pu.toOT (Pu.fieldB fo47_1 rfl)) (fun _ _ => ⟨rfl, rfl, ⟨rfl, rfl, rfl, rfl, trivial⟩⟩)
            · exact OpOK.of (fun g43 => [(.tmp 34, BP b6 1)]) _ _ (fun g43 _ => g43) rfl rfl (fun _ => ⟨rfl, trivial⟩) (fun g43 => OT.loadB sc45 rfl) (fun _ _ => ⟨rfl, rfl, ⟨rfl, rfl, rfl, rfl, trivial⟩⟩)
            · exact OpOK.of (fun g43 => [(.tmp 4, .int .i64 i29)]) _ _ (fun g43 _ => g43) rfl rfl (fun _ => ⟨rfl, trivial⟩) (fun g43 => Pu.toOT Pu.move) (fun _ _ => ⟨rfl, rfl, ⟨rfl, rfl, rfl, rfl, trivial⟩⟩)
            · exact OpOK.of (fun g43 => [(.const (.int .i64 31), .int .i64 31), (.tmp 36, .int .i64 i29)]) _ _ (fun g43 _ => g43) rfl rfl (fun _ => ⟨rfl, rfl, trivial⟩) (fun g43 => Pu.toOT Pu.add) (fun _ _ => ⟨rfl, rfl, ⟨rfl, rfl, rfl, rfl, trivial⟩⟩)
            · exact OpOK.of (fun g43 => [(.tmp 0, BP β_0 0)]) _ _ (fun g43 _ => g43) rfl rfl (fun _ => ⟨rfl, trivial⟩) (fun g43 => Pu.toOT Pu.move) (fun _ _ => ⟨rfl, rfl, ⟨rfl, rfl, rfl, rfl, trivial⟩⟩)
            · exact OpOK.of (fun g43 => [(.func 139, .func (.func 139) #[] #[]), (.tmp 38, BP β_0 0)]) _ _ (fun g43 _ => g43) rfl rfl (fun _ => ⟨rfl, rfl, trivial⟩) (fun g43 => OT.callM (us := [_]) (PreX := [Box β_0 [.slice a_0 (List.length p0.b) c_0, .int .i64 i30, .int .i64 i31]]) (PreL := []) [.tmp 38] Try.call139 rfl rfl fun w FX FL hs1 hF1 hs2 hF2 hp => spec_l2Draw_c (p0 := (⟨p0.b, i30, i31⟩ : TCur)) hs1 hF1 (hb_0.passY hp) h45) (fun _ _ => ⟨rfl, rfl, ⟨rfl, rfl, rfl, rfl, trivial⟩⟩)
            · exact OpOK.of (fun g43 => [(.tmp 37, .int .i64 (wrap64 (31 + i29))), (.tmp 39, .agg #[.int .i64 t44.1.X0, .int .i64 t44.1.Y0, .int .i64 t44.1.X1, .int .i64 t44.1.Y1])]) _ _ (fun g43 _ => g43) rfl rfl (fun _ => ⟨rfl, rfl, trivial⟩) (fun g43 => Pu.toOT (Pu.build (us := [.int .i64 (wrap64 (31 + i29)), .agg #[.int .i64 t44.1.X0, .int .i64 t44.1.Y0, .int .i64 t44.1.X1, .int .i64 t44.1.Y1]]) (cs := [.int .i64 (wrap64 (31 + i29)), .int .i64 t44.1.X0, .int .i64 t44.1.Y0, .int .i64 t44.1.X1, .int .i64 t44.1.Y1]) [(0, .tmp 37), (1, .tmp 39)] st134 rfl rfl rfl)) (fun _ _ => ⟨rfl, rfl, ⟨rfl, rfl, rfl, rfl, trivial⟩⟩)
            · exact OpOK.of (fun g43 => [(.tmp 40, .agg #[.int .i64 (wrap64 (31 + i29)), .int .i64 t44.1.X0, .int .i64 t44.1.Y0, .int .i64 t44.1.X1, .int .i64 t44.1.Y1])]) _ _ (fun g43 x => x) rfl rfl (fun _ => ⟨rfl, trivial⟩) (fun g43 => OT.buildF (us := [.agg #[.int .i64 (wrap64 (31 + i29)), .int .i64 t44.1.X0, .int .i64 t44.1.Y0, .int .i64 t44.1.X1, .int .i64 t44.1.Y1]]) (ys := ([(⟨(wrap64 (31 + i29)), t44.1⟩ : TEntry)] : (List TEntry))) (enc := encTEntry) (hl := fun _ => ⟨rfl, rfl⟩) [.tmp 40] sl45.ul sl45.szE sl45.zc rfl rfl rfl rfl rfl) (fun _ _ => ⟨rfl, rfl, ⟨rfl, rfl, rfl, rfl, trivial⟩⟩)
            refine HQ.keep [(0, _), (2, _), (3, _), (4, _), (35, _), (41, _)] ⟨rfl, rfl, rfl, rfl, rfl, rfl, trivial⟩ ?_
            refine HQ.keepR [(1, _), (2, _), (4, _), (3, _), (9, _)] ⟨rfl, rfl, rfl, rfl, rfl, trivial⟩ rfl ?_
            obtain ⟨h50, H⟩ := asr H
            refine HQ.op [3, 9] [3, 9] (OT.appendG (enc := encTEntry) (hl := fun _ => ⟨rfl, rfl⟩) sl45 ul45 h50) ⟨rfl, rfl, trivial⟩ ⟨rfl, rfl, trivial⟩ rfl rfl rfl rfl (fun _ => rfl) fun ⟨a48, c49⟩ => ?_
            refine HQ.pu (Pu.fieldB fo47_1 rfl) ⟨rfl, trivial⟩ rfl rfl rfl ?_
            refine HQ.opN [4] [4] [] (OT.storeC (cs' := [.bool t2.1.Leaf, .slice a48 (List.length (l32 ++ ([(⟨(wrap64 (31 + i29)), t44.1⟩ : TEntry)] : (List TEntry)))) c49]) sz45 rfl rfl rfl rfl rfl) ⟨rfl, rfl, trivial⟩ ⟨rfl, trivial⟩ rfl rfl rfl (fun _ => rfl) fun _ => ?_
            refine HQ.done ?_
            refine HQ.keep [(0, _), (2, _), (3, _), (4, _)] ⟨rfl, rfl, rfl, rfl, trivial⟩ ?_
            refine HQ.blkN ?_
            refine HQ.thenN ?_
            refine HQ.regionQ ?_
            refine HQ.pu Pu.move ⟨rfl, trivial⟩ rfl rfl rfl ?_
            refine HQ.pu Pu.add ⟨rfl, rfl, trivial⟩ rfl rfl rfl ?_
            refine HQ.pu Pu.assign ⟨rfl, trivial⟩ rfl rfl rfl ?_
            refine HQ.done ?_
            refine HQ.keep [(0, _), (2, _), (3, _), (4, _)] ⟨rfl, rfl, rfl, rfl, trivial⟩ ?_
            obtain rfl := Option.some.inj H
            exact HQ.next (a48, c49) ⟨rfl, rfl, rfl, rfl, trivial⟩ ⟨rfl, rfl, rfl, rfl, trivial⟩ rfl
          · refine HQ.condF rfl hc ?_
            clear hc
            refine HQ.exit ?_
            refine HQ.thenE ?_
            obtain rfl := Option.some.inj H
            exact HQ.out (a33, c34) ⟨rfl, rfl, rfl, rfl, trivial⟩ ⟨rfl, rfl, rfl, rfl, trivial⟩ rfl
        · rintro ⟨i52, i53, i54, l55⟩ rfl ⟨a56, c57⟩
          clear h58
          replace H := H
          refine HQ.keep [(0, _), (2, _), (3, _), (4, _)] ⟨rfl, rfl, rfl, rfl, trivial⟩ ?_
          refine HQ.keepR [(1, _), (2, _), (4, _), (3, _)] ⟨rfl, rfl, rfl, rfl, trivial⟩ rfl ?_
          refine HQ.blkE ?_
          refine HQ.blkN ?_
          refine HQ.thenN ?_
          refine HQ.rseq ?_
          refine HQ.op [4] [4] (OT.loadBA (vs := [.bool t2.1.Leaf, .slice a56 (List.length l55) c57]) ag47 sz47 rfl rfl) ⟨rfl, trivial⟩ ⟨rfl, trivial⟩ rfl rfl rfl rfl (fun _ => rfl) fun _ => ?_
          refine HQ.opN [2] [2] [] (OT.storeC (cs' := [.bool t2.1.Leaf, .slice a56 (List.length l55) c57]) sz47 rfl rfl rfl rfl rfl) ⟨rfl, rfl, trivial⟩ ⟨rfl, trivial⟩ rfl rfl rfl (fun _ => rfl) fun _ => ?_
          refine HQ.done ?_
          refine HQ.keep [(2, _)] ⟨rfl, trivial⟩ ?_
          refine HQ.ret ?_
          obtain rfl := Option.some.inj H
          exact HQ.fin (vs := [_]) Try.results125 (a56, c57) ⟨⟨_, _, 2, rfl, rfl, ag47, sz47, rfl⟩, trivial⟩ rfl [3, 1] ⟨rfl, rfl, trivial⟩ rfl
        · exact fun r h a w hf => hf.elim
      · refine HQ.condF rfl hc ?_
        clear hc
        refine HQ.rseq ?_
        refine HQ.pu Pu.eql ⟨rfl, rfl, trivial⟩ rfl rfl rfl ?_
        refine HQ.pu Pu.assign ⟨rfl, trivial⟩ rfl rfl rfl ?_
        refine HQ.done ?_
        refine HQ.keep [(2, _), (3, _), (8, _), (44, _)] ⟨rfl, rfl, rfl, rfl, trivial⟩ ?_
        rcases brk H with ⟨hc, H⟩ | ⟨hc, H⟩
        · refine HQ.condT rfl hc ?_
          clear hc
          refine HQ.regionQ ?_
          refine HQ.pu (Pu.fieldB fo47_1 rfl) ⟨rfl, trivial⟩ rfl rfl rfl ?_
          refine HQ.op [4] [4] (OT.loadB sc45 rfl) ⟨rfl, trivial⟩ ⟨rfl, trivial⟩ rfl rfl rfl rfl (fun _ => rfl) fun _ => ?_
          refine HQ.pu (Pu.fieldB fo47_1 rfl) ⟨rfl, trivial⟩ rfl rfl rfl ?_
          refine HQ.op [4] [4] (OT.loadB sc45 rfl) ⟨rfl, trivial⟩ ⟨rfl, trivial⟩ rfl rfl rfl rfl (fun _ => rfl) fun _ => ?_
          obtain ⟨h61, H⟩ := asr H
          refine HQ.op [3] [3] (OT.appendS (enc := encTEntry) (hl := fun _ => ⟨rfl, rfl⟩) sl45 ul45 h61) ⟨rfl, rfl, trivial⟩ ⟨rfl, trivial⟩ rfl rfl rfl rfl (fun _ => rfl) fun ⟨a59, c60⟩ => ?_
          refine HQ.pu (Pu.fieldB fo47_1 rfl) ⟨rfl, trivial⟩ rfl rfl rfl ?_
          refine HQ.opN [4] [4] [] (OT.storeC (cs' := [.bool t2.1.Leaf, .slice a59 (List.length (t2.1.L ++ t2.1.L)) c60]) sz45 rfl rfl rfl rfl rfl) ⟨rfl, rfl, trivial⟩ ⟨rfl, trivial⟩ rfl rfl rfl (fun _ => rfl) fun _ => ?_
          refine HQ.done ?_
          refine HQ.keep [(2, _), (3, _)] ⟨rfl, rfl, trivial⟩ ?_
          refine HQ.blkN ?_
          refine HQ.thenN ?_
          refine HQ.rseq ?_
          refine HQ.op [4] [4] (OT.loadBA (vs := [.bool t2.1.Leaf, .slice a59 (List.length (t2.1.L ++ t2.1.L)) c60]) ag47 sz47 rfl rfl) ⟨rfl, trivial⟩ ⟨rfl, trivial⟩ rfl rfl rfl rfl (fun _ => rfl) fun _ => ?_
          refine HQ.opN [2] [2] [] (OT.storeC (cs' := [.bool t2.1.Leaf, .slice a59 (List.length (t2.1.L ++ t2.1.L)) c60]) sz47 rfl rfl rfl rfl rfl) ⟨rfl, rfl, trivial⟩ ⟨rfl, trivial⟩ rfl rfl rfl (fun _ => rfl) fun _ => ?_
          refine HQ.done ?_
          refine HQ.keep [(2, _)] ⟨rfl, trivial⟩ ?_
          refine HQ.ret ?_
          obtain rfl := Option.some.inj H
          exact HQ.fin (vs := [_]) Try.results125 (a59, c60) ⟨⟨_, _, 2, rfl, rfl, ag47, sz47, rfl⟩, trivial⟩ rfl [3, 1] ⟨rfl, rfl, trivial⟩ rfl
        · refine HQ.condF rfl hc ?_
          clear hc
          refine HQ.rseq ?_
          refine HQ.pu Pu.eql ⟨rfl, rfl, trivial⟩ rfl rfl rfl ?_
          refine HQ.pu Pu.assign ⟨rfl, trivial⟩ rfl rfl rfl ?_
          refine HQ.done ?_
          refine HQ.keep [(2, _), (3, _), (52, _)] ⟨rfl, rfl, rfl, trivial⟩ ?_
          rcases brk H with ⟨hc, H⟩ | ⟨hc, H⟩
          · refine HQ.condT rfl hc ?_
            clear hc
            refine HQ.regionQ ?_
            refine HQ.op [] [10] (OT.buildF (us := []) (ys := ([] : (List TEntry))) (enc := encTEntry) (hl := fun _ => ⟨rfl, rfl⟩) [] sl45.ul sl45.szE sl45.zc rfl rfl rfl rfl rfl) trivial trivial rfl rfl rfl rfl (fun _ => rfl) fun ⟨a62, c63⟩ => ?_
            refine HQ.pu (Pu.fieldB fo47_1 rfl) ⟨rfl, trivial⟩ rfl rfl rfl ?_
            refine HQ.opN [4] [4] [] (OT.storeC (cs' := [.bool t2.1.Leaf, .slice a62 (List.length ([] : (List TEntry))) c63]) sz45 rfl rfl rfl rfl rfl) ⟨rfl, rfl, trivial⟩ ⟨rfl, trivial⟩ rfl rfl rfl (fun _ => rfl) fun _ => ?_
            refine HQ.done ?_
            refine HQ.keep [(2, _), (3, _)] ⟨rfl, rfl, trivial⟩ ?_
            refine HQ.blkN ?_
            refine HQ.thenN ?_
            refine HQ.rseq ?_
            refine HQ.op [4] [4] (OT.loadBA (vs := [.bool t2.1.Leaf, .slice a62 (List.length ([] : (List TEntry))) c63]) ag47 sz47 rfl rfl) ⟨rfl, trivial⟩ ⟨rfl, trivial⟩ rfl rfl rfl rfl (fun _ => rfl) fun _ => ?_
            refine HQ.opN [2] [2] [] (OT.storeC (cs' := [.bool t2.1.Leaf, .slice a62 (List.length ([] : (List TEntry))) c63]) sz47 rfl rfl rfl rfl rfl) ⟨rfl, rfl, trivial⟩ ⟨rfl, trivial⟩ rfl rfl rfl (fun _ => rfl) fun _ => ?_
            refine HQ.done ?_
            refine HQ.keep [(2, _)] ⟨rfl, trivial⟩ ?_
            refine HQ.ret ?_
            obtain rfl := Option.some.inj H
            exact HQ.fin (vs := [_]) Try.results125 (a62, c63) ⟨⟨_, _, 2, rfl, rfl, ag47, sz47, rfl⟩, trivial⟩ rfl [10, 1] ⟨rfl, rfl, trivial⟩ rfl
          · refine HQ.condF rfl hc ?_
            clear hc
            refine HQ.skip ?_
            refine HQ.blkN ?_
            refine HQ.thenN ?_
            refine HQ.rseq ?_
            refine HQ.op [4] [4] (OT.loadBA (vs := [.bool t2.1.Leaf, .slice a4 (List.length t2.1.L) c5]) ag47 sz47 rfl rfl) ⟨rfl, trivial⟩ ⟨rfl, trivial⟩ rfl rfl rfl rfl (fun _ => rfl) fun _ => ?_
            refine HQ.opN [2] [2] [] (OT.storeC (cs' := [.bool t2.1.Leaf, .slice a4 (List.length t2.1.L) c5]) sz47 rfl rfl rfl rfl rfl) ⟨rfl, rfl, trivial⟩ ⟨rfl, trivial⟩ rfl rfl rfl (fun _ => rfl) fun _ => ?_
            refine HQ.done ?_
            refine HQ.keep [(2, _)] ⟨rfl, trivial⟩ ?_
            refine HQ.ret ?_
            obtain rfl := Option.some.inj H
            exact HQ.fin (vs := [_]) Try.results125 (a4, c5) ⟨⟨_, _, 2, rfl, rfl, ag47, sz47, rfl⟩, trivial⟩ rfl [3, 1] ⟨rfl, rfl, trivial⟩ rfl

/-! spec.l19Change -/
theorem spec_l19Change_c {w : World} {k : Nat} {p0 : TCur} {β_0 : Nat} {a_0 : Option Addr} {c_0 : Nat} {F0 : Fp} (hs0 : Sat [Box β_0 [.slice a_0 (List.length p0.b) c_0, .int .i64 p0.i, .int .i64 p0.h]] w.heap F0) (hF0 : ∀ b, F0 b → b < w.heap.size) (hb_0 : BorS kU8 a_0 c_0 p0.b w.heap (Lt w F0)) {r : TChange × TCur} (H : spec_l19Change k p0 = some r) :
    Calls Try.prog 96 #[BP β_0 0] w (Rt w F0 (fun g : Option Addr × Nat => .agg #[.int .i64 r.1.Page, .bool r.1.N.Leaf, .slice g.1 (List.length r.1.N.L) g.2]) (fun g => [OwnS kTEntry g.1 g.2 r.1.N.L, Box β_0 [.slice a_0 (List.length p0.b) c_0, .int .i64 r.2.i, .int .i64 r.2.h]])) := by
  rw [spec_l19Change] at H
  refine Calls.enter (N := 23) (us := [_]) (F0 := F0) (Γ0 := [(1, Box β_0 [.slice a_0 (List.length p0.b) c_0, .int .i64 p0.i, .int .i64 p0.h])]) Try.func96 rfl rfl rfl hs0 hF0 ?_
  refine HQ.rseq ?_
  refine HQ.op [] [2] (OT.alloc zc49) trivial trivial rfl rfl rfl rfl (fun _ => rfl) fun b1 => ?_
  refine HQ.done ?_
  refine HQ.keep [(0, _), (2, _)] ⟨rfl, rfl, trivial⟩ ?_
  refine HQ.rseq ?_
  refine HQ.pu Pu.move ⟨rfl, trivial⟩ rfl rfl rfl ?_
  obtain ⟨t2, h3, H⟩ := bnd H
  refine HQ.op [1] [1] (OT.callM (us := [_, _]) (PreX := [Box β_0 [.slice a_0 (List.length p0.b) c_0, .int .i64 p0.i, .int .i64 p0.h]]) (PreL := []) [.tmp 4, .const (.int .i64 48)] Try.call86 rfl rfl fun w FX FL hs1 hF1 hs2 hF2 hp => spec_l1Below_c (p0 := p0) (p1 := 48) hs1 hF1 (hb_0.passY hp) h3) ⟨rfl, rfl, rfl, trivial⟩ ⟨rfl, trivial⟩ rfl rfl rfl rfl (fun _ => rfl) fun _ => ?_
  refine HQ.pu Pu.move ⟨rfl, trivial⟩ rfl rfl rfl ?_
  obtain ⟨t4, h5, H⟩ := bnd H
  refine HQ.op [1] [3, 1] (OT.callM (us := [_]) (PreX := [Box β_0 [.slice a_0 (List.length p0.b) c_0, .int .i64 t2.2.i, .int .i64 t2.2.h]]) (PreL := []) [.tmp 6] Try.call124 rfl rfl fun w FX FL hs1 hF1 hs2 hF2 hp => spec_l5Draw_c (p0 := (⟨p0.b, t2.2.i, t2.2.h⟩ : TCur)) hs1 hF1 (hb_0.passY hp) h5) ⟨rfl, rfl, trivial⟩ ⟨rfl, trivial⟩ rfl rfl rfl rfl (fun _ => rfl) fun ⟨a6, c7⟩ => ?_
  refine HQ.pu (Pu.build (us := [.int .i64 t2.1, .agg #[.bool t4.1.Leaf, .slice a6 (List.length t4.1.L) c7]]) (cs := [.int .i64 t2.1, .bool t4.1.Leaf, .slice a6 (List.length t4.1.L) c7]) [(0, .tmp 5), (1, .tmp 7)] st49 rfl rfl rfl) ⟨rfl, rfl, trivial⟩ rfl rfl rfl ?_
  refine HQ.op [] [4] (OT.alloc zc49) trivial trivial rfl rfl rfl rfl (fun _ => rfl) fun b8 => ?_
  refine HQ.opN [4] [4] [] (OT.storeC (cs' := [.int .i64 t2.1, .bool t4.1.Leaf, .slice a6 (List.length t4.1.L) c7]) sz49 rfl rfl rfl rfl rfl) ⟨rfl, rfl, trivial⟩ ⟨rfl, trivial⟩ rfl rfl rfl (fun _ => rfl) fun _ => ?_
  refine HQ.done ?_
  refine HQ.keep [(0, _), (2, _), (3, _)] ⟨rfl, rfl, rfl, trivial⟩ ?_
  refine HQ.seq ?_
  refine HQ.rseq ?_
  refine HQ.pu Pu.move ⟨rfl, trivial⟩ rfl rfl rfl ?_
  obtain ⟨t9, h10, H⟩ := bnd H
  refine HQ.op [1] [1] (OT.callM (us := [_, _]) (PreX := [Box β_0 [.slice a_0 (List.length p0.b) c_0, .int .i64 t4.2.i, .int .i64 t4.2.h]]) (PreL := []) [.tmp 9, .const (.int .i64 8)] Try.call86 rfl rfl fun w FX FL hs1 hF1 hs2 hF2 hp => spec_l1Below_c (p0 := (⟨p0.b, t4.2.i, t4.2.h⟩ : TCur)) (p1 := 8) hs1 hF1 (hb_0.passY hp) h10) ⟨rfl, rfl, rfl, trivial⟩ ⟨rfl, trivial⟩ rfl rfl rfl rfl (fun _ => rfl) fun _ => ?_
  refine HQ.done ?_
  refine HQ.keep [(0, _), (2, _), (3, _), (10, _)] ⟨rfl, rfl, rfl, rfl, trivial⟩ ?_
  refine HQ.block ?_
  refine HQ.rseq ?_
  refine HQ.pu Pu.eql ⟨rfl, rfl, trivial⟩ rfl rfl rfl ?_
  refine HQ.pu Pu.assign ⟨rfl, trivial⟩ rfl rfl rfl ?_
  refine HQ.done ?_
  refine HQ.keep [(0, _), (2, _), (3, _), (10, _), (11, _)] ⟨rfl, rfl, rfl, rfl, rfl, trivial⟩ ?_
  rcases brk H with ⟨hc, H⟩ | ⟨hc, H⟩
  · refine HQ.condT rfl hc ?_
    clear hc
    refine HQ.regionQ ?_
    refine HQ.pu Pu.move ⟨rfl, trivial⟩ rfl rfl rfl ?_
    refine HQ.op [] [5] (OT.buildF (us := [.int .i64 (-1), .int .i64 47, .int .i64 48, .int .i64 255]) (ys := ([(-1), 47, 48, 255] : (List Int))) (enc := (encI .i64)) (hl := fun _ => ⟨rfl, rfl⟩) [.const (.int .i64 (-1)), .const (.int .i64 47), .const (.int .i64 48), .const (.int .i64 255)] sl33.ul sl33.szE sl33.zc rfl rfl rfl rfl rfl) ⟨rfl, rfl, rfl, rfl, trivial⟩ trivial rfl rfl rfl rfl (fun _ => rfl) fun ⟨a11, c12⟩ => ?_
    obtain ⟨t13, h14, H⟩ := bnd H
    refine HQ.op [1, 5] [1, 5] (OT.callM (us := [_, _]) (PreX := [Box β_0 [.slice a_0 (List.length p0.b) c_0, .int .i64 t9.2.i, .int .i64 t9.2.h]]) (PreL := [OwnS kI a11 c12 ([(-1), 47, 48, 255] : (List Int))]) [.tmp 13, .tmp 14] Try.call79 rfl rfl fun w FX FL hs1 hF1 hs2 hF2 hp => spec_l1Int_c (p0 := (⟨p0.b, t9.2.i, t9.2.h⟩ : TCur)) (p1 := ([(-1), 47, 48, 255] : (List Int))) hs1 hF1 (hb_0.passY hp) (hs2.lendY hF2 0 rfl) h14) ⟨rfl, rfl, rfl, trivial⟩ ⟨rfl, rfl, trivial⟩ rfl rfl rfl rfl (fun _ => rfl) fun _ => ?_
    refine HQ.pu (Pu.fieldB fo49_0 rfl) ⟨rfl, trivial⟩ rfl rfl rfl ?_
    refine HQ.opN [4] [4] [] (OT.storeC (cs' := [.int .i64 t13.1, .bool t4.1.Leaf, .slice a6 (List.length t4.1.L) c7]) sz3 rfl rfl rfl rfl rfl) ⟨rfl, rfl, trivial⟩ ⟨rfl, trivial⟩ rfl rfl rfl (fun _ => rfl) fun _ => ?_
    refine HQ.done ?_
    refine HQ.keep [(2, _), (3, _)] ⟨rfl, rfl, trivial⟩ ?_
    refine HQ.blkN ?_
    refine HQ.thenN ?_
    refine HQ.rseq ?_
    refine HQ.op [4] [4] (OT.loadBA (vs := [.int .i64 t13.1, .bool t4.1.Leaf, .slice a6 (List.length t4.1.L) c7]) ag49 sz49 rfl rfl) ⟨rfl, trivial⟩ ⟨rfl, trivial⟩ rfl rfl rfl rfl (fun _ => rfl) fun _ => ?_
    refine HQ.opN [2] [2] [] (OT.storeC (cs' := [.int .i64 t13.1, .bool t4.1.Leaf, .slice a6 (List.length t4.1.L) c7]) sz49 rfl rfl rfl rfl rfl) ⟨rfl, rfl, trivial⟩ ⟨rfl, trivial⟩ rfl rfl rfl (fun _ => rfl) fun _ => ?_
    refine HQ.done ?_
    refine HQ.keep [(2, _)] ⟨rfl, trivial⟩ ?_
    refine HQ.ret ?_
    obtain rfl := Option.some.inj H
    exact HQ.fin (vs := [_]) Try.results96 (a6, c7) ⟨⟨_, _, 2, rfl, rfl, ag49, sz49, rfl⟩, trivial⟩ rfl [3, 1] ⟨rfl, rfl, trivial⟩ rfl
  · refine HQ.condF rfl hc ?_
    clear hc
    refine HQ.rseq ?_
    refine HQ.pu Pu.eql ⟨rfl, rfl, trivial⟩ rfl rfl rfl ?_
    refine HQ.pu Pu.assign ⟨rfl, trivial⟩ rfl rfl rfl ?_
    refine HQ.done ?_
    refine HQ.keep [(0, _), (2, _), (3, _), (17, _)] ⟨rfl, rfl, rfl, rfl, trivial⟩ ?_
    rcases brk H with ⟨hc, H⟩ | ⟨hc, H⟩
    · refine HQ.condT rfl hc ?_
      clear hc
      refine HQ.regionQ ?_
      refine HQ.pu Pu.move ⟨rfl, trivial⟩ rfl rfl rfl ?_
      obtain ⟨t15, h16, H⟩ := bnd H
      refine HQ.op [1] [6, 1] (OT.callM (us := [_]) (PreX := [Box β_0 [.slice a_0 (List.length p0.b) c_0, .int .i64 t9.2.i, .int .i64 t9.2.h]]) (PreL := []) [.tmp 19] Try.call125 rfl rfl fun w FX FL hs1 hF1 hs2 hF2 hp => spec_l5Any_c (p0 := (⟨p0.b, t9.2.i, t9.2.h⟩ : TCur)) hs1 hF1 (hb_0.passY hp) h16) ⟨rfl, rfl, trivial⟩ ⟨rfl, trivial⟩ rfl rfl rfl rfl (fun _ => rfl) fun ⟨a17, c18⟩ => ?_
      refine HQ.pu (Pu.fieldB fo49_1 rfl) ⟨rfl, trivial⟩ rfl rfl rfl ?_
      refine HQ.opN [4] [4] [] (OT.storeC (cs' := [.int .i64 t2.1, .bool t15.1.Leaf, .slice a17 (List.length t15.1.L) c18]) sz47 rfl rfl rfl rfl rfl) ⟨rfl, rfl, trivial⟩ ⟨rfl, trivial⟩ rfl rfl rfl (fun _ => rfl) fun _ => ?_
      refine HQ.done ?_
      refine HQ.keep [(2, _), (3, _)] ⟨rfl, rfl, trivial⟩ ?_
      refine HQ.blkN ?_
      refine HQ.thenN ?_
      refine HQ.rseq ?_
      refine HQ.op [4] [4] (OT.loadBA (vs := [.int .i64 t2.1, .bool t15.1.Leaf, .slice a17 (List.length t15.1.L) c18]) ag49 sz49 rfl rfl) ⟨rfl, trivial⟩ ⟨rfl, trivial⟩ rfl rfl rfl rfl (fun _ => rfl) fun _ => ?_
      refine HQ.opN [2] [2] [] (OT.storeC (cs' := [.int .i64 t2.1, .bool t15.1.Leaf, .slice a17 (List.length t15.1.L) c18]) sz49 rfl rfl rfl rfl rfl) ⟨rfl, rfl, trivial⟩ ⟨rfl, trivial⟩ rfl rfl rfl (fun _ => rfl) fun _ => ?_
      refine HQ.done ?_
      refine HQ.keep [(2, _)] ⟨rfl, trivial⟩ ?_
      refine HQ.ret ?_
      obtain rfl := Option.some.inj H
      exact HQ.fin (vs := [_]) Try.results96 (a17, c18) ⟨⟨_, _, 2, rfl, rfl, ag49, sz49, rfl⟩, trivial⟩ rfl [6, 1] ⟨rfl, rfl, trivial⟩ rfl
    · refine HQ.condF rfl hc ?_
      clear hc
      refine HQ.skip ?_
      refine HQ.blkN ?_
      refine HQ.thenN ?_
      refine HQ.rseq ?_
      refine HQ.op [4] [4] (OT.loadBA (vs := [.int .i64 t2.1, .bool t4.1.Leaf, .slice a6 (List.length t4.1.L) c7]) ag49 sz49 rfl rfl) ⟨rfl, trivial⟩ ⟨rfl, trivial⟩ rfl rfl rfl rfl (fun _ => rfl) fun _ => ?_
      refine HQ.opN [2] [2] [] (OT.storeC (cs' := [.int .i64 t2.1, .bool t4.1.Leaf, .slice a6 (List.length t4.1.L) c7]) sz49 rfl rfl rfl rfl rfl) ⟨rfl, rfl, trivial⟩ ⟨rfl, trivial⟩ rfl rfl rfl (fun _ => rfl) fun _ => ?_
      refine HQ.done ?_
      refine HQ.keep [(2, _)] ⟨rfl, trivial⟩ ?_
      refine HQ.ret ?_
      obtain rfl := Option.some.inj H
      exact HQ.fin (vs := [_]) Try.results96 (a6, c7) ⟨⟨_, _, 2, rfl, rfl, ag49, sz49, rfl⟩, trivial⟩ rfl [3, 1] ⟨rfl, rfl, trivial⟩ rfl

/-! spec.DrawPutCell -/
theorem spec_DrawPutCell_c {w : World} {k : Nat} {p0 : (List Int)} {a_0 : Option Addr} {c_0 : Nat} (hb_0 : BorS kU8 a_0 c_0 p0 w.heap (Lt w Nil)) {r : Int × TChange} (H : spec_DrawPutCell k p0 = some r) :
    Calls Try.prog 26 #[.slice a_0 (List.length p0) c_0] w (Rt w Nil (fun g : Option Addr × Nat => .tuple #[.int .i64 r.1, .agg #[.int .i64 r.2.Page, .bool r.2.N.Leaf, .slice g.1 (List.length r.2.N.L) g.2]]) (fun g => [OwnS kTEntry g.1 g.2 r.2.N.L])) := by
  rw [spec_DrawPutCell] at H
  refine Calls.enter0 (N := 13) (us := [_]) Try.func26 rfl rfl rfl ?_
  refine HQ.rseq ?_
  refine HQ.pu Pu.assign ⟨rfl, trivial⟩ rfl rfl rfl ?_
  refine HQ.op [] [1] (OT.alloc zc49) trivial trivial rfl rfl rfl rfl (fun _ => rfl) fun b1 => ?_
  refine HQ.done ?_
  refine HQ.keep [(0, _), (2, _), (3, _)] ⟨rfl, rfl, rfl, trivial⟩ ?_
  refine HQ.rseq ?_
  refine HQ.pu Pu.move ⟨rfl, trivial⟩ rfl rfl rfl ?_
  obtain ⟨t2, h3, H⟩ := bnd H
  refine HQ.op [] [2] (OT.call (us := [_]) (Pre := []) [.tmp 6] Try.call77 rfl rfl fun w F hs hF hp => spec_l1New_c (hb_0.pass hp) h3) ⟨rfl, rfl, trivial⟩ trivial rfl rfl rfl rfl (fun _ => rfl) fun b4 => ?_
  refine HQ.pu Pu.assign ⟨rfl, trivial⟩ rfl rfl rfl ?_
  refine HQ.done ?_
  refine HQ.keep [(2, _), (3, _), (4, _)] ⟨rfl, rfl, rfl, trivial⟩ ?_
  refine HQ.rseq ?_
  refine HQ.pu Pu.move ⟨rfl, trivial⟩ rfl rfl rfl ?_
  obtain ⟨t5, h6, H⟩ := bnd H
  refine HQ.op [2] [2] (OT.callM (us := [_]) (PreX := [Box b4 [.slice a_0 (List.length p0) c_0, .int .i64 t2.i, .int .i64 t2.h]]) (PreL := []) [.tmp 8] Try.call95 rfl rfl fun w FX FL hs1 hF1 hs2 hF2 hp => spec_l19Epoch_c (p0 := (⟨p0, t2.i, t2.h⟩ : TCur)) hs1 hF1 (hb_0.passY hp) h6) ⟨rfl, rfl, trivial⟩ ⟨rfl, trivial⟩ rfl rfl rfl rfl (fun _ => rfl) fun _ => ?_
  refine HQ.pu Pu.assign ⟨rfl, trivial⟩ rfl rfl rfl ?_
  refine HQ.done ?_
  refine HQ.keep [(2, _), (3, _), (4, _), (5, _)] ⟨rfl, rfl, rfl, rfl, trivial⟩ ?_
  refine HQ.rseq ?_
  refine HQ.pu Pu.move ⟨rfl, trivial⟩ rfl rfl rfl ?_
  refine HQ.pu Pu.move ⟨rfl, trivial⟩ rfl rfl rfl ?_
  obtain ⟨t7, h8, H⟩ := bnd H
  refine HQ.op [2] [3, 2] (OT.callM (us := [_]) (PreX := [Box b4 [.slice a_0 (List.length p0) c_0, .int .i64 t5.2.i, .int .i64 t5.2.h]]) (PreL := []) [.tmp 11] Try.call96 rfl rfl fun w FX FL hs1 hF1 hs2 hF2 hp => spec_l19Change_c (p0 := (⟨p0, t5.2.i, t5.2.h⟩ : TCur)) hs1 hF1 (hb_0.passY hp) h8) ⟨rfl, rfl, trivial⟩ ⟨rfl, trivial⟩ rfl rfl rfl rfl (fun _ => rfl) fun ⟨a9, c10⟩ => ?_
  refine HQ.pu Pu.assign ⟨rfl, trivial⟩ rfl rfl rfl ?_
  refine HQ.opN [1] [1] [] (OT.storeC (cs' := [.int .i64 t7.1.Page, .bool t7.1.N.Leaf, .slice a9 (List.length t7.1.N.L) c10]) sz49 rfl rfl rfl rfl rfl) ⟨rfl, rfl, trivial⟩ ⟨rfl, trivial⟩ rfl rfl rfl (fun _ => rfl) fun _ => ?_
  refine HQ.done ?_
  refine HQ.keep [(2, _), (3, _)] ⟨rfl, rfl, trivial⟩ ?_
  refine HQ.ret ?_
  obtain rfl := Option.some.inj H
  exact HQ.fin (vs := [_, _]) Try.results26 (a9, c10) ⟨rfl, ⟨_, _, 1, rfl, rfl, ag49, sz49, rfl⟩, trivial⟩ rfl [3] ⟨rfl, trivial⟩ rfl

/-! impl.in -/
theorem impl_in_c {w : World} {p0 : Int} {p1 : Int} {p2 : Int}   {r : Bool} (H : impl_in p0 p1 p2 = some r) :
    Calls Try.prog 83 #[.int .i64 p0, .int .i64 p1, .int .i64 p2] w (Rt w Nil (fun _ : Unit => .bool r) (fun _ => [])) := by
  rw [impl_in] at H
  refine Calls.enter0 (N := 15) (us := [_, _, _]) Try.func83 rfl rfl rfl ?_
  refine HQ.rseq ?_
  refine HQ.pu Pu.assign ⟨rfl, trivial⟩ rfl rfl rfl ?_
  refine HQ.done ?_
  refine HQ.keep [(0, _), (1, _), (2, _), (6, _)] ⟨rfl, rfl, rfl, rfl, trivial⟩ ?_
  refine HQ.rseq ?_
  refine HQ.pu Pu.move ⟨rfl, trivial⟩ rfl rfl rfl ?_
  refine HQ.pu Pu.move ⟨rfl, trivial⟩ rfl rfl rfl ?_
  refine HQ.pu Pu.leq ⟨rfl, rfl, trivial⟩ rfl rfl rfl ?_
  refine HQ.pu Pu.move ⟨rfl, trivial⟩ rfl rfl rfl ?_
  refine HQ.cutAt 4 [(14, .bool ((decide (p1 ≤ p0)) && (decide (p0 ≤ p2)))), (6, .bool false)] [] ?_ ?_
  · rcases Bool.eq_false_or_eq_true (decide (p1 ≤ p0)) with hg1 | hg1
    · refine HQ.on rfl rfl hg1 ?_
      refine HQ.pu Pu.move ⟨rfl, trivial⟩ rfl rfl rfl ?_
      refine HQ.on rfl rfl hg1 ?_
      refine HQ.pu Pu.move ⟨rfl, trivial⟩ rfl rfl rfl ?_
      refine HQ.on rfl rfl hg1 ?_
      refine HQ.pu Pu.leq ⟨rfl, rfl, trivial⟩ rfl rfl rfl ?_
      refine HQ.pu (Pu.pickAT hg1) ⟨rfl, rfl, trivial⟩ rfl rfl rfl ?_
      exact HQ.mid ⟨rfl, rfl, trivial⟩ trivial rfl
    · refine HQ.off rfl rfl hg1 rfl ?_
      refine HQ.off rfl rfl hg1 rfl ?_
      refine HQ.off rfl rfl hg1 rfl ?_
      refine HQ.pu (Pu.pickAF (u := (decide (p0 ≤ p2))) hg1) ⟨rfl, rfl, trivial⟩ rfl rfl rfl ?_
      exact HQ.mid ⟨rfl, rfl, trivial⟩ trivial rfl
  refine HQ.pu Pu.assign ⟨rfl, trivial⟩ rfl rfl rfl ?_
  refine HQ.done ?_
  refine HQ.keep [(6, _)] ⟨rfl, trivial⟩ ?_
  refine HQ.ret ?_
  obtain rfl := Option.some.inj H
  exact HQ.fin (vs := [_]) Try.results83 () ⟨rfl, trivial⟩ rfl [] trivial rfl

/-! impl.BoxOk -/
theorem impl_BoxOk_c {w : World} {p0 : TBox}   {r : Bool} (H : impl_BoxOk p0 = some r) :
    Calls Try.prog 109 #[.agg #[.int .i64 p0.X0, .int .i64 p0.Y0, .int .i64 p0.X1, .int .i64 p0.Y1]] w (Rt w Nil (fun _ : Unit => .bool r) (fun _ => [])) := by
  rw [impl_BoxOk] at H
  refine Calls.enter0 (N := 25) (us := [_]) Try.func109 rfl rfl rfl ?_
  refine HQ.rseq ?_
  refine HQ.op [] [1] (OT.box (cs := [.int .i64 p0.X0, .int .i64 p0.Y0, .int .i64 p0.X1, .int .i64 p0.Y1]) rfl) ⟨rfl, trivial⟩ trivial rfl rfl rfl rfl (fun _ => rfl) fun b1 => ?_
  refine HQ.pu Pu.assign ⟨rfl, trivial⟩ rfl rfl rfl ?_
  refine HQ.done ?_
  refine HQ.keep [(1, _), (2, _)] ⟨rfl, rfl, trivial⟩ ?_
  refine HQ.rseq ?_
  refine HQ.pu (Pu.fieldB fo132_0 rfl) ⟨rfl, trivial⟩ rfl rfl rfl ?_
  refine HQ.op [1] [1] (OT.loadB sc3 rfl) ⟨rfl, trivial⟩ ⟨rfl, trivial⟩ rfl rfl rfl rfl (fun _ => rfl) fun _ => ?_
  refine HQ.pu (Pu.fieldB fo132_2 rfl) ⟨rfl, trivial⟩ rfl rfl rfl ?_
  refine HQ.op [1] [1] (OT.loadB sc3 rfl) ⟨rfl, trivial⟩ ⟨rfl, trivial⟩ rfl rfl rfl rfl (fun _ => rfl) fun _ => ?_
  obtain ⟨t2, h3, H⟩ := bnd H
  refine HQ.op [] [] (OT.call (us := [_, _, _]) (Pre := []) [.tmp 4, .const (.int .i64 0), .tmp 6] Try.call83 rfl rfl fun w F hs hF hp => impl_in_c h3) ⟨rfl, rfl, rfl, rfl, trivial⟩ trivial rfl rfl rfl rfl (fun _ => rfl) fun _ => ?_
  refine HQ.pu Pu.move ⟨rfl, trivial⟩ rfl rfl rfl ?_
  obtain ⟨c7, h8, H⟩ := bnd H
  refine HQ.cutAt 4 [(12, .bool c7), (1, BP b1 0), (2, .bool false)] [(1, Box b1 [.int .i64 p0.X0, .int .i64 p0.Y0, .int .i64 p0.X1, .int .i64 p0.Y1])] ?_ ?_
  · clear H
    have H := h8
    rcases brk H with ⟨hg4, H⟩ | ⟨hg4, H⟩
    · refine HQ.on rfl rfl hg4 ?_
      refine HQ.pu (Pu.fieldB fo132_2 rfl) ⟨rfl, trivial⟩ rfl rfl rfl ?_
      refine HQ.on rfl rfl hg4 ?_
      refine HQ.op [1] [1] (OT.loadB sc3 rfl) ⟨rfl, trivial⟩ ⟨rfl, trivial⟩ rfl rfl rfl rfl (fun _ => rfl) fun _ => ?_
      refine HQ.on rfl rfl hg4 ?_
      obtain ⟨t5, h6, H⟩ := bnd H
      refine HQ.op [] [] (OT.call (us := [_, _, _]) (Pre := []) [.tmp 10, .const (.int .i64 0), .const (.int .i64 255)] Try.call83 rfl rfl fun w F hs hF hp => impl_in_c h6) ⟨rfl, rfl, rfl, rfl, trivial⟩ trivial rfl rfl rfl rfl (fun _ => rfl) fun _ => ?_
      obtain rfl := Option.some.inj H
      refine HQ.pu (Pu.pickC1 hg4) ⟨rfl, rfl, trivial⟩ rfl rfl rfl ?_
      exact HQ.mid ⟨rfl, rfl, rfl, trivial⟩ ⟨rfl, trivial⟩ rfl
    · obtain rfl := Option.some.inj H
      refine HQ.off rfl rfl hg4 rfl ?_
      refine HQ.off rfl rfl hg4 rfl ?_
      refine HQ.off rfl rfl hg4 rfl ?_
      refine HQ.pu (Pu.pickC0 hg4) ⟨rfl, rfl, trivial⟩ rfl rfl rfl ?_
      exact HQ.mid ⟨rfl, rfl, rfl, trivial⟩ ⟨rfl, trivial⟩ rfl
  refine HQ.pu Pu.move ⟨rfl, trivial⟩ rfl rfl rfl ?_
  obtain ⟨c12, h13, H⟩ := bnd H
  refine HQ.cutAt 6 [(19, .bool c12), (1, BP b1 0), (2, .bool false)] [(1, Box b1 [.int .i64 p0.X0, .int .i64 p0.Y0, .int .i64 p0.X1, .int .i64 p0.Y1])] ?_ ?_
  · clear H
    have H := h13
    rcases brk H with ⟨hg9, H⟩ | ⟨hg9, H⟩
    · refine HQ.on rfl rfl hg9 ?_
      refine HQ.pu (Pu.fieldB fo132_1 rfl) ⟨rfl, trivial⟩ rfl rfl rfl ?_
      refine HQ.on rfl rfl hg9 ?_
      refine HQ.op [1] [1] (OT.loadB sc3 rfl) ⟨rfl, trivial⟩ ⟨rfl, trivial⟩ rfl rfl rfl rfl (fun _ => rfl) fun _ => ?_
      refine HQ.on rfl rfl hg9 ?_
      refine HQ.pu (Pu.fieldB fo132_3 rfl) ⟨rfl, trivial⟩ rfl rfl rfl ?_
      refine HQ.on rfl rfl hg9 ?_
      refine HQ.op [1] [1] (OT.loadB sc3 rfl) ⟨rfl, trivial⟩ ⟨rfl, trivial⟩ rfl rfl rfl rfl (fun _ => rfl) fun _ => ?_
      refine HQ.on rfl rfl hg9 ?_
      obtain ⟨t10, h11, H⟩ := bnd H
      refine HQ.op [] [] (OT.call (us := [_, _, _]) (Pre := []) [.tmp 15, .const (.int .i64 0), .tmp 17] Try.call83 rfl rfl fun w F hs hF hp => impl_in_c h11) ⟨rfl, rfl, rfl, rfl, trivial⟩ trivial rfl rfl rfl rfl (fun _ => rfl) fun _ => ?_
      obtain rfl := Option.some.inj H
      refine HQ.pu (Pu.pickC1 hg9) ⟨rfl, rfl, trivial⟩ rfl rfl rfl ?_
      exact HQ.mid ⟨rfl, rfl, rfl, trivial⟩ ⟨rfl, trivial⟩ rfl
    · obtain rfl := Option.some.inj H
      refine HQ.off rfl rfl hg9 rfl ?_
      refine HQ.off rfl rfl hg9 rfl ?_
      refine HQ.off rfl rfl hg9 rfl ?_
      refine HQ.off rfl rfl hg9 rfl ?_
      refine HQ.off rfl rfl hg9 rfl ?_
      refine HQ.pu (Pu.pickC0 hg9) ⟨rfl, rfl, trivial⟩ rfl rfl rfl ?_
      exact HQ.mid ⟨rfl, rfl, rfl, trivial⟩ ⟨rfl, trivial⟩ rfl
  refine HQ.pu Pu.move ⟨rfl, trivial⟩ rfl rfl rfl ?_
  obtain ⟨c17, h18, H⟩ := bnd H
  refine HQ.cutAt 4 [(24, .bool c17), (2, .bool false)] [(1, Box b1 [.int .i64 p0.X0, .int .i64 p0.Y0, .int .i64 p0.X1, .int .i64 p0.Y1])] ?_ ?_
  · clear H
    have H := h18
    rcases brk H with ⟨hg14, H⟩ | ⟨hg14, H⟩
    · refine HQ.on rfl rfl hg14 ?_
      refine HQ.pu (Pu.fieldB fo132_3 rfl) ⟨rfl, trivial⟩ rfl rfl rfl ?_
      refine HQ.on rfl rfl hg14 ?_
      refine HQ.op [1] [1] (OT.loadB sc3 rfl) ⟨rfl, trivial⟩ ⟨rfl, trivial⟩ rfl rfl rfl rfl (fun _ => rfl) fun _ => ?_
      refine HQ.on rfl rfl hg14 ?_
      obtain ⟨t15, h16, H⟩ := bnd H
      refine HQ.op [] [] (OT.call (us := [_, _, _]) (Pre := []) [.tmp 22, .const (.int .i64 0), .const (.int .i64 255)] Try.call83 rfl rfl fun w F hs hF hp => impl_in_c h16) ⟨rfl, rfl, rfl, rfl, trivial⟩ trivial rfl rfl rfl rfl (fun _ => rfl) fun _ => ?_
      obtain rfl := Option.some.inj H
      refine HQ.pu (Pu.pickC1 hg14) ⟨rfl, rfl, trivial⟩ rfl rfl rfl ?_
      exact HQ.mid ⟨rfl, rfl, trivial⟩ ⟨rfl, trivial⟩ rfl
    · obtain rfl := Option.some.inj H
      refine HQ.off rfl rfl hg14 rfl ?_
      refine HQ.off rfl rfl hg14 rfl ?_
      refine HQ.off rfl rfl hg14 rfl ?_
      refine HQ.pu (Pu.pickC0 hg14) ⟨rfl, rfl, trivial⟩ rfl rfl rfl ?_
      exact HQ.mid ⟨rfl, rfl, trivial⟩ ⟨rfl, trivial⟩ rfl
  refine HQ.pu Pu.assign ⟨rfl, trivial⟩ rfl rfl rfl ?_
  refine HQ.done ?_
  refine HQ.keep [(2, _)] ⟨rfl, trivial⟩ ?_
  refine HQ.ret ?_
  obtain rfl := Option.some.inj H
  exact HQ.fin (vs := [_]) Try.results109 () ⟨rfl, trivial⟩ rfl [] trivial rfl

/-! impl.EntryAt$1 -/
theorem impl_EntryAt_1_c {w : World} {p0 : TEntry} {q0 : Int} {β_q0 : Nat} {F0 : Fp} (hs0 : Sat [Box β_q0 [.int .i64 q0]] w.heap F0) (hF0 : ∀ b, F0 b → b < w.heap.size)  {r : Bool × Int} (H : impl_EntryAt_1 p0 q0 = some r) :
    Calls Try.prog 132 #[.agg #[.int .i64 p0.N, .int .i64 p0.R.X0, .int .i64 p0.R.Y0, .int .i64 p0.R.X1, .int .i64 p0.R.Y1], BP β_q0 0] w (Rt w F0 (fun _ : Unit => .bool r.1) (fun _ => [Box β_q0 [.int .i64 r.2]])) := by
  rw [impl_EntryAt_1] at H
  refine Calls.enter (N := 8) (us := [_, _]) (F0 := F0) (Γ0 := [(1, Box β_q0 [.int .i64 q0])]) Try.func132 rfl rfl rfl hs0 hF0 ?_
  refine HQ.rseq ?_
  refine HQ.op [] [2] (OT.box (cs := [.int .i64 p0.N, .int .i64 p0.R.X0, .int .i64 p0.R.Y0, .int .i64 p0.R.X1, .int .i64 p0.R.Y1]) rfl) ⟨rfl, trivial⟩ trivial rfl rfl rfl rfl (fun _ => rfl) fun b1 => ?_
  refine HQ.pu Pu.assign ⟨rfl, trivial⟩ rfl rfl rfl ?_
  refine HQ.done ?_
  refine HQ.keep [(1, _), (2, _), (3, _)] ⟨rfl, rfl, rfl, trivial⟩ ?_
  refine HQ.rseq ?_
  refine HQ.pu (Pu.fieldB fo134_0 rfl) ⟨rfl, trivial⟩ rfl rfl rfl ?_
  refine HQ.op [2] [2] (OT.loadB sc3 rfl) ⟨rfl, trivial⟩ ⟨rfl, trivial⟩ rfl rfl rfl rfl (fun _ => rfl) fun _ => ?_
  refine HQ.op [1] [1] (OT.loadB sc3 rfl) ⟨rfl, trivial⟩ ⟨rfl, trivial⟩ rfl rfl rfl rfl (fun _ => rfl) fun _ => ?_
  refine HQ.pu Pu.eql ⟨rfl, rfl, trivial⟩ rfl rfl rfl ?_
  refine HQ.pu Pu.assign ⟨rfl, trivial⟩ rfl rfl rfl ?_
  refine HQ.done ?_
  refine HQ.keep [(3, _)] ⟨rfl, trivial⟩ ?_
  refine HQ.ret ?_
  obtain rfl := Option.some.inj H
  exact HQ.fin (vs := [_]) Try.results132 () ⟨rfl, trivial⟩ rfl [1] ⟨rfl, trivial⟩ rfl

/-! slices.IndexFunc(()impl.Entry,impl.Entry) -/
theorem slices_IndexFunc_impl_Entry_impl_Entry_impl_EntryAt_1_c {w : World} {k : Nat} {p0 : (List TEntry)} {p1_0 : Int} {a_0 : Option Addr} {c_0 : Nat} {β_1_0 : Nat} {F0 : Fp} (hs0 : Sat [Box β_1_0 [.int .i64 p1_0]] w.heap F0) (hF0 : ∀ b, F0 b → b < w.heap.size) (hb_0 : BorS kTEntry a_0 c_0 p0 w.heap (Lt w F0)) {r : Int × Int} (H : slices_IndexFunc_impl_Entry_impl_Entry_impl_EntryAt_1 k p0 p1_0 = some r) :
    Calls Try.prog 131 #[.slice a_0 (List.length p0) c_0, .func (.func 132) #[] #[BP β_1_0 0]] w (Rt w F0 (fun _ : Unit => .int .i64 r.1) (fun _ => [Box β_1_0 [.int .i64 r.2]])) := by
  rw [slices_IndexFunc_impl_Entry_impl_Entry_impl_EntryAt_1] at H
  refine Calls.enter (N := 19) (us := [_, _]) (F0 := F0) (Γ0 := [(1, Box β_1_0 [.int .i64 p1_0])]) Try.func131 rfl rfl rfl hs0 hF0 ?_
  refine HQ.rseq ?_
  refine HQ.pu Pu.assign ⟨rfl, trivial⟩ rfl rfl rfl ?_
  refine HQ.done ?_
  refine HQ.keep [(0, _), (1, _), (4, _)] ⟨rfl, rfl, rfl, trivial⟩ ?_
  refine HQ.seq ?_
  refine HQ.rseq ?_
  refine HQ.pu Pu.move ⟨rfl, trivial⟩ rfl rfl rfl ?_
  refine HQ.pu (Pu.len ul45) ⟨rfl, trivial⟩ rfl rfl rfl ?_
  refine HQ.pu Pu.move ⟨rfl, trivial⟩ rfl rfl rfl ?_
  refine HQ.done ?_
  refine HQ.keep [(0, _), (1, _), (4, _), (7, _), (8, _)] ⟨rfl, rfl, rfl, rfl, rfl, trivial⟩ ?_
  refine HQ.block ?_
  obtain ⟨o12, h15, H⟩ := bnd H
  refine HQ.loop h15 0 (fun (s : Int × Int) (g : Unit) => match s, g with | (i4, i5), () => [(0, .slice a_0 (List.length p0) c_0), (1, .func (.func 132) #[] #[BP β_1_0 0]), (4, .int .i64 0), (7, .int .i64 ((List.length p0 : Nat) : Int)), (8, .int .i64 i4)]) (fun (s : Int × Int) (g : Unit) => match s, g with | (i4, i5), () => [(1, Box β_1_0 [.int .i64 i5])]) (fun r => bodyPost Try.prog Try.f131 (Rt w F0 (fun _ : Unit => .int .i64 r.1) (fun _ => [Box β_1_0 [.int .i64 r.2]])) .ret) () ⟨rfl, rfl, rfl, rfl, rfl, trivial⟩ ⟨rfl, trivial⟩ rfl ?_ ?_ ?_
  · clear H h15
    rintro ⟨i4, i5⟩ _ o H
    rw [slices_IndexFunc_impl_Entry_impl_Entry_impl_EntryAt_1_b0] at H
    refine HQ.keep [(0, _), (1, _), (4, _), (7, _), (8, _)] ⟨rfl, rfl, rfl, rfl, rfl, trivial⟩ ?_
    refine HQ.keepR [(1, _)] ⟨rfl, trivial⟩ rfl ?_
    refine HQ.rseq ?_
    refine HQ.pu Pu.lss ⟨rfl, rfl, trivial⟩ rfl rfl rfl ?_
    refine HQ.done ?_
    refine HQ.keep [(0, _), (1, _), (4, _), (7, _), (8, _), (9, _)] ⟨rfl, rfl, rfl, rfl, rfl, rfl, trivial⟩ ?_
    refine HQ.seq ?_
    rcases brk H with ⟨hc, H⟩ | ⟨hc, H⟩
    · refine HQ.condT rfl hc ?_
      clear hc
      refine HQ.skipThen ?_
      refine HQ.seq ?_
      refine HQ.block ?_
      refine HQ.rseq ?_
      refine HQ.pu Pu.move ⟨rfl, trivial⟩ rfl rfl rfl ?_
      refine HQ.pu Pu.assign ⟨rfl, trivial⟩ rfl rfl rfl ?_
      refine HQ.done ?_
      refine HQ.keep [(0, _), (1, _), (4, _), (7, _), (8, _), (5, _)] ⟨rfl, rfl, rfl, rfl, rfl, rfl, trivial⟩ ?_
      refine HQ.rseq ?_
      refine HQ.pu Pu.move ⟨rfl, trivial⟩ rfl rfl rfl ?_
      refine HQ.pu Pu.move ⟨rfl, trivial⟩ rfl rfl rfl ?_
      refine HQ.pu Pu.move ⟨rfl, trivial⟩ rfl rfl rfl ?_
      obtain ⟨h9, H⟩ := asr H
      refine HQ.op [] [] (OT.indexB ul45 sz134 hb_0 h9) ⟨rfl, rfl, trivial⟩ trivial rfl rfl rfl rfl (fun _ => rfl) fun _ => ?_
      refine HQ.op [] [] (OT.loadFA (vs := [.int .i64 ((gt p0 i4).N), .int .i64 ((gt p0 i4).R.X0), .int .i64 ((gt p0 i4).R.Y0), .int .i64 ((gt p0 i4).R.X1), .int .i64 ((gt p0 i4).R.Y1)]) ag134 sz134 hb_0 h9 rfl rfl) ⟨rfl, trivial⟩ trivial rfl rfl rfl rfl (fun _ => rfl) fun _ => ?_
      obtain ⟨t10, h11, H⟩ := bnd H
      refine HQ.op [1] [1] (OT.callV (us := [.agg #[.int .i64 ((gt p0 i4).N), .int .i64 ((gt p0 i4).R.X0), .int .i64 ((gt p0 i4).R.Y0), .int .i64 ((gt p0 i4).R.X1), .int .i64 ((gt p0 i4).R.Y1)]]) (cap := #[BP β_1_0 0]) (all := #[.agg #[.int .i64 ((gt p0 i4).N), .int .i64 ((gt p0 i4).R.X0), .int .i64 ((gt p0 i4).R.Y0), .int .i64 ((gt p0 i4).R.X1), .int .i64 ((gt p0 i4).R.Y1)], BP β_1_0 0]) (PreX := [Box β_1_0 [.int .i64 i5]]) (PreL := []) [.tmp 15] Try.call132 rfl rfl rfl fun w FX FL hs1 hF1 hs2 hF2 hp => impl_EntryAt_1_c (p0 := (gt p0 i4)) (q0 := i5) hs1 hF1 h11) ⟨rfl, rfl, trivial⟩ ⟨rfl, trivial⟩ rfl rfl rfl rfl (fun _ => rfl) fun _ => ?_
      refine HQ.done ?_
      refine HQ.keep [(0, _), (1, _), (4, _), (7, _), (8, _), (5, _), (16, _)] ⟨rfl, rfl, rfl, rfl, rfl, rfl, rfl, trivial⟩ ?_
      rcases brk H with ⟨hc, H⟩ | ⟨hc, H⟩
      · refine HQ.condT rfl hc ?_
        clear hc
        refine HQ.rseq ?_
        refine HQ.pu Pu.move ⟨rfl, trivial⟩ rfl rfl rfl ?_
        refine HQ.pu Pu.assign ⟨rfl, trivial⟩ rfl rfl rfl ?_
        refine HQ.done ?_
        refine HQ.keep [(0, _), (1, _), (4, _), (7, _), (8, _)] ⟨rfl, rfl, rfl, rfl, rfl, trivial⟩ ?_
        refine HQ.ret ?_
        refine HQ.blkR ?_
        refine HQ.thenR ?_
        obtain rfl := Option.some.inj H
        refine HQ.retL ?_
        exact HQ.fin (vs := [_]) Try.results131 () ⟨rfl, trivial⟩ rfl [1] ⟨rfl, trivial⟩ rfl
      · refine HQ.condF rfl hc ?_
        clear hc
        refine HQ.skip ?_
        refine HQ.blkN ?_
        refine HQ.thenN ?_
        refine HQ.regionQ ?_
        refine HQ.pu Pu.add ⟨rfl, rfl, trivial⟩ rfl rfl rfl ?_
        refine HQ.pu Pu.move ⟨rfl, trivial⟩ rfl rfl rfl ?_
        refine HQ.done ?_
        refine HQ.keep [(0, _), (1, _), (4, _), (7, _), (8, _)] ⟨rfl, rfl, rfl, rfl, rfl, trivial⟩ ?_
        obtain rfl := Option.some.inj H
        exact HQ.next () ⟨rfl, rfl, rfl, rfl, rfl, trivial⟩ ⟨rfl, trivial⟩ rfl
    · refine HQ.condF rfl hc ?_
      clear hc
      refine HQ.exit ?_
      refine HQ.thenE ?_
      obtain rfl := Option.some.inj H
      exact HQ.out () ⟨rfl, rfl, rfl, rfl, rfl, trivial⟩ ⟨rfl, trivial⟩ rfl
  · rintro ⟨i13, i14⟩ rfl _
    clear h15
    replace H := H
    refine HQ.keep [(0, _), (1, _), (4, _), (7, _), (8, _)] ⟨rfl, rfl, rfl, rfl, rfl, trivial⟩ ?_
    refine HQ.keepR [(1, _)] ⟨rfl, trivial⟩ rfl ?_
    refine HQ.blkE ?_
    refine HQ.thenN ?_
    refine HQ.rseq ?_
    refine HQ.pu Pu.assign ⟨rfl, trivial⟩ rfl rfl rfl ?_
    refine HQ.done ?_
    refine HQ.keep [(4, _)] ⟨rfl, trivial⟩ ?_
    refine HQ.ret ?_
    obtain rfl := Option.some.inj H
    exact HQ.fin (vs := [_]) Try.results131 () ⟨rfl, trivial⟩ rfl [1] ⟨rfl, trivial⟩ rfl
  · rintro r rfl a w hr
    obtain rfl := Option.some.inj H
    exact hr

/-! impl.EntryAt -/
theorem impl_EntryAt_c {w : World} {k : Nat} {p0 : (List TEntry)} {p1 : Int} {a_0 : Option Addr} {c_0 : Nat} (hb_0 : BorS kTEntry a_0 c_0 p0 w.heap (Lt w Nil)) {r : Int} (H : impl_EntryAt k p0 p1 = some r) :
    Calls Try.prog 110 #[.slice a_0 (List.length p0) c_0, .int .i64 p1] w (Rt w Nil (fun _ : Unit => .int .i64 r) (fun _ => [])) := by
  rw [impl_EntryAt] at H
  refine Calls.enter0 (N := 8) (us := [_, _]) Try.func110 rfl rfl rfl ?_
  refine HQ.rseq ?_
  refine HQ.op [] [1] (OT.box (cs := [.int .i64 p1]) rfl) ⟨rfl, trivial⟩ trivial rfl rfl rfl rfl (fun _ => rfl) fun b1 => ?_
  refine HQ.pu Pu.assign ⟨rfl, trivial⟩ rfl rfl rfl ?_
  refine HQ.done ?_
  refine HQ.keep [(0, _), (3, _), (4, _)] ⟨rfl, rfl, rfl, trivial⟩ ?_
  refine HQ.rseq ?_
  refine HQ.pu Pu.move ⟨rfl, trivial⟩ rfl rfl rfl ?_
  refine HQ.pu (Pu.makeFunc (us := [BP b1 0]) [.tmp 3] rfl rfl) ⟨rfl, trivial⟩ rfl rfl rfl ?_
  obtain ⟨t2, h3, H⟩ := bnd H
  refine HQ.op [1] [1] (OT.callM (us := [_, _]) (PreX := [Box b1 [.int .i64 p1]]) (PreL := []) [.tmp 5, .tmp 6] Try.call131 rfl rfl fun w FX FL hs1 hF1 hs2 hF2 hp => slices_IndexFunc_impl_Entry_impl_Entry_impl_EntryAt_1_c (p0 := p0) (p1_0 := p1) hs1 hF1 (hb_0.passY hp) h3) ⟨rfl, rfl, rfl, trivial⟩ ⟨rfl, trivial⟩ rfl rfl rfl rfl (fun _ => rfl) fun _ => ?_
  refine HQ.pu Pu.assign ⟨rfl, trivial⟩ rfl rfl rfl ?_
  refine HQ.done ?_
  refine HQ.keep [(4, _)] ⟨rfl, trivial⟩ ?_
  refine HQ.ret ?_
  obtain rfl := Option.some.inj H
  exact HQ.fin (vs := [_]) Try.results110 () ⟨rfl, trivial⟩ rfl [] trivial rfl

end Go.Proofs.Sx
