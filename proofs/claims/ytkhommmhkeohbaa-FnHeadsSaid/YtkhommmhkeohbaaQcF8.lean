import Derived.Test.YtkhommmhkeohbaaQcF7
import Derived.KernelRfl
namespace Go.Proofs.Sx
open Go.RowKit
set_option linter.unusedVariables false
set_option linter.unusedSimpArgs false
set_option maxRecDepth 20000
set_option maxHeartbeats 1000000
/-! spec.l18Draw -/
theorem spec_l18Draw_c {w : World} {k : Nat} {p0 : TCur} {β_0 : Nat} {a_0 : Option Addr} {c_0 : Nat} {F0 : Fp} (hs0 : Sat [Box β_0 [.slice a_0 (List.length p0.b) c_0, .int .i64 p0.i, .int .i64 p0.h]] w.heap F0) (hF0 : ∀ b, F0 b → b < w.heap.size) (hb_0 : BorS kU8 a_0 c_0 p0.b w.heap (Lt w F0)) {r : TDisk × TCur} (H : spec_l18Draw k p0 = some r) :
    Calls Try.prog 78 #[BP β_0 0] w (Rt w F0 (fun g : (Option Addr × Nat) × (Option Addr × Nat) => .agg #[.slice g.1.1 (List.length r.1.Cells) g.1.2, .slice g.2.1 (List.length r.1.Wet) g.2.2, .int .i64 r.1.Fuse, .bool r.1.Dead]) (fun g => [OwnS kTCell g.1.1 g.1.2 r.1.Cells, OwnS kTWet g.2.1 g.2.2 r.1.Wet, Box β_0 [.slice a_0 (List.length p0.b) c_0, .int .i64 r.2.i, .int .i64 r.2.h]])) := by
  rw [spec_l18Draw] at H
  refine Calls.enter (N := 31) (us := [_]) (F0 := F0) (Γ0 := [(1, Box β_0 [.slice a_0 (List.length p0.b) c_0, .int .i64 p0.i, .int .i64 p0.h])]) Try.func78 rfl rfl rfl hs0 hF0 ?_
  refine HQ.rseq ?_
  refine HQ.op [] [2] (OT.alloc zc27) trivial trivial rfl rfl rfl rfl (fun _ => rfl) fun b1 => ?_
  refine HQ.done ?_
  refine HQ.keep [(0, _), (2, _)] ⟨rfl, rfl, trivial⟩ ?_
  refine HQ.rseq ?_
  obtain ⟨t2, h3, H⟩ := bnd H
  refine HQ.op [] [3, 4] (OT.call (us := []) (Pre := []) [] Try.call115 rfl rfl fun w F hs hF hp => spec_DiskNew_c h3) ⟨rfl, trivial⟩ trivial rfl rfl rfl rfl (fun _ => rfl) fun ⟨⟨a4, c5⟩, ⟨a6, c7⟩⟩ => ?_
  refine HQ.op [] [5] (OT.alloc zc27) trivial trivial rfl rfl rfl rfl (fun _ => rfl) fun b8 => ?_
  refine HQ.opN [5] [5] [] (OT.storeC (cs' := [.slice a4 (List.length t2.Cells) c5, .slice a6 (List.length t2.Wet) c7, .int .i64 t2.Fuse, .bool t2.Dead]) sz27 rfl rfl rfl rfl rfl) ⟨rfl, rfl, trivial⟩ ⟨rfl, trivial⟩ rfl rfl rfl (fun _ => rfl) fun _ => ?_
  refine HQ.done ?_
  refine HQ.keep [(0, _), (2, _), (3, _)] ⟨rfl, rfl, rfl, trivial⟩ ?_
  refine HQ.seq ?_
  refine HQ.rseq ?_
  refine HQ.pu Pu.move ⟨rfl, trivial⟩ rfl rfl rfl ?_
  obtain ⟨t9, h10, H⟩ := bnd H
  refine HQ.op [1] [1] (OT.callM (us := [_, _]) (PreX := [Box β_0 [.slice a_0 (List.length p0.b) c_0, .int .i64 p0.i, .int .i64 p0.h]]) (PreL := []) [.tmp 6, .const (.int .i64 3)] Try.call87 rfl rfl fun w FX FL hs1 hF1 hs2 hF2 hp => spec_l1Once_c (p0 := p0) (p1 := 3) hs1 hF1 (hb_0.passY hp) h10) ⟨rfl, rfl, rfl, trivial⟩ ⟨rfl, trivial⟩ rfl rfl rfl rfl (fun _ => rfl) fun _ => ?_
  refine HQ.done ?_
  refine HQ.keep [(0, _), (2, _), (3, _), (7, _)] ⟨rfl, rfl, rfl, rfl, trivial⟩ ?_
  rcases brk H with ⟨hc, H⟩ | ⟨hc, H⟩
  · refine HQ.condT rfl hc ?_
    clear hc
    refine HQ.region ?_
    refine HQ.pu Pu.move ⟨rfl, trivial⟩ rfl rfl rfl ?_
    obtain ⟨t11, h12, H⟩ := bnd H
    refine HQ.op [1] [1] (OT.callM (us := [_, _]) (PreX := [Box β_0 [.slice a_0 (List.length p0.b) c_0, .int .i64 t9.2.i, .int .i64 t9.2.h]]) (PreL := []) [.tmp 8, .const (.int .i64 12)] Try.call86 rfl rfl fun w FX FL hs1 hF1 hs2 hF2 hp => spec_l1Below_c (p0 := (⟨p0.b, t9.2.i, t9.2.h⟩ : TCur)) (p1 := 12) hs1 hF1 (hb_0.passY hp) h12) ⟨rfl, rfl, rfl, trivial⟩ ⟨rfl, trivial⟩ rfl rfl rfl rfl (fun _ => rfl) fun _ => ?_
    refine HQ.pu (Pu.fieldB fo27_2 rfl) ⟨rfl, trivial⟩ rfl rfl rfl ?_
    refine HQ.opN [5] [5] [] (OT.storeC (cs' := [.slice a4 (List.length t2.Cells) c5, .slice a6 (List.length t2.Wet) c7, .int .i64 t11.1, .bool t2.Dead]) sz3 rfl rfl rfl rfl rfl) ⟨rfl, rfl, trivial⟩ ⟨rfl, trivial⟩ rfl rfl rfl (fun _ => rfl) fun _ => ?_
    refine HQ.done ?_
    refine HQ.keep [(0, _), (2, _), (3, _)] ⟨rfl, rfl, rfl, trivial⟩ ?_
    refine HQ.seq ?_
    refine HQ.rseq ?_
    refine HQ.pu Pu.move ⟨rfl, trivial⟩ rfl rfl rfl ?_
    obtain ⟨t13, h14, H⟩ := bnd H
    refine HQ.op [1] [1] (OT.callM (us := [_, _]) (PreX := [Box β_0 [.slice a_0 (List.length p0.b) c_0, .int .i64 t11.2.i, .int .i64 t11.2.h]]) (PreL := []) [.tmp 11, .const (.int .i64 16)] Try.call86 rfl rfl fun w FX FL hs1 hF1 hs2 hF2 hp => spec_l1Below_c (p0 := (⟨p0.b, t11.2.i, t11.2.h⟩ : TCur)) (p1 := 16) hs1 hF1 (hb_0.passY hp) h14) ⟨rfl, rfl, rfl, trivial⟩ ⟨rfl, trivial⟩ rfl rfl rfl rfl (fun _ => rfl) fun _ => ?_
    refine HQ.pu Pu.assign ⟨rfl, trivial⟩ rfl rfl rfl ?_
    refine HQ.done ?_
    refine HQ.keep [(0, _), (2, _), (3, _), (4, _)] ⟨rfl, rfl, rfl, rfl, trivial⟩ ?_
    refine HQ.block ?_
    obtain ⟨o101, h113, H⟩ := bnd H
    refine HQ.loop h113 0 (fun (s : Int × Int × Int × (List TCell) × (List TWet) × Int × Bool) (g : (Option Addr × Nat) × (Option Addr × Nat)) => match s, g with | (i40, i41, i42, l43, l46, i49, q50), ((a44, c45), (a47, c48)) => [(0, BP β_0 0), (2, BP b1 0), (3, BP b8 0), (4, .int .i64 i40)]) (fun (s : Int × Int × Int × (List TCell) × (List TWet) × Int × Bool) (g : (Option Addr × Nat) × (Option Addr × Nat)) => match s, g with | (i40, i41, i42, l43, l46, i49, q50), ((a44, c45), (a47, c48)) => [(1, Box β_0 [.slice a_0 (List.length p0.b) c_0, .int .i64 i41, .int .i64 i42]), (2, Box b1 [.slice none 0 0, .slice none 0 0, .int .i64 0, .bool false]), (5, Box b8 [.slice a44 (List.length l43) c45, .slice a47 (List.length l46) c48, .int .i64 i49, .bool q50]), (3, OwnS kTCell a44 c45 l43), (4, OwnS kTWet a47 c48 l46)]) (fun _ _ _ => False) ((a4, c5), (a6, c7)) ⟨rfl, rfl, rfl, rfl, trivial⟩ ⟨rfl, rfl, rfl, rfl, rfl, trivial⟩ rfl ?_ ?_ ?_
    · clear H h113
      rintro ⟨i40, i41, i42, l43, l46, i49, q50⟩ ⟨⟨a44, c45⟩, ⟨a47, c48⟩⟩ o H
      rw [spec_l18Draw_b0] at H
      refine HQ.keep [(0, _), (2, _), (3, _), (4, _)] ⟨rfl, rfl, rfl, rfl, trivial⟩ ?_
      refine HQ.keepR [(1, _), (2, _), (5, _), (3, _), (4, _)] ⟨rfl, rfl, rfl, rfl, rfl, trivial⟩ rfl ?_
      refine HQ.seq ?_
      refine HQ.rseq ?_
      refine HQ.pu Pu.move ⟨rfl, trivial⟩ rfl rfl rfl ?_
      refine HQ.pu Pu.gtr ⟨rfl, rfl, trivial⟩ rfl rfl rfl ?_
      refine HQ.done ?_
      refine HQ.keep [(0, _), (2, _), (3, _), (4, _), (14, _)] ⟨rfl, rfl, rfl, rfl, rfl, trivial⟩ ?_
      rcases brk H with ⟨hc, H⟩ | ⟨hc, H⟩
      · refine HQ.condT rfl hc ?_
        clear hc
        refine HQ.skipThen ?_
        refine HQ.seq ?_
        refine HQ.block ?_
        refine HQ.rseq ?_
        refine HQ.pu Pu.move ⟨rfl, trivial⟩ rfl rfl rfl ?_
        obtain ⟨t76, h77, H⟩ := bnd H
        refine HQ.op [1] [1] (OT.callM (us := [_, _]) (PreX := [Box β_0 [.slice a_0 (List.length p0.b) c_0, .int .i64 i41, .int .i64 i42]]) (PreL := []) [.tmp 17, .const (.int .i64 4)] Try.call87 rfl rfl fun w FX FL hs1 hF1 hs2 hF2 hp => spec_l1Once_c (p0 := (⟨p0.b, i41, i42⟩ : TCur)) (p1 := 4) hs1 hF1 (hb_0.passY hp) h77) ⟨rfl, rfl, rfl, trivial⟩ ⟨rfl, trivial⟩ rfl rfl rfl rfl (fun _ => rfl) fun _ => ?_
        refine HQ.done ?_
        refine HQ.keep [(0, _), (2, _), (3, _), (4, _), (18, _)] ⟨rfl, rfl, rfl, rfl, rfl, trivial⟩ ?_
        rcases brk H with ⟨hc, H⟩ | ⟨hc, H⟩
        · refine HQ.condT rfl hc ?_
          clear hc
          refine HQ.regionQ ?_
          refine HQ.op [5] [5] (OT.loadBA (vs := [.slice a44 (List.length l43) c45, .slice a47 (List.length l46) c48, .int .i64 i49, .bool q50]) ag27 sz27 rfl rfl) ⟨rfl, trivial⟩ ⟨rfl, trivial⟩ rfl rfl rfl rfl (fun _ => rfl) fun _ => ?_
          obtain ⟨t78, h79, H⟩ := bnd H
          refine HQ.op [3, 4] [18, 19, 3, 4] (OT.call (us := [_]) (Pre := [OwnS kTCell a44 c45 l43, OwnS kTWet a47 c48 l46]) [.tmp 19] Try.call21 rfl rfl fun w F hs hF hp => spec_Flush_c (hs.lend hF 0 rfl) (hs.lend hF 1 rfl) h79) ⟨rfl, rfl, trivial⟩ ⟨rfl, rfl, trivial⟩ rfl rfl rfl rfl (fun _ => rfl) fun ⟨⟨a80, c81⟩, ⟨a82, c83⟩⟩ => ?_
          refine HQ.opN [5] [5] [] (OT.storeC (cs' := [.slice a80 (List.length t78.Cells) c81, .slice a82 (List.length t78.Wet) c83, .int .i64 t78.Fuse, .bool t78.Dead]) sz27 rfl rfl rfl rfl rfl) ⟨rfl, rfl, trivial⟩ ⟨rfl, trivial⟩ rfl rfl rfl (fun _ => rfl) fun _ => ?_
          refine HQ.done ?_
          refine HQ.keep [(0, _), (2, _), (3, _), (4, _)] ⟨rfl, rfl, rfl, rfl, trivial⟩ ?_
          refine HQ.blkN ?_
          refine HQ.thenN ?_
          refine HQ.regionQ ?_
          refine HQ.pu Pu.move ⟨rfl, trivial⟩ rfl rfl rfl ?_
          refine HQ.pu Pu.sub ⟨rfl, rfl, trivial⟩ rfl rfl rfl ?_
          refine HQ.pu Pu.assign ⟨rfl, trivial⟩ rfl rfl rfl ?_
          refine HQ.done ?_
          refine HQ.keep [(0, _), (2, _), (3, _), (4, _)] ⟨rfl, rfl, rfl, rfl, trivial⟩ ?_
          refine HQ.mv 3 18 rfl rfl ?_
          refine HQ.mv 4 19 rfl rfl ?_
          obtain rfl := Option.some.inj H
          exact HQ.next ((a80, c81), (a82, c83)) ⟨rfl, rfl, rfl, rfl, trivial⟩ ⟨rfl, rfl, rfl, rfl, rfl, trivial⟩ rfl
        · refine HQ.condF rfl hc ?_
          clear hc
          obtain ⟨t85, h86, H⟩ := bnd H
          obtain ⟨t89, h90, H⟩ := bnd H
          obtain ⟨t91, h92, H⟩ := bnd H
          refine HQ.draw mixd [(0, BP β_0 0), (2, BP b1 0), (3, BP b8 0), (4, .int .i64 i40)] 8 [⟨[0], [0], []⟩, ⟨[], [], []⟩, ⟨[1], [2], [1]⟩, ⟨[], [], []⟩, ⟨[], [], []⟩, ⟨[], [3], []⟩, ⟨[2, 3], [4, 3], [4, 5]⟩, ⟨[4], [5, 6], [3, 6]⟩] [⟨none, none⟩, ⟨none, some 2⟩, ⟨some 2, some 6⟩, ⟨some 5, none⟩, ⟨some 6, some 7⟩, ⟨some 7, none⟩, ⟨some 7, none⟩] (fun (g84 : (Option Addr × Nat) × (Option Addr × Nat)) => [.agg #[.slice a44 (List.length l43) c45, .slice a47 (List.length l46) c48, .int .i64 i49, .bool q50], BP β_0 0, .int .i64 t85.1, BP β_0 0, BP β_0 0, .slice g84.1.1 (List.length ([0, 3, 32, 32] : (List Int))) g84.1.2, .int .i64 t89.1, .slice g84.2.1 (List.length t91.1) g84.2.2]) (fun (g84 : (Option Addr × Nat) × (Option Addr × Nat)) => [Box b8 [.slice a44 (List.length l43) c45, .slice a47 (List.length l46) c48, .int .i64 i49, .bool q50], Box β_0 [.slice a_0 (List.length p0.b) c_0, .int .i64 t76.2.i, .int .i64 t76.2.h], Box β_0 [.slice a_0 (List.length p0.b) c_0, .int .i64 t85.2.i, .int .i64 t85.2.h], OwnS kI g84.1.1 g84.1.2 ([0, 3, 32, 32] : (List Int)), Box β_0 [.slice a_0 (List.length p0.b) c_0, .int .i64 t89.2.i, .int .i64 t89.2.h], OwnS kU8 g84.2.1 g84.2.2 t91.1, Box β_0 [.slice a_0 (List.length p0.b) c_0, .int .i64 t91.2.i, .int .i64 t91.2.h]]) ((none, 0), (none, 0)) [5, 1] [5, 20, 21, 1] [] ⟨rfl, rfl, rfl, rfl, trivial⟩ ⟨rfl, rfl, trivial⟩ rfl (by kernel_rfl) (fun _ => rfl) (by kernel_rfl) (fun _ => rfl) ⟨?_, ?_, ?_, ?_, ?_, ?_, ?_, ?_, trivial⟩ fun g84 => ?_
          · exact OpOK.of (fun g84 => [(.tmp 3, BP b8 0)]) _ _ (fun g84 _ => g84) rfl rfl (fun _ => ⟨rfl, trivial⟩) (fun g84 => OT.loadBA (vs := [.slice a44 (List.length l43) c45, .slice a47 (List.length l46) c48, .int .i64 i49, .bool q50]) ag27 sz27 rfl rfl) (fun _ _ => ⟨rfl, rfl, ⟨rfl, rfl, rfl, rfl, rfl, rfl, rfl, trivial⟩⟩)
          · exact OpOK.of (fun g84 => [(.tmp 0, BP β_0 0)]) _ _ (fun g84 _ => g84) rfl rfl (fun _ => ⟨rfl, trivial⟩) (fun g84 => Pu.toOT Pu.move) (fun _ _ => ⟨rfl, rfl, ⟨rfl, rfl, rfl, rfl, rfl, rfl, rfl, trivial⟩⟩)
          · exact OpOK.of (fun g84 => [(.func 86, .func (.func 86) #[] #[]), (.tmp 22, BP β_0 0), (.const (.int .i64 8), .int .i64 8)]) _ _ (fun g84 _ => g84) rfl rfl (fun _ => ⟨rfl, rfl, rfl, trivial⟩) (fun g84 => OT.callM (us := [_, _]) (PreX := [Box β_0 [.slice a_0 (List.length p0.b) c_0, .int .i64 t76.2.i, .int .i64 t76.2.h]]) (PreL := []) [.tmp 22, .const (.int .i64 8)] Try.call86 rfl rfl fun w FX FL hs1 hF1 hs2 hF2 hp => spec_l1Below_c (p0 := (⟨p0.b, t76.2.i, t76.2.h⟩ : TCur)) (p1 := 8) hs1 hF1 (hb_0.passY hp) h86) (fun _ _ => ⟨rfl, rfl, ⟨rfl, rfl, rfl, rfl, rfl, rfl, rfl, trivial⟩⟩)
          · exact OpOK.of (fun g84 => [(.tmp 0, BP β_0 0)]) _ _ (fun g84 _ => g84) rfl rfl (fun _ => ⟨rfl, trivial⟩) (fun g84 => Pu.toOT Pu.move) (fun _ _ => ⟨rfl, rfl, ⟨rfl, rfl, rfl, rfl, rfl, rfl, rfl, trivial⟩⟩)
          · exact OpOK.of (fun g84 => [(.tmp 0, BP β_0 0)]) _ _ (fun g84 _ => g84) rfl rfl (fun _ => ⟨rfl, trivial⟩) (fun g84 => Pu.toOT Pu.move) (fun _ _ => ⟨rfl, rfl, ⟨rfl, rfl, rfl, rfl, rfl, rfl, rfl, trivial⟩⟩)
          · exact OpOK.of (fun g84 => [(.const (.int .i64 0), .int .i64 0), (.const (.int .i64 3), .int .i64 3), (.const (.int .i64 32), .int .i64 32), (.const (.int .i64 32), .int .i64 32)]) _ _ (fun g84 x => (x, g84.2)) rfl rfl (fun _ => ⟨rfl, rfl, rfl, rfl, trivial⟩) (fun g84 => OT.buildF (us := [.int .i64 0, .int .i64 3, .int .i64 32, .int .i64 32]) (ys := ([0, 3, 32, 32] : (List Int))) (enc := (encI .i64)) (hl := fun _ => ⟨rfl, rfl⟩) [.const (.int .i64 0), .const (.int .i64 3), .const (.int .i64 32), .const (.int .i64 32)] sl33.ul sl33.szE sl33.zc rfl rfl rfl rfl rfl) (fun _ _ => ⟨rfl, rfl, ⟨rfl, rfl, rfl, rfl, rfl, rfl, rfl, trivial⟩⟩)
          · exact OpOK.of (fun g84 => [(.func 79, .func (.func 79) #[] #[]), (.tmp 25, BP β_0 0), (.tmp 26, .slice g84.1.1 (List.length ([0, 3, 32, 32] : (List Int))) g84.1.2)]) _ _ (fun g84 _ => g84) rfl rfl (fun _ => ⟨rfl, rfl, rfl, trivial⟩) (fun g84 => OT.callM (us := [_, _]) (PreX := [Box β_0 [.slice a_0 (List.length p0.b) c_0, .int .i64 t85.2.i, .int .i64 t85.2.h]]) (PreL := [OwnS kI g84.1.1 g84.1.2 ([0, 3, 32, 32] : (List Int))]) [.tmp 25, .tmp 26] Try.call79 rfl rfl fun w FX FL hs1 hF1 hs2 hF2 hp => spec_l1Int_c (p0 := (⟨p0.b, t85.2.i, t85.2.h⟩ : TCur)) (p1 := ([0, 3, 32, 32] : (List Int))) hs1 hF1 (hb_0.passY hp) (hs2.lendY hF2 0 rfl) h90) (fun _ _ => ⟨rfl, rfl, ⟨rfl, rfl, rfl, rfl, rfl, rfl, rfl, trivial⟩⟩)
          · exact OpOK.of (fun g84 => [(.func 80, .func (.func 80) #[] #[]), (.tmp 24, BP β_0 0), (.tmp 27, .int .i64 t89.1)]) _ _ (fun g84 x => (g84.1, x)) rfl rfl (fun _ => ⟨rfl, rfl, rfl, trivial⟩) (fun g84 => OT.callM (us := [_, _]) (PreX := [Box β_0 [.slice a_0 (List.length p0.b) c_0, .int .i64 t89.2.i, .int .i64 t89.2.h]]) (PreL := []) [.tmp 24, .tmp 27] Try.call80 rfl rfl fun w FX FL hs1 hF1 hs2 hF2 hp => spec_l1Bytes_c (p0 := (⟨p0.b, t89.2.i, t89.2.h⟩ : TCur)) (p1 := t89.1) hs1 hF1 (hb_0.passY hp) h92) (fun _ _ => ⟨rfl, rfl, ⟨rfl, rfl, rfl, rfl, rfl, rfl, rfl, trivial⟩⟩)
          refine HQ.keep [(0, _), (2, _), (3, _), (4, _), (21, _), (23, _), (28, _)] ⟨rfl, rfl, rfl, rfl, rfl, rfl, rfl, trivial⟩ ?_
          refine HQ.keepR [(1, _), (2, _), (5, _), (3, _), (4, _), (20, _), (21, _)] ⟨rfl, rfl, rfl, rfl, rfl, rfl, rfl, trivial⟩ rfl ?_
          obtain ⟨t95, h96, H⟩ := bnd H
          refine HQ.op [3, 4, 21] [22, 23, 3, 4, 21] (OT.call (us := [_, _, _]) (Pre := [OwnS kTCell a44 c45 l43, OwnS kTWet a47 c48 l46, OwnS kU8 g84.2.1 g84.2.2 t91.1]) [.tmp 21, .tmp 23, .tmp 28] Try.call20 rfl rfl fun w F hs hF hp => spec_Write_c (hs.lend hF 0 rfl) (hs.lend hF 1 rfl) (hs.lend hF 2 rfl) h96) ⟨rfl, rfl, rfl, rfl, trivial⟩ ⟨rfl, rfl, rfl, trivial⟩ rfl rfl rfl rfl (fun _ => rfl) fun ⟨⟨a97, c98⟩, ⟨a99, c100⟩⟩ => ?_
          refine HQ.opN [5] [5] [] (OT.storeC (cs' := [.slice a97 (List.length t95.Cells) c98, .slice a99 (List.length t95.Wet) c100, .int .i64 t95.Fuse, .bool t95.Dead]) sz27 rfl rfl rfl rfl rfl) ⟨rfl, rfl, trivial⟩ ⟨rfl, trivial⟩ rfl rfl rfl (fun _ => rfl) fun _ => ?_
          refine HQ.done ?_
          refine HQ.keep [(0, _), (2, _), (3, _), (4, _)] ⟨rfl, rfl, rfl, rfl, trivial⟩ ?_
          refine HQ.blkN ?_
          refine HQ.thenN ?_
          refine HQ.regionQ ?_
          refine HQ.pu Pu.move ⟨rfl, trivial⟩ rfl rfl rfl ?_
          refine HQ.pu Pu.sub ⟨rfl, rfl, trivial⟩ rfl rfl rfl ?_
          refine HQ.pu Pu.assign ⟨rfl, trivial⟩ rfl rfl rfl ?_
          refine HQ.done ?_
          refine HQ.keep [(0, _), (2, _), (3, _), (4, _)] ⟨rfl, rfl, rfl, rfl, trivial⟩ ?_
          refine HQ.mv 3 22 rfl rfl ?_
          refine HQ.mv 4 23 rfl rfl ?_
          obtain rfl := Option.some.inj H
          exact HQ.next ((a97, c98), (a99, c100)) ⟨rfl, rfl, rfl, rfl, trivial⟩ ⟨rfl, rfl, rfl, rfl, rfl, trivial⟩ rfl
      · refine HQ.condF rfl hc ?_
        clear hc
        refine HQ.exit ?_
        refine HQ.thenE ?_
        obtain rfl := Option.some.inj H
        exact HQ.out ((a44, c45), (a47, c48)) ⟨rfl, rfl, rfl, rfl, trivial⟩ ⟨rfl, rfl, rfl, rfl, rfl, trivial⟩ rfl
    · rintro ⟨i102, i103, i104, l105, l108, i111, q112⟩ rfl ⟨⟨a106, c107⟩, ⟨a109, c110⟩⟩
      clear h113
      replace H := H
      refine HQ.keep [(0, _), (2, _), (3, _), (4, _)] ⟨rfl, rfl, rfl, rfl, trivial⟩ ?_
      refine HQ.keepR [(1, _), (2, _), (5, _), (3, _), (4, _)] ⟨rfl, rfl, rfl, rfl, rfl, trivial⟩ rfl ?_
      refine HQ.blkE ?_
      refine HQ.thenN ?_
      refine HQ.rseq ?_
      refine HQ.op [5] [5] (OT.loadBA (vs := [.slice a106 (List.length l105) c107, .slice a109 (List.length l108) c110, .int .i64 i111, .bool q112]) ag27 sz27 rfl rfl) ⟨rfl, trivial⟩ ⟨rfl, trivial⟩ rfl rfl rfl rfl (fun _ => rfl) fun _ => ?_
      refine HQ.opN [2] [2] [] (OT.storeC (cs' := [.slice a106 (List.length l105) c107, .slice a109 (List.length l108) c110, .int .i64 i111, .bool q112]) sz27 rfl rfl rfl rfl rfl) ⟨rfl, rfl, trivial⟩ ⟨rfl, trivial⟩ rfl rfl rfl (fun _ => rfl) fun _ => ?_
      refine HQ.done ?_
      refine HQ.keep [(2, _)] ⟨rfl, trivial⟩ ?_
      refine HQ.ret ?_
      obtain rfl := Option.some.inj H
      exact HQ.fin (vs := [_]) Try.results78 ((a106, c107), (a109, c110)) ⟨⟨_, _, 2, rfl, rfl, ag27, sz27, rfl⟩, trivial⟩ rfl [3, 4, 1] ⟨rfl, rfl, rfl, trivial⟩ rfl
    · exact fun r h a w hf => hf.elim
  · refine HQ.condF rfl hc ?_
    clear hc
    refine HQ.skipThen ?_
    refine HQ.seq ?_
    refine HQ.rseq ?_
    refine HQ.pu Pu.move ⟨rfl, trivial⟩ rfl rfl rfl ?_
    obtain ⟨t114, h115, H⟩ := bnd H
    refine HQ.op [1] [1] (OT.callM (us := [_, _]) (PreX := [Box β_0 [.slice a_0 (List.length p0.b) c_0, .int .i64 t9.2.i, .int .i64 t9.2.h]]) (PreL := []) [.tmp 11, .const (.int .i64 16)] Try.call86 rfl rfl fun w FX FL hs1 hF1 hs2 hF2 hp => spec_l1Below_c (p0 := (⟨p0.b, t9.2.i, t9.2.h⟩ : TCur)) (p1 := 16) hs1 hF1 (hb_0.passY hp) h115) ⟨rfl, rfl, rfl, trivial⟩ ⟨rfl, trivial⟩ rfl rfl rfl rfl (fun _ => rfl) fun _ => ?_
    refine HQ.pu Pu.assign ⟨rfl, trivial⟩ rfl rfl rfl ?_
    refine HQ.done ?_
    refine HQ.keep [(0, _), (2, _), (3, _), (4, _)] ⟨rfl, rfl, rfl, rfl, trivial⟩ ?_
    refine HQ.block ?_
    obtain ⟨o202, h214, H⟩ := bnd H
    refine HQ.loop h214 0 (fun (s : Int × Int × Int × (List TCell) × (List TWet) × Int × Bool) (g : (Option Addr × Nat) × (Option Addr × Nat)) => match s, g with | (i141, i142, i143, l144, l147, i150, q151), ((a145, c146), (a148, c149)) => [(0, BP β_0 0), (2, BP b1 0), (3, BP b8 0), (4, .int .i64 i141)]) (fun (s : Int × Int × Int × (List TCell) × (List TWet) × Int × Bool) (g : (Option Addr × Nat) × (Option Addr × Nat)) => match s, g with | (i141, i142, i143, l144, l147, i150, q151), ((a145, c146), (a148, c149)) => [(1, Box β_0 [.slice a_0 (List.length p0.b) c_0, .int .i64 i142, .int .i64 i143]), (2, Box b1 [.slice none 0 0, .slice none 0 0, .int .i64 0, .bool false]), (5, Box b8 [.slice a145 (List.length l144) c146, .slice a148 (List.length l147) c149, .int .i64 i150, .bool q151]), (3, OwnS kTCell a145 c146 l144), (4, OwnS kTWet a148 c149 l147)]) (fun _ _ _ => False) ((a4, c5), (a6, c7)) ⟨rfl, rfl, rfl, rfl, trivial⟩ ⟨rfl, rfl, rfl, rfl, rfl, trivial⟩ rfl ?_ ?_ ?_
    · clear H h214
      rintro ⟨i141, i142, i143, l144, l147, i150, q151⟩ ⟨⟨a145, c146⟩, ⟨a148, c149⟩⟩ o H
      rw [spec_l18Draw_b1] at H
      refine HQ.keep [(0, _), (2, _), (3, _), (4, _)] ⟨rfl, rfl, rfl, rfl, trivial⟩ ?_
      refine HQ.keepR [(1, _), (2, _), (5, _), (3, _), (4, _)] ⟨rfl, rfl, rfl, rfl, rfl, trivial⟩ rfl ?_
      refine HQ.seq ?_
      refine HQ.rseq ?_
      refine HQ.pu Pu.move ⟨rfl, trivial⟩ rfl rfl rfl ?_
      refine HQ.pu Pu.gtr ⟨rfl, rfl, trivial⟩ rfl rfl rfl ?_
      refine HQ.done ?_
      refine HQ.keep [(0, _), (2, _), (3, _), (4, _), (14, _)] ⟨rfl, rfl, rfl, rfl, rfl, trivial⟩ ?_
      rcases brk H with ⟨hc, H⟩ | ⟨hc, H⟩
      · refine HQ.condT rfl hc ?_
        clear hc
        refine HQ.skipThen ?_
        refine HQ.seq ?_
        refine HQ.block ?_
        refine HQ.rseq ?_
        refine HQ.pu Pu.move ⟨rfl, trivial⟩ rfl rfl rfl ?_
        obtain ⟨t177, h178, H⟩ := bnd H
        refine HQ.op [1] [1] (OT.callM (us := [_, _]) (PreX := [Box β_0 [.slice a_0 (List.length p0.b) c_0, .int .i64 i142, .int .i64 i143]]) (PreL := []) [.tmp 17, .const (.int .i64 4)] Try.call87 rfl rfl fun w FX FL hs1 hF1 hs2 hF2 hp => spec_l1Once_c (p0 := (⟨p0.b, i142, i143⟩ : TCur)) (p1 := 4) hs1 hF1 (hb_0.passY hp) h178) ⟨rfl, rfl, rfl, trivial⟩ ⟨rfl, trivial⟩ rfl rfl rfl rfl (fun _ => rfl) fun _ => ?_
        refine HQ.done ?_
        refine HQ.keep [(0, _), (2, _), (3, _), (4, _), (18, _)] ⟨rfl, rfl, rfl, rfl, rfl, trivial⟩ ?_
        rcases brk H with ⟨hc, H⟩ | ⟨hc, H⟩
        · refine HQ.condT rfl hc ?_
          clear hc
          refine HQ.regionQ ?_
          refine HQ.op [5] [5] (OT.loadBA (vs := [.slice a145 (List.length l144) c146, .slice a148 (List.length l147) c149, .int .i64 i150, .bool q151]) ag27 sz27 rfl rfl) ⟨rfl, trivial⟩ ⟨rfl, trivial⟩ rfl rfl rfl rfl (fun _ => rfl) fun _ => ?_
          obtain ⟨t179, h180, H⟩ := bnd H
          refine HQ.op [3, 4] [36, 37, 3, 4] (OT.call (us := [_]) (Pre := [OwnS kTCell a145 c146 l144, OwnS kTWet a148 c149 l147]) [.tmp 19] Try.call21 rfl rfl fun w F hs hF hp => spec_Flush_c (hs.lend hF 0 rfl) (hs.lend hF 1 rfl) h180) ⟨rfl, rfl, trivial⟩ ⟨rfl, rfl, trivial⟩ rfl rfl rfl rfl (fun _ => rfl) fun ⟨⟨a181, c182⟩, ⟨a183, c184⟩⟩ => ?_
          refine HQ.opN [5] [5] [] (OT.storeC (cs' := [.slice a181 (List.length t179.Cells) c182, .slice a183 (List.length t179.Wet) c184, .int .i64 t179.Fuse, .bool t179.Dead]) sz27 rfl rfl rfl rfl rfl) ⟨rfl, rfl, trivial⟩ ⟨rfl, trivial⟩ rfl rfl rfl (fun _ => rfl) fun _ => ?_
          refine HQ.done ?_
          refine HQ.keep [(0, _), (2, _), (3, _), (4, _)] ⟨rfl, rfl, rfl, rfl, trivial⟩ ?_
          refine HQ.blkN ?_
          refine HQ.thenN ?_
          refine HQ.regionQ ?_
          refine HQ.pu Pu.move ⟨rfl, trivial⟩ rfl rfl rfl ?_
          refine HQ.pu Pu.sub ⟨rfl, rfl, trivial⟩ rfl rfl rfl ?_
          refine HQ.pu Pu.assign ⟨rfl, trivial⟩ rfl rfl rfl ?_
          refine HQ.done ?_
          refine HQ.keep [(0, _), (2, _), (3, _), (4, _)] ⟨rfl, rfl, rfl, rfl, trivial⟩ ?_
          refine HQ.mv 3 36 rfl rfl ?_
          refine HQ.mv 4 37 rfl rfl ?_
          obtain rfl := Option.some.inj H
          exact HQ.next ((a181, c182), (a183, c184)) ⟨rfl, rfl, rfl, rfl, trivial⟩ ⟨rfl, rfl, rfl, rfl, rfl, trivial⟩ rfl
        · refine HQ.condF rfl hc ?_
          clear hc
          obtain ⟨t186, h187, H⟩ := bnd H
          obtain ⟨t190, h191, H⟩ := bnd H
          obtain ⟨t192, h193, H⟩ := bnd H
          refine HQ.draw mixd [(0, BP β_0 0), (2, BP b1 0), (3, BP b8 0), (4, .int .i64 i141)] 8 [⟨[0], [0], []⟩, ⟨[], [], []⟩, ⟨[1], [2], [1]⟩, ⟨[], [], []⟩, ⟨[], [], []⟩, ⟨[], [3], []⟩, ⟨[2, 3], [4, 3], [4, 5]⟩, ⟨[4], [5, 6], [3, 6]⟩] [⟨none, none⟩, ⟨none, some 2⟩, ⟨some 2, some 6⟩, ⟨some 5, none⟩, ⟨some 6, some 7⟩, ⟨some 7, none⟩, ⟨some 7, none⟩] (fun (g185 : (Option Addr × Nat) × (Option Addr × Nat)) => [.agg #[.slice a145 (List.length l144) c146, .slice a148 (List.length l147) c149, .int .i64 i150, .bool q151], BP β_0 0, .int .i64 t186.1, BP β_0 0, BP β_0 0, .slice g185.1.1 (List.length ([0, 3, 32, 32] : (List Int))) g185.1.2, .int .i64 t190.1, .slice g185.2.1 (List.length t192.1) g185.2.2]) (fun (g185 : (Option Addr × Nat) × (Option Addr × Nat)) => [Box b8 [.slice a145 (List.length l144) c146, .slice a148 (List.length l147) c149, .int .i64 i150, .bool q151], Box β_0 [.slice a_0 (List.length p0.b) c_0, .int .i64 t177.2.i, .int .i64 t177.2.h], Box β_0 [.slice a_0 (List.length p0.b) c_0, .int .i64 t186.2.i, .int .i64 t186.2.h], OwnS kI g185.1.1 g185.1.2 ([0, 3, 32, 32] : (List Int)), Box β_0 [.slice a_0 (List.length p0.b) c_0, .int .i64 t190.2.i, .int .i64 t190.2.h], OwnS kU8 g185.2.1 g185.2.2 t192.1, Box β_0 [.slice a_0 (List.length p0.b) c_0, .int .i64 t192.2.i, .int .i64 t192.2.h]]) ((none, 0), (none, 0)) [5, 1] [5, 38, 39, 1] [] ⟨rfl, rfl, rfl, rfl, trivial⟩ ⟨rfl, rfl, trivial⟩ rfl (by kernel_rfl) (fun _ => rfl) (by kernel_rfl) (fun _ => rfl) ⟨?_, ?_, ?_, ?_, ?_, ?_, ?_, ?_, trivial⟩ fun g185 => ?_
          · exact OpOK.of (fun g185 => [(.tmp 3, BP b8 0)]) _ _ (fun g185 _ => g185) rfl rfl (fun _ => ⟨rfl, trivial⟩) (fun g185 => OT.loadBA (vs := [.slice a145 (List.length l144) c146, .slice a148 (List.length l147) c149, .int .i64 i150, .bool q151]) ag27 sz27 rfl rfl) (fun _ _ => ⟨rfl, rfl, ⟨rfl, rfl, rfl, rfl, rfl, rfl, rfl, trivial⟩⟩)
          · exact OpOK.of (fun g185 => [(.tmp 0, BP β_0 0)]) _ _ (fun g185 _ => g185) rfl rfl (fun _ => ⟨rfl, trivial⟩) (fun g185 => Pu.toOT Pu.move) (fun _ _ => ⟨rfl, rfl, ⟨rfl, rfl, rfl, rfl, rfl, rfl, rfl, trivial⟩⟩)
          · exact OpOK.of (fun g185 => [(.func 86, .func (.func 86) #[] #[]), (.tmp 22, BP β_0 0), (.const (.int .i64 8), .int .i64 8)]) _ _ (fun g185 _ => g185) rfl rfl (fun _ => ⟨rfl, rfl, rfl, trivial⟩) (fun g185 => OT.callM (us := [_, _]) (PreX := [Box β_0 [.slice a_0 (List.length p0.b) c_0, .int .i64 t177.2.i, .int .i64 t177.2.h]]) (PreL := []) [.tmp 22, .const (.int .i64 8)] Try.call86 rfl rfl fun w FX FL hs1 hF1 hs2 hF2 hp => spec_l1Below_c (p0 := (⟨p0.b, t177.2.i, t177.2.h⟩ : TCur)) (p1 := 8) hs1 hF1 (hb_0.passY hp) h187) (fun _ _ => ⟨rfl, rfl, ⟨rfl, rfl, rfl, rfl, rfl, rfl, rfl, trivial⟩⟩)
          · exact OpOK.of (fun g185 => [(.tmp 0, BP β_0 0)]) _ _ (fun g185 _ => g185) rfl rfl (fun _ => ⟨rfl, trivial⟩) (fun g185 => Pu.toOT Pu.move) (fun _ _ => ⟨rfl, rfl, ⟨rfl, rfl, rfl, rfl, rfl, rfl, rfl, trivial⟩⟩)
          · exact OpOK.of (fun g185 => [(.tmp 0, BP β_0 0)]) _ _ (fun g185 _ => g185) rfl rfl (fun _ => ⟨rfl, trivial⟩) (fun g185 => Pu.toOT Pu.move) (fun _ _ => ⟨rfl, rfl, ⟨rfl, rfl, rfl, rfl, rfl, rfl, rfl, trivial⟩⟩)
          · exact OpOK.of (fun g185 => [(.const (.int .i64 0), .int .i64 0), (.const (.int .i64 3), .int .i64 3), (.const (.int .i64 32), .int .i64 32), (.const (.int .i64 32), .int .i64 32)]) _ _ (fun g185 x => (x, g185.2)) rfl rfl (fun _ => ⟨rfl, rfl, rfl, rfl, trivial⟩) (fun g185 => OT.buildF (us := [.int .i64 0, .int .i64 3, .int .i64 32, .int .i64 32]) (ys := ([0, 3, 32, 32] : (List Int))) (enc := (encI .i64)) (hl := fun _ => ⟨rfl, rfl⟩) [.const (.int .i64 0), .const (.int .i64 3), .const (.int .i64 32), .const (.int .i64 32)] sl33.ul sl33.szE sl33.zc rfl rfl rfl rfl rfl) (fun _ _ => ⟨rfl, rfl, ⟨rfl, rfl, rfl, rfl, rfl, rfl, rfl, trivial⟩⟩)
          · exact OpOK.of (fun g185 => [(.func 79, .func (.func 79) #[] #[]), (.tmp 25, BP β_0 0), (.tmp 26, .slice g185.1.1 (List.length ([0, 3, 32, 32] : (List Int))) g185.1.2)]) _ _ (fun g185 _ => g185) rfl rfl (fun _ => ⟨rfl, rfl, rfl, trivial⟩) (fun g185 => OT.callM (us := [_, _]) (PreX := [Box β_0 [.slice a_0 (List.length p0.b) c_0, .int .i64 t186.2.i, .int .i64 t186.2.h]]) (PreL := [OwnS kI g185.1.1 g185.1.2 ([0, 3, 32, 32] : (List Int))]) [.tmp 25, .tmp 26] Try.call79 rfl rfl fun w FX FL hs1 hF1 hs2 hF2 hp => spec_l1Int_c (p0 := (⟨p0.b, t186.2.i, t186.2.h⟩ : TCur)) (p1 := ([0, 3, 32, 32] : (List Int))) hs1 hF1 (hb_0.passY hp) (hs2.lendY hF2 0 rfl) h191) (fun _ _ => ⟨rfl, rfl, ⟨rfl, rfl, rfl, rfl, rfl, rfl, rfl, trivial⟩⟩)
          · exact OpOK.of (fun g185 => [(.func 80, .func (.func 80) #[] #[]), (.tmp 24, BP β_0 0), (.tmp 27, .int .i64 t190.1)]) _ _ (fun g185 x => (g185.1, x)) rfl rfl (fun _ => ⟨rfl, rfl, rfl, trivial⟩) (fun g185 => OT.callM (us := [_, _]) (PreX := [Box β_0 [.slice a_0 (List.length p0.b) c_0, .int .i64 t190.2.i, .int .i64 t190.2.h]]) (PreL := []) [.tmp 24, .tmp 27] Try.call80 rfl rfl fun w FX FL hs1 hF1 hs2 hF2 hp => spec_l1Bytes_c (p0 := (⟨p0.b, t190.2.i, t190.2.h⟩ : TCur)) (p1 := t190.1) hs1 hF1 (hb_0.passY hp) h193) (fun _ _ => ⟨rfl, rfl, ⟨rfl, rfl, rfl, rfl, rfl, rfl, rfl, trivial⟩⟩)
          refine HQ.keep [(0, _), (2, _), (3, _), (4, _), (21, _), (23, _), (28, _)] ⟨rfl, rfl, rfl, rfl, rfl, rfl, rfl, trivial⟩ ?_
          refine HQ.keepR [(1, _), (2, _), (5, _), (3, _), (4, _), (38, _), (39, _)] ⟨rfl, rfl, rfl, rfl, rfl, rfl, rfl, trivial⟩ rfl ?_
          obtain ⟨t196, h197, H⟩ := bnd H
          refine HQ.op [3, 4, 39] [40, 41, 3, 4, 39] (OT.call (us := [_, _, _]) (Pre := [OwnS kTCell a145 c146 l144, OwnS kTWet a148 c149 l147, OwnS kU8 g185.2.1 g185.2.2 t192.1]) [.tmp 21, .tmp 23, .tmp 28] Try.call20 rfl rfl fun w F hs hF hp => spec_Write_c (hs.lend hF 0 rfl) (hs.lend hF 1 rfl) (hs.lend hF 2 rfl) h197) ⟨rfl, rfl, rfl, rfl, trivial⟩ ⟨rfl, rfl, rfl, trivial⟩ rfl rfl rfl rfl (fun _ => rfl) fun ⟨⟨a198, c199⟩, ⟨a200, c201⟩⟩ => ?_
          refine HQ.opN [5] [5] [] (OT.storeC (cs' := [.slice a198 (List.length t196.Cells) c199, .slice a200 (List.length t196.Wet) c201, .int .i64 t196.Fuse, .bool t196.Dead]) sz27 rfl rfl rfl rfl rfl) ⟨rfl, rfl, trivial⟩ ⟨rfl, trivial⟩ rfl rfl rfl (fun _ => rfl) fun _ => ?_
          refine HQ.done ?_
          refine HQ.keep [(0, _), (2, _), (3, _), (4, _)] ⟨rfl, rfl, rfl, rfl, trivial⟩ ?_
          refine HQ.blkN ?_
          refine HQ.thenN ?_
          refine HQ.regionQ ?_
          refine HQ.pu Pu.move ⟨rfl, trivial⟩ rfl rfl rfl ?_
          refine HQ.pu Pu.sub ⟨rfl, rfl, trivial⟩ rfl rfl rfl ?_
          refine HQ.pu Pu.assign ⟨rfl, trivial⟩ rfl rfl rfl ?_
          refine HQ.done ?_
          refine HQ.keep [(0, _), (2, _), (3, _), (4, _)] ⟨rfl, rfl, rfl, rfl, trivial⟩ ?_
          refine HQ.mv 3 40 rfl rfl ?_
          refine HQ.mv 4 41 rfl rfl ?_
          obtain rfl := Option.some.inj H
          exact HQ.next ((a198, c199), (a200, c201)) ⟨rfl, rfl, rfl, rfl, trivial⟩ ⟨rfl, rfl, rfl, rfl, rfl, trivial⟩ rfl
      · refine HQ.condF rfl hc ?_
        clear hc
        refine HQ.exit ?_
        refine HQ.thenE ?_
        obtain rfl := Option.some.inj H
        exact HQ.out ((a145, c146), (a148, c149)) ⟨rfl, rfl, rfl, rfl, trivial⟩ ⟨rfl, rfl, rfl, rfl, rfl, trivial⟩ rfl
    · rintro ⟨i203, i204, i205, l206, l209, i212, q213⟩ rfl ⟨⟨a207, c208⟩, ⟨a210, c211⟩⟩
      clear h214
      replace H := H
      refine HQ.keep [(0, _), (2, _), (3, _), (4, _)] ⟨rfl, rfl, rfl, rfl, trivial⟩ ?_
      refine HQ.keepR [(1, _), (2, _), (5, _), (3, _), (4, _)] ⟨rfl, rfl, rfl, rfl, rfl, trivial⟩ rfl ?_
      refine HQ.blkE ?_
      refine HQ.thenN ?_
      refine HQ.rseq ?_
      refine HQ.op [5] [5] (OT.loadBA (vs := [.slice a207 (List.length l206) c208, .slice a210 (List.length l209) c211, .int .i64 i212, .bool q213]) ag27 sz27 rfl rfl) ⟨rfl, trivial⟩ ⟨rfl, trivial⟩ rfl rfl rfl rfl (fun _ => rfl) fun _ => ?_
      refine HQ.opN [2] [2] [] (OT.storeC (cs' := [.slice a207 (List.length l206) c208, .slice a210 (List.length l209) c211, .int .i64 i212, .bool q213]) sz27 rfl rfl rfl rfl rfl) ⟨rfl, rfl, trivial⟩ ⟨rfl, trivial⟩ rfl rfl rfl (fun _ => rfl) fun _ => ?_
      refine HQ.done ?_
      refine HQ.keep [(2, _)] ⟨rfl, trivial⟩ ?_
      refine HQ.ret ?_
      obtain rfl := Option.some.inj H
      exact HQ.fin (vs := [_]) Try.results78 ((a207, c208), (a210, c211)) ⟨⟨_, _, 2, rfl, rfl, ag27, sz27, rfl⟩, trivial⟩ rfl [3, 4, 1] ⟨rfl, rfl, rfl, trivial⟩ rfl
    · exact fun r h a w hf => hf.elim

/-! spec.DrawPutHead -/
theorem spec_DrawPutHead_c {w : World} {k : Nat} {p0 : (List Int)} {a_0 : Option Addr} {c_0 : Nat} (hb_0 : BorS kU8 a_0 c_0 p0 w.heap (Lt w Nil)) {r : TDisk × THead} (H : spec_DrawPutHead k p0 = some r) :
    Calls Try.prog 47 #[.slice a_0 (List.length p0) c_0] w (Rt w Nil (fun g : (Option Addr × Nat) × (Option Addr × Nat) => .tuple #[.agg #[.slice g.1.1 (List.length r.1.Cells) g.1.2, .slice g.2.1 (List.length r.1.Wet) g.2.2, .int .i64 r.1.Fuse, .bool r.1.Dead], .agg #[.int .i64 r.2.Epoch, .int .i64 r.2.Seq, .int .i64 r.2.Root, .int .i64 r.2.Size]]) (fun g => [OwnS kTCell g.1.1 g.1.2 r.1.Cells, OwnS kTWet g.2.1 g.2.2 r.1.Wet])) := by
  rw [spec_DrawPutHead] at H
  refine Calls.enter0 (N := 13) (us := [_]) Try.func47 rfl rfl rfl ?_
  refine HQ.rseq ?_
  refine HQ.op [] [1] (OT.alloc zc27) trivial trivial rfl rfl rfl rfl (fun _ => rfl) fun b1 => ?_
  refine HQ.op [] [2] (OT.alloc zc68) trivial trivial rfl rfl rfl rfl (fun _ => rfl) fun b2 => ?_
  refine HQ.done ?_
  refine HQ.keep [(0, _), (2, _), (3, _)] ⟨rfl, rfl, rfl, trivial⟩ ?_
  refine HQ.rseq ?_
  refine HQ.pu Pu.move ⟨rfl, trivial⟩ rfl rfl rfl ?_
  obtain ⟨t3, h4, H⟩ := bnd H
  refine HQ.op [] [3] (OT.call (us := [_]) (Pre := []) [.tmp 6] Try.call77 rfl rfl fun w F hs hF hp => spec_l1New_c (hb_0.pass hp) h4) ⟨rfl, rfl, trivial⟩ trivial rfl rfl rfl rfl (fun _ => rfl) fun b5 => ?_
  refine HQ.pu Pu.assign ⟨rfl, trivial⟩ rfl rfl rfl ?_
  refine HQ.done ?_
  refine HQ.keep [(2, _), (3, _), (4, _)] ⟨rfl, rfl, rfl, trivial⟩ ?_
  refine HQ.rseq ?_
  refine HQ.pu Pu.move ⟨rfl, trivial⟩ rfl rfl rfl ?_
  obtain ⟨t6, h7, H⟩ := bnd H
  refine HQ.op [3] [4, 5, 3] (OT.callM (us := [_]) (PreX := [Box b5 [.slice a_0 (List.length p0) c_0, .int .i64 t3.i, .int .i64 t3.h]]) (PreL := []) [.tmp 8] Try.call78 rfl rfl fun w FX FL hs1 hF1 hs2 hF2 hp => spec_l18Draw_c (p0 := (⟨p0, t3.i, t3.h⟩ : TCur)) hs1 hF1 (hb_0.passY hp) h7) ⟨rfl, rfl, trivial⟩ ⟨rfl, trivial⟩ rfl rfl rfl rfl (fun _ => rfl) fun ⟨⟨a8, c9⟩, ⟨a10, c11⟩⟩ => ?_
  refine HQ.op [] [6] (OT.alloc zc27) trivial trivial rfl rfl rfl rfl (fun _ => rfl) fun b12 => ?_
  refine HQ.opN [6] [6] [] (OT.storeC (cs' := [.slice a8 (List.length t6.1.Cells) c9, .slice a10 (List.length t6.1.Wet) c11, .int .i64 t6.1.Fuse, .bool t6.1.Dead]) sz27 rfl rfl rfl rfl rfl) ⟨rfl, rfl, trivial⟩ ⟨rfl, trivial⟩ rfl rfl rfl (fun _ => rfl) fun _ => ?_
  refine HQ.done ?_
  refine HQ.keep [(2, _), (3, _), (4, _), (5, _)] ⟨rfl, rfl, rfl, rfl, trivial⟩ ?_
  obtain ⟨t14, h15, H⟩ := bnd H
  refine HQ.drawS mixd [(2, BP b1 0), (3, BP b2 0), (4, BP b5 0), (5, BP b12 0)] 3 [⟨[0], [0], []⟩, ⟨[], [], []⟩, ⟨[1], [2], [1]⟩] [⟨none, none⟩, ⟨none, some 2⟩, ⟨some 2, none⟩] (fun (g13 : Unit) => [.agg #[.slice a8 (List.length t6.1.Cells) c9, .slice a10 (List.length t6.1.Wet) c11, .int .i64 t6.1.Fuse, .bool t6.1.Dead], BP b5 0, .agg #[.int .i64 t14.1.Epoch, .int .i64 t14.1.Seq, .int .i64 t14.1.Root, .int .i64 t14.1.Size]]) (fun (g13 : Unit) => [Box b12 [.slice a8 (List.length t6.1.Cells) c9, .slice a10 (List.length t6.1.Wet) c11, .int .i64 t6.1.Fuse, .bool t6.1.Dead], Box b5 [.slice a_0 (List.length p0) c_0, .int .i64 t6.2.i, .int .i64 t6.2.h], Box b5 [.slice a_0 (List.length p0) c_0, .int .i64 t14.2.i, .int .i64 t14.2.h]]) () [6, 3] [6, 3] [] ⟨rfl, rfl, rfl, rfl, trivial⟩ ⟨rfl, rfl, trivial⟩ rfl (by kernel_rfl) (fun _ => rfl) (by kernel_rfl) (fun _ => rfl) ⟨?_, ?_, ?_, trivial⟩ fun g13 => ?_
  · exact OpOK.of (fun g13 => [(.tmp 5, BP b12 0)]) _ _ (fun g13 _ => g13) rfl rfl (fun _ => ⟨rfl, trivial⟩) (fun g13 => OT.loadBA (vs := [.slice a8 (List.length t6.1.Cells) c9, .slice a10 (List.length t6.1.Wet) c11, .int .i64 t6.1.Fuse, .bool t6.1.Dead]) ag27 sz27 rfl rfl) (fun _ _ => ⟨rfl, rfl, ⟨rfl, rfl, rfl, trivial⟩⟩)
  · exact OpOK.of (fun g13 => [(.tmp 4, BP b5 0)]) _ _ (fun g13 _ => g13) rfl rfl (fun _ => ⟨rfl, trivial⟩) (fun g13 => Pu.toOT Pu.move) (fun _ _ => ⟨rfl, rfl, ⟨rfl, rfl, rfl, trivial⟩⟩)
  · exact OpOK.of (fun g13 => [(.func 111, .func (.func 111) #[] #[]), (.tmp 11, BP b5 0)]) _ _ (fun g13 _ => g13) rfl rfl (fun _ => ⟨rfl, rfl, trivial⟩) (fun g13 => OT.callM (us := [_]) (PreX := [Box b5 [.slice a_0 (List.length p0) c_0, .int .i64 t6.2.i, .int .i64 t6.2.h]]) (PreL := []) [.tmp 11] Try.call111 rfl rfl fun w FX FL hs1 hF1 hs2 hF2 hp => spec_l21Any_c (p0 := (⟨p0, t6.2.i, t6.2.h⟩ : TCur)) hs1 hF1 (hb_0.passY hp) h15) (fun _ _ => ⟨rfl, rfl, ⟨rfl, rfl, rfl, trivial⟩⟩)
  refine HQ.keep [(2, _), (3, _), (10, _), (12, _)] ⟨rfl, rfl, rfl, rfl, trivial⟩ ?_
  refine HQ.keepR [(1, _), (2, _), (3, _), (4, _), (5, _), (6, _)] ⟨rfl, rfl, rfl, rfl, rfl, rfl, trivial⟩ rfl ?_
  refine HQ.opN [1] [1] [] (OT.storeC (cs' := [.slice a8 (List.length t6.1.Cells) c9, .slice a10 (List.length t6.1.Wet) c11, .int .i64 t6.1.Fuse, .bool t6.1.Dead]) sz27 rfl rfl rfl rfl rfl) ⟨rfl, rfl, trivial⟩ ⟨rfl, trivial⟩ rfl rfl rfl (fun _ => rfl) fun _ => ?_
  refine HQ.opN [2] [2] [] (OT.storeC (cs' := [.int .i64 t14.1.Epoch, .int .i64 t14.1.Seq, .int .i64 t14.1.Root, .int .i64 t14.1.Size]) sz68 rfl rfl rfl rfl rfl) ⟨rfl, rfl, trivial⟩ ⟨rfl, trivial⟩ rfl rfl rfl (fun _ => rfl) fun _ => ?_
  refine HQ.done ?_
  refine HQ.keep [(2, _), (3, _)] ⟨rfl, rfl, trivial⟩ ?_
  refine HQ.ret ?_
  obtain rfl := Option.some.inj H
  exact HQ.fin (vs := [_, _]) Try.results47 ((a8, c9), (a10, c11)) ⟨⟨_, _, 1, rfl, rfl, ag27, sz27, rfl⟩, ⟨_, _, 2, rfl, rfl, ag68, sz68, rfl⟩, trivial⟩ rfl [4, 5] ⟨rfl, rfl, trivial⟩ rfl

/-! laws.same -/
theorem laws_same_c {w : World} {k : Nat} {p0 : (List Int)} {p1 : (List Int)} {a_0 : Option Addr} {c_0 : Nat} {a_1 : Option Addr} {c_1 : Nat} (hb_0 : BorS kU8 a_0 c_0 p0 w.heap (Lt w Nil)) (hb_1 : BorS kU8 a_1 c_1 p1 w.heap (Lt w Nil)) {r : Bool} (H : laws_same k p0 p1 = some r) :
    Calls Try.prog 23 #[.slice a_0 (List.length p0) c_0, .slice a_1 (List.length p1) c_1] w (Rt w Nil (fun _ : Unit => .bool r) (fun _ => [])) := by
  rw [laws_same] at H
  refine Calls.enter0 (N := 26) (us := [_, _]) Try.func23 rfl rfl rfl ?_
  refine HQ.rseq ?_
  refine HQ.pu Pu.assign ⟨rfl, trivial⟩ rfl rfl rfl ?_
  refine HQ.done ?_
  refine HQ.keep [(0, _), (1, _), (4, _)] ⟨rfl, rfl, rfl, trivial⟩ ?_
  refine HQ.seq ?_
  refine HQ.rseq ?_
  refine HQ.pu Pu.move ⟨rfl, trivial⟩ rfl rfl rfl ?_
  refine HQ.pu (Pu.len ul22) ⟨rfl, trivial⟩ rfl rfl rfl ?_
  refine HQ.pu Pu.move ⟨rfl, trivial⟩ rfl rfl rfl ?_
  refine HQ.pu (Pu.len ul22) ⟨rfl, trivial⟩ rfl rfl rfl ?_
  refine HQ.pu Pu.neq ⟨rfl, rfl, trivial⟩ rfl rfl rfl ?_
  refine HQ.done ?_
  refine HQ.keep [(0, _), (1, _), (4, _), (10, _)] ⟨rfl, rfl, rfl, rfl, trivial⟩ ?_
  rcases brk H with ⟨hc, H⟩ | ⟨hc, H⟩
  · refine HQ.condT rfl hc ?_
    clear hc
    refine HQ.rseq ?_
    refine HQ.pu Pu.assign ⟨rfl, trivial⟩ rfl rfl rfl ?_
    refine HQ.done ?_
    refine HQ.keep [(0, _), (1, _), (4, _)] ⟨rfl, rfl, rfl, trivial⟩ ?_
    refine HQ.ret ?_
    refine HQ.thenR ?_
    obtain rfl := Option.some.inj H
    exact HQ.fin (vs := [_]) Try.results23 () ⟨rfl, trivial⟩ rfl [] trivial rfl
  · refine HQ.condF rfl hc ?_
    clear hc
    refine HQ.skipThen ?_
    refine HQ.seq ?_
    refine HQ.rseq ?_
    refine HQ.pu Pu.assign ⟨rfl, trivial⟩ rfl rfl rfl ?_
    refine HQ.done ?_
    refine HQ.keep [(0, _), (1, _), (4, _), (5, _)] ⟨rfl, rfl, rfl, rfl, trivial⟩ ?_
    refine HQ.block ?_
    obtain ⟨o11, h13, H⟩ := bnd H
    refine HQ.loop h13 0 (fun (s : Int) (g : Unit) => match s, g with | i4, () => [(0, .slice a_0 (List.length p0) c_0), (1, .slice a_1 (List.length p1) c_1), (4, .bool false), (5, .int .i64 i4)]) (fun (s : Int) (g : Unit) => match s, g with | i4, () => []) (fun r => bodyPost Try.prog Try.f23 (Rt w Nil (fun _ : Unit => .bool r) (fun _ => [])) .ret) () ⟨rfl, rfl, rfl, rfl, trivial⟩ trivial rfl ?_ ?_ ?_
    · clear H h13
      rintro i4 _ o H
      rw [laws_same_b0] at H
      refine HQ.keep [(0, _), (1, _), (4, _), (5, _)] ⟨rfl, rfl, rfl, rfl, trivial⟩ ?_
      refine HQ.keepR [] trivial rfl ?_
      refine HQ.seq ?_
      refine HQ.rseq ?_
      refine HQ.pu Pu.move ⟨rfl, trivial⟩ rfl rfl rfl ?_
      refine HQ.pu Pu.move ⟨rfl, trivial⟩ rfl rfl rfl ?_
      refine HQ.pu (Pu.len ul22) ⟨rfl, trivial⟩ rfl rfl rfl ?_
      refine HQ.pu Pu.lss ⟨rfl, rfl, trivial⟩ rfl rfl rfl ?_
      refine HQ.done ?_
      refine HQ.keep [(0, _), (1, _), (4, _), (5, _), (14, _)] ⟨rfl, rfl, rfl, rfl, rfl, trivial⟩ ?_
      rcases brk H with ⟨hc, H⟩ | ⟨hc, H⟩
      · refine HQ.condT rfl hc ?_
        clear hc
        refine HQ.skipThen ?_
        refine HQ.seq ?_
        refine HQ.block ?_
        obtain ⟨h9, H⟩ := asr H
        obtain ⟨h10, H⟩ := asr H
        refine HQ.drawS mixd [(0, .slice a_0 (List.length p0) c_0), (1, .slice a_1 (List.length p1) c_1), (4, .bool false), (5, .int .i64 i4)] 8 [⟨[], [], []⟩, ⟨[], [], []⟩, ⟨[], [], [0, 1]⟩, ⟨[], [], [2]⟩, ⟨[], [], []⟩, ⟨[], [], []⟩, ⟨[], [], [4, 5]⟩, ⟨[], [], [6]⟩] [] (fun (g8 : Unit) => [.slice a_0 (List.length p0) c_0, .int .i64 i4, EP a_0 i4 1 0, .int .u8 (gt p0 i4), .slice a_1 (List.length p1) c_1, .int .i64 i4, EP a_1 i4 1 0, .int .u8 (gt p1 i4)]) (fun (g8 : Unit) => []) () [] [] [] ⟨rfl, rfl, rfl, rfl, trivial⟩ trivial rfl (by kernel_rfl) (fun _ => rfl) (by kernel_rfl) (fun _ => rfl) ⟨?_, ?_, ?_, ?_, ?_, ?_, ?_, ?_, trivial⟩ fun g8 => ?_
        · exact OpOK.of (fun g8 => [(.tmp 0, .slice a_0 (List.length p0) c_0)]) _ _ (fun g8 _ => g8) rfl rfl (fun _ => ⟨rfl, trivial⟩) (fun g8 => Pu.toOT Pu.move) (fun _ _ => ⟨rfl, rfl, trivial⟩)
        · exact OpOK.of (fun g8 => [(.tmp 5, .int .i64 i4)]) _ _ (fun g8 _ => g8) rfl rfl (fun _ => ⟨rfl, trivial⟩) (fun g8 => Pu.toOT Pu.move) (fun _ _ => ⟨rfl, rfl, trivial⟩)
        · exact OpOK.of (fun g8 => [(.tmp 17, .slice a_0 (List.length p0) c_0), (.tmp 18, .int .i64 i4)]) _ _ (fun g8 _ => g8) rfl rfl (fun _ => ⟨rfl, rfl, trivial⟩) (fun g8 => OT.indexB ul22 sz5 hb_0 h9) (fun _ _ => ⟨rfl, rfl, trivial⟩)
        · exact OpOK.of (fun g8 => [(.tmp 19, EP a_0 i4 1 0)]) _ _ (fun g8 _ => g8) rfl rfl (fun _ => ⟨rfl, trivial⟩) (fun g8 => OT.loadF sc5 hb_0 h9 rfl) (fun _ _ => ⟨rfl, rfl, trivial⟩)
        · exact OpOK.of (fun g8 => [(.tmp 1, .slice a_1 (List.length p1) c_1)]) _ _ (fun g8 _ => g8) rfl rfl (fun _ => ⟨rfl, trivial⟩) (fun g8 => Pu.toOT Pu.move) (fun _ _ => ⟨rfl, rfl, trivial⟩)
        · exact OpOK.of (fun g8 => [(.tmp 5, .int .i64 i4)]) _ _ (fun g8 _ => g8) rfl rfl (fun _ => ⟨rfl, trivial⟩) (fun g8 => Pu.toOT Pu.move) (fun _ _ => ⟨rfl, rfl, trivial⟩)
        · exact OpOK.of (fun g8 => [(.tmp 21, .slice a_1 (List.length p1) c_1), (.tmp 22, .int .i64 i4)]) _ _ (fun g8 _ => g8) rfl rfl (fun _ => ⟨rfl, rfl, trivial⟩) (fun g8 => OT.indexB ul22 sz5 hb_1 h10) (fun _ _ => ⟨rfl, rfl, trivial⟩)
        · exact OpOK.of (fun g8 => [(.tmp 23, EP a_1 i4 1 0)]) _ _ (fun g8 _ => g8) rfl rfl (fun _ => ⟨rfl, trivial⟩) (fun g8 => OT.loadF sc5 hb_1 h10 rfl) (fun _ _ => ⟨rfl, rfl, trivial⟩)
        refine HQ.keep [(0, _), (1, _), (4, _), (5, _), (20, _), (24, _)] ⟨rfl, rfl, rfl, rfl, rfl, rfl, trivial⟩ ?_
        refine HQ.keepR [] trivial rfl ?_
        refine HQ.pu Pu.neq ⟨rfl, rfl, trivial⟩ rfl rfl rfl ?_
        refine HQ.done ?_
        refine HQ.keep [(0, _), (1, _), (4, _), (5, _), (25, _)] ⟨rfl, rfl, rfl, rfl, rfl, trivial⟩ ?_
        rcases brk H with ⟨hc, H⟩ | ⟨hc, H⟩
        · refine HQ.condT rfl hc ?_
          clear hc
          refine HQ.rseq ?_
          refine HQ.pu Pu.assign ⟨rfl, trivial⟩ rfl rfl rfl ?_
          refine HQ.done ?_
          refine HQ.keep [(0, _), (1, _), (4, _), (5, _)] ⟨rfl, rfl, rfl, rfl, trivial⟩ ?_
          refine HQ.ret ?_
          refine HQ.blkR ?_
          refine HQ.thenR ?_
          obtain rfl := Option.some.inj H
          refine HQ.retL ?_
          exact HQ.fin (vs := [_]) Try.results23 () ⟨rfl, trivial⟩ rfl [] trivial rfl
        · refine HQ.condF rfl hc ?_
          clear hc
          refine HQ.skip ?_
          refine HQ.blkN ?_
          refine HQ.thenN ?_
          refine HQ.regionQ ?_
          refine HQ.pu Pu.move ⟨rfl, trivial⟩ rfl rfl rfl ?_
          refine HQ.pu Pu.add ⟨rfl, rfl, trivial⟩ rfl rfl rfl ?_
          refine HQ.pu Pu.assign ⟨rfl, trivial⟩ rfl rfl rfl ?_
          refine HQ.done ?_
          refine HQ.keep [(0, _), (1, _), (4, _), (5, _)] ⟨rfl, rfl, rfl, rfl, trivial⟩ ?_
          obtain rfl := Option.some.inj H
          exact HQ.next () ⟨rfl, rfl, rfl, rfl, trivial⟩ trivial rfl
      · refine HQ.condF rfl hc ?_
        clear hc
        refine HQ.exit ?_
        refine HQ.thenE ?_
        obtain rfl := Option.some.inj H
        exact HQ.out () ⟨rfl, rfl, rfl, rfl, trivial⟩ trivial rfl
    · rintro i12 rfl _
      clear h13
      replace H := H
      refine HQ.keep [(0, _), (1, _), (4, _), (5, _)] ⟨rfl, rfl, rfl, rfl, trivial⟩ ?_
      refine HQ.keepR [] trivial rfl ?_
      refine HQ.blkE ?_
      refine HQ.thenN ?_
      refine HQ.rseq ?_
      refine HQ.pu Pu.assign ⟨rfl, trivial⟩ rfl rfl rfl ?_
      refine HQ.done ?_
      refine HQ.keep [(4, _)] ⟨rfl, trivial⟩ ?_
      refine HQ.ret ?_
      obtain rfl := Option.some.inj H
      exact HQ.fin (vs := [_]) Try.results23 () ⟨rfl, trivial⟩ rfl [] trivial rfl
    · rintro r rfl a w hr
      obtain rfl := Option.some.inj H
      exact hr

end Go.Proofs.Sx
