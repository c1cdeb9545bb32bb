import Derived.Test.YtkhommmhkeohbaaQbF1
import Derived.KernelRfl
namespace Go.Proofs.Sx
open Go.RowKit
set_option linter.unusedVariables false
set_option linter.unusedSimpArgs false
set_option maxRecDepth 20000
set_option maxHeartbeats 1000000
/-! spec.l4List -/
theorem spec_l4List_c {w : World} {k : Nat} {p0 : TCur} {p1 : Int} {β_0 : Nat} {a_0 : Option Addr} {c_0 : Nat} {F0 : Fp} (hs0 : Sat [Box β_0 [.slice a_0 (List.length p0.b) c_0, .int .i64 p0.i, .int .i64 p0.h]] w.heap F0) (hF0 : ∀ b, F0 b → b < w.heap.size) (hb_0 : BorS kU8 a_0 c_0 p0.b w.heap (Lt w F0)) {r : (List TItem) × TCur} (H : spec_l4List k p0 p1 = some r) :
    Calls Try.prog 136 #[BP β_0 0, .int .i64 p1] w (Rt w F0 (fun g : Option Addr × Nat => .slice g.1 (List.length r.1) g.2) (fun g => [OwnS kTItem g.1 g.2 r.1, Box β_0 [.slice a_0 (List.length p0.b) c_0, .int .i64 r.2.i, .int .i64 r.2.h]])) := by
  rw [spec_l4List] at H
  refine Calls.enter (N := 29) (us := [_, _]) (F0 := F0) (Γ0 := [(1, Box β_0 [.slice a_0 (List.length p0.b) c_0, .int .i64 p0.i, .int .i64 p0.h])]) Try.func136 rfl rfl rfl hs0 hF0 ?_
  refine HQ.rseq ?_
  refine HQ.pu Pu.assign ⟨rfl, trivial⟩ rfl rfl rfl ?_
  refine HQ.done ?_
  refine HQ.keep [(0, _), (1, _), (4, _)] ⟨rfl, rfl, rfl, trivial⟩ ?_
  refine HQ.rseq ?_
  refine HQ.op [] [2] (OT.buildF (us := []) (ys := ([] : (List TItem))) (enc := encTItem) (hl := fun _ => ⟨rfl, rfl⟩) [] sl153.ul sl153.szE sl153.zc rfl rfl rfl rfl rfl) trivial trivial rfl rfl rfl rfl (fun _ => rfl) fun ⟨a1, c2⟩ => ?_
  refine HQ.pu Pu.assign ⟨rfl, trivial⟩ rfl rfl rfl ?_
  refine HQ.done ?_
  refine HQ.keep [(0, _), (1, _), (4, _), (5, _)] ⟨rfl, rfl, rfl, rfl, trivial⟩ ?_
  refine HQ.seq ?_
  refine HQ.rseq ?_
  refine HQ.pu Pu.move ⟨rfl, trivial⟩ rfl rfl rfl ?_
  refine HQ.pu Pu.move ⟨rfl, trivial⟩ rfl rfl rfl ?_
  refine HQ.pu Pu.add ⟨rfl, rfl, trivial⟩ rfl rfl rfl ?_
  obtain ⟨t3, h4, H⟩ := bnd H
  refine HQ.op [1] [1] (OT.callM (us := [_, _]) (PreX := [Box β_0 [.slice a_0 (List.length p0.b) c_0, .int .i64 p0.i, .int .i64 p0.h]]) (PreL := []) [.tmp 9, .tmp 11] Try.call86 rfl rfl fun w FX FL hs1 hF1 hs2 hF2 hp => spec_l1Below_c (p0 := p0) (p1 := (wrap64 (p1 + 1))) hs1 hF1 (hb_0.passY hp) h4) ⟨rfl, rfl, rfl, trivial⟩ ⟨rfl, trivial⟩ rfl rfl rfl rfl (fun _ => rfl) fun _ => ?_
  refine HQ.pu Pu.assign ⟨rfl, trivial⟩ rfl rfl rfl ?_
  refine HQ.done ?_
  refine HQ.keep [(0, _), (4, _), (5, _), (6, _)] ⟨rfl, rfl, rfl, rfl, trivial⟩ ?_
  refine HQ.block ?_
  obtain ⟨o41, h48, H⟩ := bnd H
  refine HQ.loop h48 0 (fun (s : (List TItem) × Int × Int × Int) (g : Option Addr × Nat) => match s, g with | (l15, i18, i19, i20), (a16, c17) => [(0, BP β_0 0), (4, .slice none 0 0), (5, .slice a16 (List.length l15) c17), (6, .int .i64 i18)]) (fun (s : (List TItem) × Int × Int × Int) (g : Option Addr × Nat) => match s, g with | (l15, i18, i19, i20), (a16, c17) => [(1, Box β_0 [.slice a_0 (List.length p0.b) c_0, .int .i64 i19, .int .i64 i20]), (2, OwnS kTItem a16 c17 l15)]) (fun _ _ _ => False) (a1, c2) ⟨rfl, rfl, rfl, rfl, trivial⟩ ⟨rfl, rfl, trivial⟩ rfl ?_ ?_ ?_
  · clear H h48
    rintro ⟨l15, i18, i19, i20⟩ ⟨a16, c17⟩ o H
    rw [spec_l4List_b0] at H
    refine HQ.keep [(0, _), (4, _), (5, _), (6, _)] ⟨rfl, rfl, rfl, rfl, trivial⟩ ?_
    refine HQ.keepR [(1, _), (2, _)] ⟨rfl, rfl, trivial⟩ rfl ?_
    refine HQ.seq ?_
    refine HQ.rseq ?_
    refine HQ.pu Pu.move ⟨rfl, trivial⟩ rfl rfl rfl ?_
    refine HQ.pu Pu.gtr ⟨rfl, rfl, trivial⟩ rfl rfl rfl ?_
    refine HQ.done ?_
    refine HQ.keep [(0, _), (4, _), (5, _), (6, _), (14, _)] ⟨rfl, rfl, rfl, rfl, rfl, trivial⟩ ?_
    rcases brk H with ⟨hc, H⟩ | ⟨hc, H⟩
    · refine HQ.condT rfl hc ?_
      clear hc
      refine HQ.skipThen ?_
      refine HQ.seq ?_
      refine HQ.block ?_
      refine HQ.rseq ?_
      refine HQ.pu Pu.move ⟨rfl, trivial⟩ rfl rfl rfl ?_
      obtain ⟨t31, h32, H⟩ := bnd H
      refine HQ.op [1] [1] (OT.callM (us := [_]) (PreX := [Box β_0 [.slice a_0 (List.length p0.b) c_0, .int .i64 i19, .int .i64 i20]]) (PreL := []) [.tmp 17] Try.call140 rfl rfl fun w FX FL hs1 hF1 hs2 hF2 hp => spec_l4Draw_c (p0 := (⟨p0.b, i19, i20⟩ : TCur)) hs1 hF1 (hb_0.passY hp) h32) ⟨rfl, rfl, trivial⟩ ⟨rfl, trivial⟩ rfl rfl rfl rfl (fun _ => rfl) fun _ => ?_
      refine HQ.op [] [7] (OT.alloc zc158) trivial trivial rfl rfl rfl rfl (fun _ => rfl) fun b33 => ?_
      refine HQ.opN [7] [7] [] (OT.storeC (cs' := [.int .i64 t31.1.Id, .int .i64 t31.1.R.X0, .int .i64 t31.1.R.Y0, .int .i64 t31.1.R.X1, .int .i64 t31.1.R.Y1]) sz158 rfl rfl rfl rfl rfl) ⟨rfl, rfl, trivial⟩ ⟨rfl, trivial⟩ rfl rfl rfl (fun _ => rfl) fun _ => ?_
      refine HQ.done ?_
      refine HQ.keep [(0, _), (4, _), (5, _), (6, _), (7, _)] ⟨rfl, rfl, rfl, rfl, rfl, trivial⟩ ?_
      refine HQ.rseq ?_
      refine HQ.pu Pu.move ⟨rfl, trivial⟩ rfl rfl rfl ?_
      refine HQ.pu (Pu.fieldB fo158_0 rfl) ⟨rfl, trivial⟩ rfl rfl rfl ?_
      refine HQ.op [7] [7] (OT.loadB sc3 rfl) ⟨rfl, trivial⟩ ⟨rfl, trivial⟩ rfl rfl rfl rfl (fun _ => rfl) fun _ => ?_
      obtain ⟨t34, h35, H⟩ := bnd H
      refine HQ.op [2] [2] (OT.call (us := [_, _]) (Pre := [OwnS kTItem a16 c17 l15]) [.tmp 19, .tmp 21] Try.call141 rfl rfl fun w F hs hF hp => spec_ItemAt_c (hs.lend hF 0 rfl) h35) ⟨rfl, rfl, rfl, trivial⟩ ⟨rfl, trivial⟩ rfl rfl rfl rfl (fun _ => rfl) fun _ => ?_
      refine HQ.pu Pu.lss ⟨rfl, rfl, trivial⟩ rfl rfl rfl ?_
      refine HQ.done ?_
      refine HQ.keep [(0, _), (4, _), (5, _), (6, _), (7, _), (23, _)] ⟨rfl, rfl, rfl, rfl, rfl, rfl, trivial⟩ ?_
      rcases brk H with ⟨hc, H⟩ | ⟨hc, H⟩
      · refine HQ.condT rfl hc ?_
        clear hc
        refine HQ.regionQ ?_
        refine HQ.pu Pu.move ⟨rfl, trivial⟩ rfl rfl rfl ?_
        refine HQ.op [7] [7] (OT.loadBA (vs := [.int .i64 t31.1.Id, .int .i64 t31.1.R.X0, .int .i64 t31.1.R.Y0, .int .i64 t31.1.R.X1, .int .i64 t31.1.R.Y1]) ag158 sz158 rfl rfl) ⟨rfl, trivial⟩ ⟨rfl, trivial⟩ rfl rfl rfl rfl (fun _ => rfl) fun _ => ?_
        refine HQ.op [] [8] (OT.buildF (us := [.agg #[.int .i64 t31.1.Id, .int .i64 t31.1.R.X0, .int .i64 t31.1.R.Y0, .int .i64 t31.1.R.X1, .int .i64 t31.1.R.Y1]]) (ys := ([t31.1] : (List TItem))) (enc := encTItem) (hl := fun _ => ⟨rfl, rfl⟩) [.tmp 25] sl153.ul sl153.szE sl153.zc rfl rfl rfl rfl rfl) ⟨rfl, trivial⟩ trivial rfl rfl rfl rfl (fun _ => rfl) fun ⟨a36, c37⟩ => ?_
        obtain ⟨h40, H⟩ := asr H
        refine HQ.op [2, 8] [2, 8] (OT.appendG (enc := encTItem) (hl := fun _ => ⟨rfl, rfl⟩) sl153 ul153 h40) ⟨rfl, rfl, trivial⟩ ⟨rfl, rfl, trivial⟩ rfl rfl rfl rfl (fun _ => rfl) fun ⟨a38, c39⟩ => ?_
        refine HQ.pu Pu.assign ⟨rfl, trivial⟩ rfl rfl rfl ?_
        refine HQ.done ?_
        refine HQ.keep [(0, _), (4, _), (5, _), (6, _)] ⟨rfl, rfl, rfl, rfl, trivial⟩ ?_
        refine HQ.blkN ?_
        refine HQ.thenN ?_
        refine HQ.regionQ ?_
        refine HQ.pu Pu.move ⟨rfl, trivial⟩ rfl rfl rfl ?_
        refine HQ.pu Pu.sub ⟨rfl, rfl, trivial⟩ rfl rfl rfl ?_
        refine HQ.pu Pu.assign ⟨rfl, trivial⟩ rfl rfl rfl ?_
        refine HQ.done ?_
        refine HQ.keep [(0, _), (4, _), (5, _), (6, _)] ⟨rfl, rfl, rfl, rfl, trivial⟩ ?_
        obtain rfl := Option.some.inj H
        exact HQ.next (a38, c39) ⟨rfl, rfl, rfl, rfl, trivial⟩ ⟨rfl, rfl, trivial⟩ rfl
      · refine HQ.condF rfl hc ?_
        clear hc
        refine HQ.skip ?_
        refine HQ.blkN ?_
        refine HQ.thenN ?_
        refine HQ.regionQ ?_
        refine HQ.pu Pu.move ⟨rfl, trivial⟩ rfl rfl rfl ?_
        refine HQ.pu Pu.sub ⟨rfl, rfl, trivial⟩ rfl rfl rfl ?_
        refine HQ.pu Pu.assign ⟨rfl, trivial⟩ rfl rfl rfl ?_
        refine HQ.done ?_
        refine HQ.keep [(0, _), (4, _), (5, _), (6, _)] ⟨rfl, rfl, rfl, rfl, trivial⟩ ?_
        obtain rfl := Option.some.inj H
        exact HQ.next (a16, c17) ⟨rfl, rfl, rfl, rfl, trivial⟩ ⟨rfl, rfl, trivial⟩ rfl
    · refine HQ.condF rfl hc ?_
      clear hc
      refine HQ.exit ?_
      refine HQ.thenE ?_
      obtain rfl := Option.some.inj H
      exact HQ.out (a16, c17) ⟨rfl, rfl, rfl, rfl, trivial⟩ ⟨rfl, rfl, trivial⟩ rfl
  · rintro ⟨l42, i45, i46, i47⟩ rfl ⟨a43, c44⟩
    clear h48
    replace H := H
    refine HQ.keep [(0, _), (4, _), (5, _), (6, _)] ⟨rfl, rfl, rfl, rfl, trivial⟩ ?_
    refine HQ.keepR [(1, _), (2, _)] ⟨rfl, rfl, trivial⟩ rfl ?_
    refine HQ.blkE ?_
    refine HQ.thenN ?_
    refine HQ.rseq ?_
    refine HQ.pu Pu.move ⟨rfl, trivial⟩ rfl rfl rfl ?_
    refine HQ.pu Pu.assign ⟨rfl, trivial⟩ rfl rfl rfl ?_
    refine HQ.done ?_
    refine HQ.keep [(4, _)] ⟨rfl, trivial⟩ ?_
    refine HQ.ret ?_
    obtain rfl := Option.some.inj H
    exact HQ.fin (vs := [_]) Try.results136 (a43, c44) ⟨rfl, trivial⟩ rfl [2, 1] ⟨rfl, rfl, trivial⟩ rfl
  · exact fun r h a w hf => hf.elim

/-! spec.LeafOf -/
theorem spec_LeafOf_c {w : World} {k : Nat} {p0 : (List TItem)} {a_0 : Option Addr} {c_0 : Nat} (hb_0 : BorS kTItem a_0 c_0 p0 w.heap (Lt w Nil)) {r : TNode} (H : spec_LeafOf k p0 = some r) :
    Calls Try.prog 137 #[.slice a_0 (List.length p0) c_0] w (Rt w Nil (fun g : Option Addr × Nat => .agg #[.bool r.Leaf, .slice g.1 (List.length r.L) g.2]) (fun g => [OwnS kTEntry g.1 g.2 r.L])) := by
  rw [spec_LeafOf] at H
  refine Calls.enter0 (N := 29) (us := [_]) Try.func137 rfl rfl rfl ?_
  refine HQ.rseq ?_
  refine HQ.op [] [1] (OT.alloc zc47) trivial trivial rfl rfl rfl rfl (fun _ => rfl) fun b1 => ?_
  refine HQ.done ?_
  refine HQ.keep [(0, _), (2, _)] ⟨rfl, rfl, trivial⟩ ?_
  refine HQ.rseq ?_
  refine HQ.pu (Pu.build (us := [.bool true]) (cs := [.bool true, .slice none 0 0]) [(0, .const (.bool true))] st47 rfl rfl rfl) ⟨rfl, trivial⟩ rfl rfl rfl ?_
  refine HQ.op [] [2] (OT.alloc zc47) trivial trivial rfl rfl rfl rfl (fun _ => rfl) fun b2 => ?_
  refine HQ.opN [2] [2] [] (OT.storeC (cs' := [.bool true, .slice none 0 0]) sz47 rfl rfl rfl rfl rfl) ⟨rfl, rfl, trivial⟩ ⟨rfl, trivial⟩ rfl rfl rfl (fun _ => rfl) fun _ => ?_
  refine HQ.done ?_
  refine HQ.keep [(0, _), (2, _), (3, _)] ⟨rfl, rfl, rfl, trivial⟩ ?_
  refine HQ.seq ?_
  refine HQ.rseq ?_
  refine HQ.pu Pu.assign ⟨rfl, trivial⟩ rfl rfl rfl ?_
  refine HQ.done ?_
  refine HQ.keep [(0, _), (2, _), (3, _), (4, _)] ⟨rfl, rfl, rfl, rfl, trivial⟩ ?_
  refine HQ.block ?_
  refine HQ.nil kTEntry 5 rfl ?_
  obtain ⟨o31, h36, H⟩ := bnd H
  refine HQ.loop h36 0 (fun (s : Int × (List TEntry)) (g : Option Addr × Nat) => match s, g with | (i11, l12), (a13, c14) => [(0, .slice a_0 (List.length p0) c_0), (2, BP b1 0), (3, BP b2 0), (4, .int .i64 i11)]) (fun (s : Int × (List TEntry)) (g : Option Addr × Nat) => match s, g with | (i11, l12), (a13, c14) => [(1, Box b1 [.bool false, .slice none 0 0]), (2, Box b2 [.bool true, .slice a13 (List.length l12) c14]), (5, OwnS kTEntry a13 c14 l12)]) (fun _ _ _ => False) (none, 0) ⟨rfl, rfl, rfl, rfl, trivial⟩ ⟨rfl, rfl, rfl, trivial⟩ rfl ?_ ?_ ?_
  · clear H h36
    rintro ⟨i11, l12⟩ ⟨a13, c14⟩ o H
    rw [spec_LeafOf_b0] at H
    refine HQ.keep [(0, _), (2, _), (3, _), (4, _)] ⟨rfl, rfl, rfl, rfl, trivial⟩ ?_
    refine HQ.keepR [(1, _), (2, _), (5, _)] ⟨rfl, rfl, rfl, trivial⟩ rfl ?_
    refine HQ.seq ?_
    refine HQ.rseq ?_
    refine HQ.pu Pu.move ⟨rfl, trivial⟩ rfl rfl rfl ?_
    refine HQ.pu Pu.move ⟨rfl, trivial⟩ rfl rfl rfl ?_
    refine HQ.pu (Pu.len ul153) ⟨rfl, trivial⟩ rfl rfl rfl ?_
    refine HQ.pu Pu.lss ⟨rfl, rfl, trivial⟩ rfl rfl rfl ?_
    refine HQ.done ?_
    refine HQ.keep [(0, _), (2, _), (3, _), (4, _), (9, _)] ⟨rfl, rfl, rfl, rfl, rfl, trivial⟩ ?_
    rcases brk H with ⟨hc, H⟩ | ⟨hc, H⟩
    · refine HQ.condT rfl hc ?_
      clear hc
      refine HQ.skipThen ?_
      refine HQ.seq ?_
      refine HQ.block ?_
      obtain ⟨h24, H⟩ := asr H
      obtain ⟨h25, H⟩ := asr H
      refine HQ.draw mixd [(0, .slice a_0 (List.length p0) c_0), (2, BP b1 0), (3, BP b2 0), (4, .int .i64 i11)] 14 [⟨[], [], []⟩, ⟨[0], [0], [0]⟩, ⟨[], [], []⟩, ⟨[], [], []⟩, ⟨[], [], [2, 3]⟩, ⟨[], [], [4]⟩, ⟨[], [], [5]⟩, ⟨[], [], []⟩, ⟨[], [], []⟩, ⟨[], [], [7, 8]⟩, ⟨[], [], [9]⟩, ⟨[], [], [10]⟩, ⟨[], [], [6, 11]⟩, ⟨[], [1], [12]⟩] [⟨none, none⟩, ⟨some 13, none⟩] (fun (g23 : (Option Addr × Nat)) => [BP b2 1, .slice a13 (List.length l12) c14, .slice a_0 (List.length p0) c_0, .int .i64 i11, EP a_0 i11 5 0, EP a_0 i11 5 0, .int .i64 ((gt p0 i11).Id), .slice a_0 (List.length p0) c_0, .int .i64 i11, EP a_0 i11 5 0, EP a_0 i11 5 1, .agg #[.int .i64 ((gt p0 i11).R.X0), .int .i64 ((gt p0 i11).R.Y0), .int .i64 ((gt p0 i11).R.X1), .int .i64 ((gt p0 i11).R.Y1)], .agg #[.int .i64 ((gt p0 i11).Id), .int .i64 ((gt p0 i11).R.X0), .int .i64 ((gt p0 i11).R.Y0), .int .i64 ((gt p0 i11).R.X1), .int .i64 ((gt p0 i11).R.Y1)], .slice g23.1 (List.length ([(⟨(gt p0 i11).Id, (gt p0 i11).R⟩ : TEntry)] : (List TEntry))) g23.2]) (fun (g23 : (Option Addr × Nat)) => [Box b2 [.bool true, .slice a13 (List.length l12) c14], OwnS kTEntry g23.1 g23.2 ([(⟨(gt p0 i11).Id, (gt p0 i11).R⟩ : TEntry)] : (List TEntry))]) (none, 0) [2] [2, 7] [] ⟨rfl, rfl, rfl, rfl, trivial⟩ ⟨rfl, trivial⟩ rfl (by kernel_rfl) (fun _ => rfl) (by kernel_rfl) (fun _ => rfl) ⟨?_, ?_, ?_, ?_, ?_, ?_, ?_, ?_, ?_, ?_, ?_, ?_, ?_, ?_, trivial⟩ fun g23 => ?_
      · exact OpOK.of (fun g23 => [(.tmp 3, BP b2 0)]) _ _ (fun g23 _ => g23) rfl rfl (fun _ => ⟨rfl, trivial⟩) (fun g23 => Pu.toOT (Pu.fieldB fo47_1 rfl)) (fun _ _ => ⟨rfl, rfl, ⟨rfl, rfl, trivial⟩⟩)
      · exact OpOK.of (fun g23 => [(.tmp 12, BP b2 1)]) _ _ (fun g23 _ => g23) rfl rfl (fun _ => ⟨rfl, trivial⟩) (fun g23 => OT.loadB sc45 rfl) (fun _ _ => ⟨rfl, rfl, ⟨rfl, rfl, trivial⟩⟩)
      · exact OpOK.of (fun g23 => [(.tmp 0, .slice a_0 (List.length p0) c_0)]) _ _ (fun g23 _ => g23) rfl rfl (fun _ => ⟨rfl, trivial⟩) (fun g23 => Pu.toOT Pu.move) (fun _ _ => ⟨rfl, rfl, ⟨rfl, rfl, trivial⟩⟩)
      · exact OpOK.of (fun g23 => [(.tmp 4, .int .i64 i11)]) _ _ (fun g23 _ => g23) rfl rfl (fun _ => ⟨rfl, trivial⟩) (fun g23 => Pu.toOT Pu.move) (fun _ _ => ⟨rfl, rfl, ⟨rfl, rfl, trivial⟩⟩)
      · exact OpOK.of (fun g23 => [(.tmp 14, .slice a_0 (List.length p0) c_0), (.tmp 15, .int .i64 i11)]) _ _ (fun g23 _ => g23) rfl rfl (fun _ => ⟨rfl, rfl, trivial⟩) (fun g23 => OT.indexB ul153 sz158 hb_0 h24) (fun _ _ => ⟨rfl, rfl, ⟨rfl, rfl, trivial⟩⟩)
      · exact OpOK.of (fun g23 => [(.tmp 16, EP a_0 i11 5 0)]) _ _ (fun g23 _ => g23) rfl rfl (fun _ => ⟨rfl, trivial⟩) (fun g23 => Pu.toOT (Pu.fieldE fo158_0 rfl)) (fun _ _ => ⟨rfl, rfl, ⟨rfl, rfl, trivial⟩⟩)
      · exact OpOK.of (fun g23 => [(.tmp 17, EP a_0 i11 5 0)]) _ _ (fun g23 _ => g23) rfl rfl (fun _ => ⟨rfl, trivial⟩) (fun g23 => OT.loadF sc3 hb_0 h24 rfl) (fun _ _ => ⟨rfl, rfl, ⟨rfl, rfl, trivial⟩⟩)
      · exact OpOK.of (fun g23 => [(.tmp 0, .slice a_0 (List.length p0) c_0)]) _ _ (fun g23 _ => g23) rfl rfl (fun _ => ⟨rfl, trivial⟩) (fun g23 => Pu.toOT Pu.move) (fun _ _ => ⟨rfl, rfl, ⟨rfl, rfl, trivial⟩⟩)
      · exact OpOK.of (fun g23 => [(.tmp 4, .int .i64 i11)]) _ _ (fun g23 _ => g23) rfl rfl (fun _ => ⟨rfl, trivial⟩) (fun g23 => Pu.toOT Pu.move) (fun _ _ => ⟨rfl, rfl, ⟨rfl, rfl, trivial⟩⟩)
      · exact OpOK.of (fun g23 => [(.tmp 19, .slice a_0 (List.length p0) c_0), (.tmp 20, .int .i64 i11)]) _ _ (fun g23 _ => g23) rfl rfl (fun _ => ⟨rfl, rfl, trivial⟩) (fun g23 => OT.indexB ul153 sz158 hb_0 h25) (fun _ _ => ⟨rfl, rfl, ⟨rfl, rfl, trivial⟩⟩)
      · exact OpOK.of (fun g23 => [(.tmp 21, EP a_0 i11 5 0)]) _ _ (fun g23 _ => g23) rfl rfl (fun _ => ⟨rfl, trivial⟩) (fun g23 => Pu.toOT (Pu.fieldE fo158_1 rfl)) (fun _ _ => ⟨rfl, rfl, ⟨rfl, rfl, trivial⟩⟩)
      · exact OpOK.of (fun g23 => [(.tmp 22, EP a_0 i11 5 1)]) _ _ (fun g23 _ => g23) rfl rfl (fun _ => ⟨rfl, trivial⟩) (fun g23 => OT.loadFA (vs := [.int .i64 ((gt p0 i11).R.X0), .int .i64 ((gt p0 i11).R.Y0), .int .i64 ((gt p0 i11).R.X1), .int .i64 ((gt p0 i11).R.Y1)]) ag132 sz132 hb_0 h25 rfl rfl) (fun _ _ => ⟨rfl, rfl, ⟨rfl, rfl, trivial⟩⟩)
      · exact OpOK.of (fun g23 => [(.tmp 18, .int .i64 ((gt p0 i11).Id)), (.tmp 23, .agg #[.int .i64 ((gt p0 i11).R.X0), .int .i64 ((gt p0 i11).R.Y0), .int .i64 ((gt p0 i11).R.X1), .int .i64 ((gt p0 i11).R.Y1)])]) _ _ (fun g23 _ => g23) rfl rfl (fun _ => ⟨rfl, rfl, trivial⟩) (fun g23 => Pu.toOT (Pu.build (us := [.int .i64 ((gt p0 i11).Id), .agg #[.int .i64 ((gt p0 i11).R.X0), .int .i64 ((gt p0 i11).R.Y0), .int .i64 ((gt p0 i11).R.X1), .int .i64 ((gt p0 i11).R.Y1)]]) (cs := [.int .i64 ((gt p0 i11).Id), .int .i64 ((gt p0 i11).R.X0), .int .i64 ((gt p0 i11).R.Y0), .int .i64 ((gt p0 i11).R.X1), .int .i64 ((gt p0 i11).R.Y1)]) [(0, .tmp 18), (1, .tmp 23)] st134 rfl rfl rfl)) (fun _ _ => ⟨rfl, rfl, ⟨rfl, rfl, trivial⟩⟩)
      · exact OpOK.of (fun g23 => [(.tmp 24, .agg #[.int .i64 ((gt p0 i11).Id), .int .i64 ((gt p0 i11).R.X0), .int .i64 ((gt p0 i11).R.Y0), .int .i64 ((gt p0 i11).R.X1), .int .i64 ((gt p0 i11).R.Y1)])]) _ _ (fun g23 x => x) rfl rfl (fun _ => ⟨rfl, trivial⟩) (fun g23 => OT.buildF (us := [.agg #[.int .i64 ((gt p0 i11).Id), .int .i64 ((gt p0 i11).R.X0), .int .i64 ((gt p0 i11).R.Y0), .int .i64 ((gt p0 i11).R.X1), .int .i64 ((gt p0 i11).R.Y1)]]) (ys := ([(⟨(gt p0 i11).Id, (gt p0 i11).R⟩ : TEntry)] : (List TEntry))) (enc := encTEntry) (hl := fun _ => ⟨rfl, rfl⟩) [.tmp 24] sl45.ul sl45.szE sl45.zc rfl rfl rfl rfl rfl) (fun _ _ => ⟨rfl, rfl, ⟨rfl, rfl, trivial⟩⟩)
      refine HQ.keep [(0, _), (2, _), (3, _), (4, _), (13, _), (25, _)] ⟨rfl, rfl, rfl, rfl, rfl, rfl, trivial⟩ ?_
      refine HQ.keepR [(1, _), (2, _), (5, _), (7, _)] ⟨rfl, rfl, rfl, rfl, trivial⟩ rfl ?_
      obtain ⟨h30, H⟩ := asr H
      refine HQ.op [5, 7] [5, 7] (OT.appendG (enc := encTEntry) (hl := fun _ => ⟨rfl, rfl⟩) sl45 ul45 h30) ⟨rfl, rfl, trivial⟩ ⟨rfl, rfl, trivial⟩ rfl rfl rfl rfl (fun _ => rfl) fun ⟨a28, c29⟩ => ?_
      refine HQ.pu (Pu.fieldB fo47_1 rfl) ⟨rfl, trivial⟩ rfl rfl rfl ?_
      refine HQ.opN [2] [2] [] (OT.storeC (cs' := [.bool true, .slice a28 (List.length (l12 ++ ([(⟨(gt p0 i11).Id, (gt p0 i11).R⟩ : TEntry)] : (List TEntry)))) c29]) sz45 rfl rfl rfl rfl rfl) ⟨rfl, rfl, trivial⟩ ⟨rfl, trivial⟩ rfl rfl rfl (fun _ => rfl) fun _ => ?_
      refine HQ.done ?_
      refine HQ.keep [(0, _), (2, _), (3, _), (4, _)] ⟨rfl, rfl, rfl, rfl, trivial⟩ ?_
      refine HQ.blkN ?_
      refine HQ.thenN ?_
      refine HQ.regionQ ?_
      refine HQ.pu Pu.move ⟨rfl, trivial⟩ rfl rfl rfl ?_
      refine HQ.pu Pu.add ⟨rfl, rfl, trivial⟩ rfl rfl rfl ?_
      refine HQ.pu Pu.assign ⟨rfl, trivial⟩ rfl rfl rfl ?_
      refine HQ.done ?_
      refine HQ.keep [(0, _), (2, _), (3, _), (4, _)] ⟨rfl, rfl, rfl, rfl, trivial⟩ ?_
      obtain rfl := Option.some.inj H
      exact HQ.next (a28, c29) ⟨rfl, rfl, rfl, rfl, trivial⟩ ⟨rfl, rfl, rfl, trivial⟩ rfl
    · refine HQ.condF rfl hc ?_
      clear hc
      refine HQ.exit ?_
      refine HQ.thenE ?_
      obtain rfl := Option.some.inj H
      exact HQ.out (a13, c14) ⟨rfl, rfl, rfl, rfl, trivial⟩ ⟨rfl, rfl, rfl, trivial⟩ rfl
  · rintro ⟨i32, l33⟩ rfl ⟨a34, c35⟩
    clear h36
    replace H := H
    refine HQ.keep [(0, _), (2, _), (3, _), (4, _)] ⟨rfl, rfl, rfl, rfl, trivial⟩ ?_
    refine HQ.keepR [(1, _), (2, _), (5, _)] ⟨rfl, rfl, rfl, trivial⟩ rfl ?_
    refine HQ.blkE ?_
    refine HQ.thenN ?_
    refine HQ.rseq ?_
    refine HQ.op [2] [2] (OT.loadBA (vs := [.bool true, .slice a34 (List.length l33) c35]) ag47 sz47 rfl rfl) ⟨rfl, trivial⟩ ⟨rfl, trivial⟩ rfl rfl rfl rfl (fun _ => rfl) fun _ => ?_
    refine HQ.opN [1] [1] [] (OT.storeC (cs' := [.bool true, .slice a34 (List.length l33) c35]) sz47 rfl rfl rfl rfl rfl) ⟨rfl, rfl, trivial⟩ ⟨rfl, trivial⟩ rfl rfl rfl (fun _ => rfl) fun _ => ?_
    refine HQ.done ?_
    refine HQ.keep [(2, _)] ⟨rfl, trivial⟩ ?_
    refine HQ.ret ?_
    obtain rfl := Option.some.inj H
    exact HQ.fin (vs := [_]) Try.results137 (a34, c35) ⟨⟨_, _, 1, rfl, rfl, ag47, sz47, rfl⟩, trivial⟩ rfl [5] ⟨rfl, trivial⟩ rfl
  · exact fun r h a w hf => hf.elim

/-! spec.l5Draw -/
theorem spec_l5Draw_c {w : World} {k : Nat} {p0 : TCur} {β_0 : Nat} {a_0 : Option Addr} {c_0 : Nat} {F0 : Fp} (hs0 : Sat [Box β_0 [.slice a_0 (List.length p0.b) c_0, .int .i64 p0.i, .int .i64 p0.h]] w.heap F0) (hF0 : ∀ b, F0 b → b < w.heap.size) (hb_0 : BorS kU8 a_0 c_0 p0.b w.heap (Lt w F0)) {r : TNode × TCur} (H : spec_l5Draw k p0 = some r) :
    Calls Try.prog 124 #[BP β_0 0] w (Rt w F0 (fun g : Option Addr × Nat => .agg #[.bool r.1.Leaf, .slice g.1 (List.length r.1.L) g.2]) (fun g => [OwnS kTEntry g.1 g.2 r.1.L, Box β_0 [.slice a_0 (List.length p0.b) c_0, .int .i64 r.2.i, .int .i64 r.2.h]])) := by
  rw [spec_l5Draw] at H
  refine Calls.enter (N := 18) (us := [_]) (F0 := F0) (Γ0 := [(1, Box β_0 [.slice a_0 (List.length p0.b) c_0, .int .i64 p0.i, .int .i64 p0.h])]) Try.func124 rfl rfl rfl hs0 hF0 ?_
  refine HQ.rseq ?_
  refine HQ.op [] [2] (OT.alloc zc47) trivial trivial rfl rfl rfl rfl (fun _ => rfl) fun b1 => ?_
  refine HQ.done ?_
  refine HQ.keep [(0, _), (2, _)] ⟨rfl, rfl, trivial⟩ ?_
  refine HQ.rseq ?_
  refine HQ.pu Pu.move ⟨rfl, trivial⟩ rfl rfl rfl ?_
  obtain ⟨t2, h3, H⟩ := bnd H
  refine HQ.op [1] [3, 1] (OT.callM (us := [_, _]) (PreX := [Box β_0 [.slice a_0 (List.length p0.b) c_0, .int .i64 p0.i, .int .i64 p0.h]]) (PreL := []) [.tmp 5, .const (.int .i64 4)] Try.call136 rfl rfl fun w FX FL hs1 hF1 hs2 hF2 hp => spec_l4List_c (p0 := p0) (p1 := 4) hs1 hF1 (hb_0.passY hp) h3) ⟨rfl, rfl, rfl, trivial⟩ ⟨rfl, trivial⟩ rfl rfl rfl rfl (fun _ => rfl) fun ⟨a4, c5⟩ => ?_
  refine HQ.pu Pu.assign ⟨rfl, trivial⟩ rfl rfl rfl ?_
  refine HQ.done ?_
  refine HQ.keep [(0, _), (2, _), (3, _)] ⟨rfl, rfl, rfl, trivial⟩ ?_
  refine HQ.rseq ?_
  refine HQ.pu Pu.move ⟨rfl, trivial⟩ rfl rfl rfl ?_
  obtain ⟨t6, h7, H⟩ := bnd H
  refine HQ.op [3] [4, 3] (OT.call (us := [_]) (Pre := [OwnS kTItem a4 c5 t2.1]) [.tmp 7] Try.call137 rfl rfl fun w F hs hF hp => spec_LeafOf_c (hs.lend hF 0 rfl) h7) ⟨rfl, rfl, trivial⟩ ⟨rfl, trivial⟩ rfl rfl rfl rfl (fun _ => rfl) fun ⟨a8, c9⟩ => ?_
  refine HQ.op [] [5] (OT.alloc zc47) trivial trivial rfl rfl rfl rfl (fun _ => rfl) fun b10 => ?_
  refine HQ.opN [5] [5] [] (OT.storeC (cs' := [.bool t6.Leaf, .slice a8 (List.length t6.L) c9]) sz47 rfl rfl rfl rfl rfl) ⟨rfl, rfl, trivial⟩ ⟨rfl, trivial⟩ rfl rfl rfl (fun _ => rfl) fun _ => ?_
  refine HQ.done ?_
  refine HQ.keep [(0, _), (2, _), (3, _), (4, _)] ⟨rfl, rfl, rfl, rfl, trivial⟩ ?_
  refine HQ.seq ?_
  refine HQ.rseq ?_
  refine HQ.pu Pu.move ⟨rfl, trivial⟩ rfl rfl rfl ?_
  refine HQ.pu (Pu.len ul153) ⟨rfl, trivial⟩ rfl rfl rfl ?_
  refine HQ.pu Pu.gtr ⟨rfl, rfl, trivial⟩ rfl rfl rfl ?_
  refine HQ.pu Pu.move ⟨rfl, trivial⟩ rfl rfl rfl ?_
  obtain ⟨c14, h15, H⟩ := bnd H
  refine HQ.cutAt 3 [(15, .bool c14.1), (2, BP b1 0), (4, BP b10 0)] [(1, Box β_0 [.slice a_0 (List.length p0.b) c_0, .int .i64 c14.2.1, .int .i64 c14.2.2]), (2, Box b1 [.bool false, .slice none 0 0]), (3, OwnS kTItem a4 c5 t2.1), (4, OwnS kTEntry a8 c9 t6.L), (5, Box b10 [.bool t6.Leaf, .slice a8 (List.length t6.L) c9])] ?_ ?_
  · clear H
    have H := h15
    rcases brk H with ⟨hg11, H⟩ | ⟨hg11, H⟩
    · refine HQ.on rfl rfl hg11 ?_
      refine HQ.pu Pu.move ⟨rfl, trivial⟩ rfl rfl rfl ?_
      refine HQ.on rfl rfl hg11 ?_
      obtain ⟨t12, h13, H⟩ := bnd H
      refine HQ.op [1] [1] (OT.callM (us := [_, _]) (PreX := [Box β_0 [.slice a_0 (List.length p0.b) c_0, .int .i64 t2.2.i, .int .i64 t2.2.h]]) (PreL := []) [.tmp 13, .const (.int .i64 3)] Try.call87 rfl rfl fun w FX FL hs1 hF1 hs2 hF2 hp => spec_l1Once_c (p0 := (⟨p0.b, t2.2.i, t2.2.h⟩ : TCur)) (p1 := 3) hs1 hF1 (hb_0.passY hp) h13) ⟨rfl, rfl, rfl, trivial⟩ ⟨rfl, trivial⟩ rfl rfl rfl rfl (fun _ => rfl) fun _ => ?_
      obtain rfl := Option.some.inj H
      refine HQ.pu (Pu.pickC1 hg11) ⟨rfl, rfl, trivial⟩ rfl rfl rfl ?_
      exact HQ.mid ⟨rfl, rfl, rfl, trivial⟩ ⟨rfl, rfl, rfl, rfl, rfl, trivial⟩ rfl
    · obtain rfl := Option.some.inj H
      refine HQ.off rfl rfl hg11 rfl ?_
      refine HQ.off rfl rfl hg11 rfl ?_
      refine HQ.pu (Pu.pickC0 hg11) ⟨rfl, rfl, trivial⟩ rfl rfl rfl ?_
      exact HQ.mid ⟨rfl, rfl, rfl, trivial⟩ ⟨rfl, rfl, rfl, rfl, rfl, trivial⟩ rfl
  refine HQ.done ?_
  refine HQ.keep [(15, _), (2, _), (4, _)] ⟨rfl, rfl, rfl, trivial⟩ ?_
  rcases brk H with ⟨hc, H⟩ | ⟨hc, H⟩
  · refine HQ.condT rfl hc ?_
    clear hc
    refine HQ.region ?_
    refine HQ.pu (Pu.fieldB fo47_0 rfl) ⟨rfl, trivial⟩ rfl rfl rfl ?_
    refine HQ.opN [5] [5] [] (OT.storeC (cs' := [.bool false, .slice a8 (List.length t6.L) c9]) sz4 rfl rfl rfl rfl rfl) ⟨rfl, rfl, trivial⟩ ⟨rfl, trivial⟩ rfl rfl rfl (fun _ => rfl) fun _ => ?_
    refine HQ.done ?_
    refine HQ.keep [(2, _), (4, _)] ⟨rfl, rfl, trivial⟩ ?_
    refine HQ.rseq ?_
    refine HQ.op [5] [5] (OT.loadBA (vs := [.bool false, .slice a8 (List.length t6.L) c9]) ag47 sz47 rfl rfl) ⟨rfl, trivial⟩ ⟨rfl, trivial⟩ rfl rfl rfl rfl (fun _ => rfl) fun _ => ?_
    refine HQ.opN [2] [2] [] (OT.storeC (cs' := [.bool false, .slice a8 (List.length t6.L) c9]) sz47 rfl rfl rfl rfl rfl) ⟨rfl, rfl, trivial⟩ ⟨rfl, trivial⟩ rfl rfl rfl (fun _ => rfl) fun _ => ?_
    refine HQ.done ?_
    refine HQ.keep [(2, _)] ⟨rfl, trivial⟩ ?_
    refine HQ.ret ?_
    obtain rfl := Option.some.inj H
    exact HQ.fin (vs := [_]) Try.results124 (a8, c9) ⟨⟨_, _, 2, rfl, rfl, ag47, sz47, rfl⟩, trivial⟩ rfl [4, 1] ⟨rfl, rfl, trivial⟩ rfl
  · refine HQ.condF rfl hc ?_
    clear hc
    refine HQ.skipThen ?_
    refine HQ.rseq ?_
    refine HQ.op [5] [5] (OT.loadBA (vs := [.bool t6.Leaf, .slice a8 (List.length t6.L) c9]) ag47 sz47 rfl rfl) ⟨rfl, trivial⟩ ⟨rfl, trivial⟩ rfl rfl rfl rfl (fun _ => rfl) fun _ => ?_
    refine HQ.opN [2] [2] [] (OT.storeC (cs' := [.bool t6.Leaf, .slice a8 (List.length t6.L) c9]) sz47 rfl rfl rfl rfl rfl) ⟨rfl, rfl, trivial⟩ ⟨rfl, trivial⟩ rfl rfl rfl (fun _ => rfl) fun _ => ?_
    refine HQ.done ?_
    refine HQ.keep [(2, _)] ⟨rfl, trivial⟩ ?_
    refine HQ.ret ?_
    obtain rfl := Option.some.inj H
    exact HQ.fin (vs := [_]) Try.results124 (a8, c9) ⟨⟨_, _, 2, rfl, rfl, ag47, sz47, rfl⟩, trivial⟩ rfl [4, 1] ⟨rfl, rfl, trivial⟩ rfl

/-! spec.l1Odd -/
theorem spec_l1Odd_c {w : World} {p0 : TCur} {β_0 : Nat} {a_0 : Option Addr} {c_0 : Nat} {F0 : Fp} (hs0 : Sat [Box β_0 [.slice a_0 (List.length p0.b) c_0, .int .i64 p0.i, .int .i64 p0.h]] w.heap F0) (hF0 : ∀ b, F0 b → b < w.heap.size) (hb_0 : BorS kU8 a_0 c_0 p0.b w.heap (Lt w F0)) {r : Int × TCur} (H : spec_l1Odd p0 = some r) :
    Calls Try.prog 144 #[BP β_0 0] w (Rt w F0 (fun _ : Unit => .int .i64 r.1) (fun _ => [Box β_0 [.slice a_0 (List.length p0.b) c_0, .int .i64 r.2.i, .int .i64 r.2.h]])) := by
  rw [spec_l1Odd] at H
  refine Calls.enter (N := 6) (us := [_]) (F0 := F0) (Γ0 := [(1, Box β_0 [.slice a_0 (List.length p0.b) c_0, .int .i64 p0.i, .int .i64 p0.h])]) Try.func144 rfl rfl rfl hs0 hF0 ?_
  refine HQ.rseq ?_
  refine HQ.pu Pu.assign ⟨rfl, trivial⟩ rfl rfl rfl ?_
  refine HQ.done ?_
  refine HQ.keep [(0, _), (2, _)] ⟨rfl, rfl, trivial⟩ ?_
  refine HQ.rseq ?_
  refine HQ.pu Pu.move ⟨rfl, trivial⟩ rfl rfl rfl ?_
  refine HQ.op [] [2] (OT.buildF (us := [.int .i64 (-1), .int .i64 0, .int .i64 1, .int .i64 2, .int .i64 255, .int .i64 256, .int .i64 65535, .int .i64 2147483647, .int .i64 2147483648, .int .i64 4294967295, .int .i64 4294967296, .int .i64 (-2147483648), .int .i64 9223372036854775807, .int .i64 (-9223372036854775808)]) (ys := ([(-1), 0, 1, 2, 255, 256, 65535, 2147483647, 2147483648, 4294967295, 4294967296, (-2147483648), 9223372036854775807, (-9223372036854775808)] : (List Int))) (enc := (encI .i64)) (hl := fun _ => ⟨rfl, rfl⟩) [.const (.int .i64 (-1)), .const (.int .i64 0), .const (.int .i64 1), .const (.int .i64 2), .const (.int .i64 255), .const (.int .i64 256), .const (.int .i64 65535), .const (.int .i64 2147483647), .const (.int .i64 2147483648), .const (.int .i64 4294967295), .const (.int .i64 4294967296), .const (.int .i64 (-2147483648)), .const (.int .i64 9223372036854775807), .const (.int .i64 (-9223372036854775808))] sl33.ul sl33.szE sl33.zc rfl rfl rfl rfl rfl) ⟨rfl, rfl, rfl, rfl, rfl, rfl, rfl, rfl, rfl, rfl, rfl, rfl, rfl, rfl, trivial⟩ trivial rfl rfl rfl rfl (fun _ => rfl) fun ⟨a1, c2⟩ => ?_
  obtain ⟨t3, h4, H⟩ := bnd H
  refine HQ.op [1, 2] [1, 2] (OT.callM (us := [_, _]) (PreX := [Box β_0 [.slice a_0 (List.length p0.b) c_0, .int .i64 p0.i, .int .i64 p0.h]]) (PreL := [OwnS kI a1 c2 ([(-1), 0, 1, 2, 255, 256, 65535, 2147483647, 2147483648, 4294967295, 4294967296, (-2147483648), 9223372036854775807, (-9223372036854775808)] : (List Int))]) [.tmp 3, .tmp 4] Try.call79 rfl rfl fun w FX FL hs1 hF1 hs2 hF2 hp => spec_l1Int_c (p0 := p0) (p1 := ([(-1), 0, 1, 2, 255, 256, 65535, 2147483647, 2147483648, 4294967295, 4294967296, (-2147483648), 9223372036854775807, (-9223372036854775808)] : (List Int))) hs1 hF1 (hb_0.passY hp) (hs2.lendY hF2 0 rfl) h4) ⟨rfl, rfl, rfl, trivial⟩ ⟨rfl, rfl, trivial⟩ rfl rfl rfl rfl (fun _ => rfl) fun _ => ?_
  refine HQ.pu Pu.assign ⟨rfl, trivial⟩ rfl rfl rfl ?_
  refine HQ.done ?_
  refine HQ.keep [(2, _)] ⟨rfl, trivial⟩ ?_
  refine HQ.ret ?_
  obtain rfl := Option.some.inj H
  exact HQ.fin (vs := [_]) Try.results144 () ⟨rfl, trivial⟩ rfl [1] ⟨rfl, trivial⟩ rfl

/-! spec.l1Raw -/
theorem spec_l1Raw_c {w : World} {p0 : TCur} {β_0 : Nat} {a_0 : Option Addr} {c_0 : Nat} {F0 : Fp} (hs0 : Sat [Box β_0 [.slice a_0 (List.length p0.b) c_0, .int .i64 p0.i, .int .i64 p0.h]] w.heap F0) (hF0 : ∀ b, F0 b → b < w.heap.size) (hb_0 : BorS kU8 a_0 c_0 p0.b w.heap (Lt w F0)) {r : Int × TCur} (H : spec_l1Raw p0 = some r) :
    Calls Try.prog 142 #[BP β_0 0] w (Rt w F0 (fun _ : Unit => .int .i64 r.1) (fun _ => [Box β_0 [.slice a_0 (List.length p0.b) c_0, .int .i64 r.2.i, .int .i64 r.2.h]])) := by
  rw [spec_l1Raw] at H
  refine Calls.enter (N := 10) (us := [_]) (F0 := F0) (Γ0 := [(1, Box β_0 [.slice a_0 (List.length p0.b) c_0, .int .i64 p0.i, .int .i64 p0.h])]) Try.func142 rfl rfl rfl hs0 hF0 ?_
  refine HQ.rseq ?_
  refine HQ.pu Pu.assign ⟨rfl, trivial⟩ rfl rfl rfl ?_
  refine HQ.done ?_
  refine HQ.keep [(0, _), (2, _)] ⟨rfl, rfl, trivial⟩ ?_
  refine HQ.seq ?_
  refine HQ.rseq ?_
  refine HQ.pu Pu.move ⟨rfl, trivial⟩ rfl rfl rfl ?_
  obtain ⟨t1, h2, H⟩ := bnd H
  refine HQ.op [1] [1] (OT.callM (us := [_, _]) (PreX := [Box β_0 [.slice a_0 (List.length p0.b) c_0, .int .i64 p0.i, .int .i64 p0.h]]) (PreL := []) [.tmp 3, .const (.int .i64 2)] Try.call87 rfl rfl fun w FX FL hs1 hF1 hs2 hF2 hp => spec_l1Once_c (p0 := p0) (p1 := 2) hs1 hF1 (hb_0.passY hp) h2) ⟨rfl, rfl, rfl, trivial⟩ ⟨rfl, trivial⟩ rfl rfl rfl rfl (fun _ => rfl) fun _ => ?_
  refine HQ.done ?_
  refine HQ.keep [(0, _), (2, _), (4, _)] ⟨rfl, rfl, rfl, trivial⟩ ?_
  rcases brk H with ⟨hc, H⟩ | ⟨hc, H⟩
  · refine HQ.condT rfl hc ?_
    clear hc
    refine HQ.rseq ?_
    refine HQ.pu Pu.move ⟨rfl, trivial⟩ rfl rfl rfl ?_
    obtain ⟨t3, h4, H⟩ := bnd H
    refine HQ.op [1] [1] (OT.callM (us := [_]) (PreX := [Box β_0 [.slice a_0 (List.length p0.b) c_0, .int .i64 t1.2.i, .int .i64 t1.2.h]]) (PreL := []) [.tmp 5] Try.call144 rfl rfl fun w FX FL hs1 hF1 hs2 hF2 hp => spec_l1Odd_c (p0 := (⟨p0.b, t1.2.i, t1.2.h⟩ : TCur)) hs1 hF1 (hb_0.passY hp) h4) ⟨rfl, rfl, trivial⟩ ⟨rfl, trivial⟩ rfl rfl rfl rfl (fun _ => rfl) fun _ => ?_
    refine HQ.pu Pu.assign ⟨rfl, trivial⟩ rfl rfl rfl ?_
    refine HQ.done ?_
    refine HQ.keep [(0, _), (2, _)] ⟨rfl, rfl, trivial⟩ ?_
    refine HQ.ret ?_
    refine HQ.thenR ?_
    obtain rfl := Option.some.inj H
    exact HQ.fin (vs := [_]) Try.results142 () ⟨rfl, trivial⟩ rfl [1] ⟨rfl, trivial⟩ rfl
  · refine HQ.condF rfl hc ?_
    clear hc
    refine HQ.skipThen ?_
    refine HQ.rseq ?_
    refine HQ.pu Pu.move ⟨rfl, trivial⟩ rfl rfl rfl ?_
    refine HQ.op [] [2] (OT.buildF (us := [.int .i64 (-1), .int .i64 0, .int .i64 1, .int .i64 4, .int .i64 255, .int .i64 256, .int .i64 65535, .int .i64 65536]) (ys := ([(-1), 0, 1, 4, 255, 256, 65535, 65536] : (List Int))) (enc := (encI .i64)) (hl := fun _ => ⟨rfl, rfl⟩) [.const (.int .i64 (-1)), .const (.int .i64 0), .const (.int .i64 1), .const (.int .i64 4), .const (.int .i64 255), .const (.int .i64 256), .const (.int .i64 65535), .const (.int .i64 65536)] sl33.ul sl33.szE sl33.zc rfl rfl rfl rfl rfl) ⟨rfl, rfl, rfl, rfl, rfl, rfl, rfl, rfl, trivial⟩ trivial rfl rfl rfl rfl (fun _ => rfl) fun ⟨a5, c6⟩ => ?_
    obtain ⟨t7, h8, H⟩ := bnd H
    refine HQ.op [1, 2] [1, 2] (OT.callM (us := [_, _]) (PreX := [Box β_0 [.slice a_0 (List.length p0.b) c_0, .int .i64 t1.2.i, .int .i64 t1.2.h]]) (PreL := [OwnS kI a5 c6 ([(-1), 0, 1, 4, 255, 256, 65535, 65536] : (List Int))]) [.tmp 7, .tmp 8] Try.call79 rfl rfl fun w FX FL hs1 hF1 hs2 hF2 hp => spec_l1Int_c (p0 := (⟨p0.b, t1.2.i, t1.2.h⟩ : TCur)) (p1 := ([(-1), 0, 1, 4, 255, 256, 65535, 65536] : (List Int))) hs1 hF1 (hb_0.passY hp) (hs2.lendY hF2 0 rfl) h8) ⟨rfl, rfl, rfl, trivial⟩ ⟨rfl, rfl, trivial⟩ rfl rfl rfl rfl (fun _ => rfl) fun _ => ?_
    refine HQ.pu Pu.assign ⟨rfl, trivial⟩ rfl rfl rfl ?_
    refine HQ.done ?_
    refine HQ.keep [(2, _)] ⟨rfl, trivial⟩ ?_
    refine HQ.ret ?_
    obtain rfl := Option.some.inj H
    exact HQ.fin (vs := [_]) Try.results142 () ⟨rfl, trivial⟩ rfl [1] ⟨rfl, trivial⟩ rfl

/-! spec.l2Any -/
theorem spec_l2Any_c {w : World} {p0 : TCur} {β_0 : Nat} {a_0 : Option Addr} {c_0 : Nat} {F0 : Fp} (hs0 : Sat [Box β_0 [.slice a_0 (List.length p0.b) c_0, .int .i64 p0.i, .int .i64 p0.h]] w.heap F0) (hF0 : ∀ b, F0 b → b < w.heap.size) (hb_0 : BorS kU8 a_0 c_0 p0.b w.heap (Lt w F0)) {r : TBox × TCur} (H : spec_l2Any p0 = some r) :
    Calls Try.prog 138 #[BP β_0 0] w (Rt w F0 (fun _ : Unit => .agg #[.int .i64 r.1.X0, .int .i64 r.1.Y0, .int .i64 r.1.X1, .int .i64 r.1.Y1]) (fun _ => [Box β_0 [.slice a_0 (List.length p0.b) c_0, .int .i64 r.2.i, .int .i64 r.2.h]])) := by
  rw [spec_l2Any] at H
  refine Calls.enter (N := 29) (us := [_]) (F0 := F0) (Γ0 := [(1, Box β_0 [.slice a_0 (List.length p0.b) c_0, .int .i64 p0.i, .int .i64 p0.h])]) Try.func138 rfl rfl rfl hs0 hF0 ?_
  refine HQ.rseq ?_
  refine HQ.op [] [2] (OT.alloc zc132) trivial trivial rfl rfl rfl rfl (fun _ => rfl) fun b1 => ?_
  refine HQ.done ?_
  refine HQ.keep [(0, _), (2, _)] ⟨rfl, rfl, trivial⟩ ?_
  refine HQ.rseq ?_
  refine HQ.pu Pu.move ⟨rfl, trivial⟩ rfl rfl rfl ?_
  obtain ⟨t2, h3, H⟩ := bnd H
  refine HQ.op [1] [1] (OT.callM (us := [_]) (PreX := [Box β_0 [.slice a_0 (List.length p0.b) c_0, .int .i64 p0.i, .int .i64 p0.h]]) (PreL := []) [.tmp 4] Try.call139 rfl rfl fun w FX FL hs1 hF1 hs2 hF2 hp => spec_l2Draw_c (p0 := p0) hs1 hF1 (hb_0.passY hp) h3) ⟨rfl, rfl, trivial⟩ ⟨rfl, trivial⟩ rfl rfl rfl rfl (fun _ => rfl) fun _ => ?_
  refine HQ.op [] [3] (OT.alloc zc132) trivial trivial rfl rfl rfl rfl (fun _ => rfl) fun b4 => ?_
  refine HQ.opN [3] [3] [] (OT.storeC (cs' := [.int .i64 t2.1.X0, .int .i64 t2.1.Y0, .int .i64 t2.1.X1, .int .i64 t2.1.Y1]) sz132 rfl rfl rfl rfl rfl) ⟨rfl, rfl, trivial⟩ ⟨rfl, trivial⟩ rfl rfl rfl (fun _ => rfl) fun _ => ?_
  refine HQ.done ?_
  refine HQ.keep [(0, _), (2, _), (3, _)] ⟨rfl, rfl, rfl, trivial⟩ ?_
  refine HQ.seq ?_
  refine HQ.rseq ?_
  refine HQ.pu Pu.move ⟨rfl, trivial⟩ rfl rfl rfl ?_
  obtain ⟨t5, h6, H⟩ := bnd H
  refine HQ.op [1] [1] (OT.callM (us := [_, _]) (PreX := [Box β_0 [.slice a_0 (List.length p0.b) c_0, .int .i64 t2.2.i, .int .i64 t2.2.h]]) (PreL := []) [.tmp 6, .const (.int .i64 12)] Try.call86 rfl rfl fun w FX FL hs1 hF1 hs2 hF2 hp => spec_l1Below_c (p0 := (⟨p0.b, t2.2.i, t2.2.h⟩ : TCur)) (p1 := 12) hs1 hF1 (hb_0.passY hp) h6) ⟨rfl, rfl, rfl, trivial⟩ ⟨rfl, trivial⟩ rfl rfl rfl rfl (fun _ => rfl) fun _ => ?_
  refine HQ.done ?_
  refine HQ.keep [(0, _), (2, _), (3, _), (7, _)] ⟨rfl, rfl, rfl, rfl, trivial⟩ ?_
  refine HQ.block ?_
  refine HQ.rseq ?_
  refine HQ.pu Pu.eql ⟨rfl, rfl, trivial⟩ rfl rfl rfl ?_
  refine HQ.pu Pu.assign ⟨rfl, trivial⟩ rfl rfl rfl ?_
  refine HQ.done ?_
  refine HQ.keep [(0, _), (2, _), (3, _), (7, _), (8, _)] ⟨rfl, rfl, rfl, rfl, rfl, trivial⟩ ?_
  rcases brk H with ⟨hc, H⟩ | ⟨hc, H⟩
  · refine HQ.condT rfl hc ?_
    clear hc
    refine HQ.regionQ ?_
    refine HQ.pu Pu.move ⟨rfl, trivial⟩ rfl rfl rfl ?_
    obtain ⟨t7, h8, H⟩ := bnd H
    refine HQ.op [1] [1] (OT.callM (us := [_]) (PreX := [Box β_0 [.slice a_0 (List.length p0.b) c_0, .int .i64 t5.2.i, .int .i64 t5.2.h]]) (PreL := []) [.tmp 10] Try.call142 rfl rfl fun w FX FL hs1 hF1 hs2 hF2 hp => spec_l1Raw_c (p0 := (⟨p0.b, t5.2.i, t5.2.h⟩ : TCur)) hs1 hF1 (hb_0.passY hp) h8) ⟨rfl, rfl, trivial⟩ ⟨rfl, trivial⟩ rfl rfl rfl rfl (fun _ => rfl) fun _ => ?_
    refine HQ.pu (Pu.fieldB fo132_0 rfl) ⟨rfl, trivial⟩ rfl rfl rfl ?_
    refine HQ.opN [3] [3] [] (OT.storeC (cs' := [.int .i64 t7.1, .int .i64 t2.1.Y0, .int .i64 t2.1.X1, .int .i64 t2.1.Y1]) sz3 rfl rfl rfl rfl rfl) ⟨rfl, rfl, trivial⟩ ⟨rfl, trivial⟩ rfl rfl rfl (fun _ => rfl) fun _ => ?_
    refine HQ.done ?_
    refine HQ.keep [(2, _), (3, _)] ⟨rfl, rfl, trivial⟩ ?_
    refine HQ.blkN ?_
    refine HQ.thenN ?_
    refine HQ.rseq ?_
    refine HQ.op [3] [3] (OT.loadBA (vs := [.int .i64 t7.1, .int .i64 t2.1.Y0, .int .i64 t2.1.X1, .int .i64 t2.1.Y1]) ag132 sz132 rfl rfl) ⟨rfl, trivial⟩ ⟨rfl, trivial⟩ rfl rfl rfl rfl (fun _ => rfl) fun _ => ?_
    refine HQ.opN [2] [2] [] (OT.storeC (cs' := [.int .i64 t7.1, .int .i64 t2.1.Y0, .int .i64 t2.1.X1, .int .i64 t2.1.Y1]) sz132 rfl rfl rfl rfl rfl) ⟨rfl, rfl, trivial⟩ ⟨rfl, trivial⟩ rfl rfl rfl (fun _ => rfl) fun _ => ?_
    refine HQ.done ?_
    refine HQ.keep [(2, _)] ⟨rfl, trivial⟩ ?_
    refine HQ.ret ?_
    obtain rfl := Option.some.inj H
    exact HQ.fin (vs := [_]) Try.results138 () ⟨⟨_, _, 2, rfl, rfl, ag132, sz132, rfl⟩, trivial⟩ rfl [1] ⟨rfl, trivial⟩ rfl
  · refine HQ.condF rfl hc ?_
    clear hc
    refine HQ.rseq ?_
    refine HQ.pu Pu.eql ⟨rfl, rfl, trivial⟩ rfl rfl rfl ?_
    refine HQ.pu Pu.assign ⟨rfl, trivial⟩ rfl rfl rfl ?_
    refine HQ.done ?_
    refine HQ.keep [(0, _), (2, _), (3, _), (7, _), (13, _)] ⟨rfl, rfl, rfl, rfl, rfl, trivial⟩ ?_
    rcases brk H with ⟨hc, H⟩ | ⟨hc, H⟩
    · refine HQ.condT rfl hc ?_
      clear hc
      refine HQ.regionQ ?_
      refine HQ.pu Pu.move ⟨rfl, trivial⟩ rfl rfl rfl ?_
      obtain ⟨t9, h10, H⟩ := bnd H
      refine HQ.op [1] [1] (OT.callM (us := [_]) (PreX := [Box β_0 [.slice a_0 (List.length p0.b) c_0, .int .i64 t5.2.i, .int .i64 t5.2.h]]) (PreL := []) [.tmp 15] Try.call142 rfl rfl fun w FX FL hs1 hF1 hs2 hF2 hp => spec_l1Raw_c (p0 := (⟨p0.b, t5.2.i, t5.2.h⟩ : TCur)) hs1 hF1 (hb_0.passY hp) h10) ⟨rfl, rfl, trivial⟩ ⟨rfl, trivial⟩ rfl rfl rfl rfl (fun _ => rfl) fun _ => ?_
      refine HQ.pu (Pu.fieldB fo132_3 rfl) ⟨rfl, trivial⟩ rfl rfl rfl ?_
      refine HQ.opN [3] [3] [] (OT.storeC (cs' := [.int .i64 t2.1.X0, .int .i64 t2.1.Y0, .int .i64 t2.1.X1, .int .i64 t9.1]) sz3 rfl rfl rfl rfl rfl) ⟨rfl, rfl, trivial⟩ ⟨rfl, trivial⟩ rfl rfl rfl (fun _ => rfl) fun _ => ?_
      refine HQ.done ?_
      refine HQ.keep [(2, _), (3, _)] ⟨rfl, rfl, trivial⟩ ?_
      refine HQ.blkN ?_
      refine HQ.thenN ?_
      refine HQ.rseq ?_
      refine HQ.op [3] [3] (OT.loadBA (vs := [.int .i64 t2.1.X0, .int .i64 t2.1.Y0, .int .i64 t2.1.X1, .int .i64 t9.1]) ag132 sz132 rfl rfl) ⟨rfl, trivial⟩ ⟨rfl, trivial⟩ rfl rfl rfl rfl (fun _ => rfl) fun _ => ?_
      refine HQ.opN [2] [2] [] (OT.storeC (cs' := [.int .i64 t2.1.X0, .int .i64 t2.1.Y0, .int .i64 t2.1.X1, .int .i64 t9.1]) sz132 rfl rfl rfl rfl rfl) ⟨rfl, rfl, trivial⟩ ⟨rfl, trivial⟩ rfl rfl rfl (fun _ => rfl) fun _ => ?_
      refine HQ.done ?_
      refine HQ.keep [(2, _)] ⟨rfl, trivial⟩ ?_
      refine HQ.ret ?_
      obtain rfl := Option.some.inj H
      exact HQ.fin (vs := [_]) Try.results138 () ⟨⟨_, _, 2, rfl, rfl, ag132, sz132, rfl⟩, trivial⟩ rfl [1] ⟨rfl, trivial⟩ rfl
    · refine HQ.condF rfl hc ?_
      clear hc
      refine HQ.rseq ?_
      refine HQ.pu Pu.eql ⟨rfl, rfl, trivial⟩ rfl rfl rfl ?_
      refine HQ.pu Pu.assign ⟨rfl, trivial⟩ rfl rfl rfl ?_
      refine HQ.done ?_
      refine HQ.keep [(2, _), (3, _), (7, _), (18, _)] ⟨rfl, rfl, rfl, rfl, trivial⟩ ?_
      rcases brk H with ⟨hc, H⟩ | ⟨hc, H⟩
      · refine HQ.condT rfl hc ?_
        clear hc
        refine HQ.regionQ ?_
        refine HQ.pu (Pu.fieldB fo132_0 rfl) ⟨rfl, trivial⟩ rfl rfl rfl ?_
        refine HQ.op [3] [3] (OT.loadB sc3 rfl) ⟨rfl, trivial⟩ ⟨rfl, trivial⟩ rfl rfl rfl rfl (fun _ => rfl) fun _ => ?_
        refine HQ.pu Pu.sub ⟨rfl, rfl, trivial⟩ rfl rfl rfl ?_
        refine HQ.pu (Pu.fieldB fo132_2 rfl) ⟨rfl, trivial⟩ rfl rfl rfl ?_
        refine HQ.opN [3] [3] [] (OT.storeC (cs' := [.int .i64 t2.1.X0, .int .i64 t2.1.Y0, .int .i64 (wrap64 (t2.1.X0 - 1)), .int .i64 t2.1.Y1]) sz3 rfl rfl rfl rfl rfl) ⟨rfl, rfl, trivial⟩ ⟨rfl, trivial⟩ rfl rfl rfl (fun _ => rfl) fun _ => ?_
        refine HQ.done ?_
        refine HQ.keep [(2, _), (3, _)] ⟨rfl, rfl, trivial⟩ ?_
        refine HQ.blkN ?_
        refine HQ.thenN ?_
        refine HQ.rseq ?_
        refine HQ.op [3] [3] (OT.loadBA (vs := [.int .i64 t2.1.X0, .int .i64 t2.1.Y0, .int .i64 (wrap64 (t2.1.X0 - 1)), .int .i64 t2.1.Y1]) ag132 sz132 rfl rfl) ⟨rfl, trivial⟩ ⟨rfl, trivial⟩ rfl rfl rfl rfl (fun _ => rfl) fun _ => ?_
        refine HQ.opN [2] [2] [] (OT.storeC (cs' := [.int .i64 t2.1.X0, .int .i64 t2.1.Y0, .int .i64 (wrap64 (t2.1.X0 - 1)), .int .i64 t2.1.Y1]) sz132 rfl rfl rfl rfl rfl) ⟨rfl, rfl, trivial⟩ ⟨rfl, trivial⟩ rfl rfl rfl (fun _ => rfl) fun _ => ?_
        refine HQ.done ?_
        refine HQ.keep [(2, _)] ⟨rfl, trivial⟩ ?_
        refine HQ.ret ?_
        obtain rfl := Option.some.inj H
        exact HQ.fin (vs := [_]) Try.results138 () ⟨⟨_, _, 2, rfl, rfl, ag132, sz132, rfl⟩, trivial⟩ rfl [1] ⟨rfl, trivial⟩ rfl
      · refine HQ.condF rfl hc ?_
        clear hc
        refine HQ.rseq ?_
        refine HQ.pu Pu.eql ⟨rfl, rfl, trivial⟩ rfl rfl rfl ?_
        refine HQ.pu Pu.assign ⟨rfl, trivial⟩ rfl rfl rfl ?_
        refine HQ.done ?_
        refine HQ.keep [(2, _), (3, _), (24, _)] ⟨rfl, rfl, rfl, trivial⟩ ?_
        rcases brk H with ⟨hc, H⟩ | ⟨hc, H⟩
        · refine HQ.condT rfl hc ?_
          clear hc
          refine HQ.rseq ?_
          refine HQ.pu (Pu.fieldB fo132_1 rfl) ⟨rfl, trivial⟩ rfl rfl rfl ?_
          refine HQ.opN [3] [3] [] (OT.storeC (cs' := [.int .i64 t2.1.X0, .int .i64 0, .int .i64 t2.1.X1, .int .i64 t2.1.Y1]) sz3 rfl rfl rfl rfl rfl) ⟨rfl, rfl, trivial⟩ ⟨rfl, trivial⟩ rfl rfl rfl (fun _ => rfl) fun _ => ?_
          refine HQ.done ?_
          refine HQ.keep [(2, _), (3, _)] ⟨rfl, rfl, trivial⟩ ?_
          refine HQ.regionQ ?_
          refine HQ.pu (Pu.fieldB fo132_3 rfl) ⟨rfl, trivial⟩ rfl rfl rfl ?_
          refine HQ.opN [3] [3] [] (OT.storeC (cs' := [.int .i64 t2.1.X0, .int .i64 0, .int .i64 t2.1.X1, .int .i64 255]) sz3 rfl rfl rfl rfl rfl) ⟨rfl, rfl, trivial⟩ ⟨rfl, trivial⟩ rfl rfl rfl (fun _ => rfl) fun _ => ?_
          refine HQ.done ?_
          refine HQ.keep [(2, _), (3, _)] ⟨rfl, rfl, trivial⟩ ?_
          refine HQ.blkN ?_
          refine HQ.thenN ?_
          refine HQ.rseq ?_
          refine HQ.op [3] [3] (OT.loadBA (vs := [.int .i64 t2.1.X0, .int .i64 0, .int .i64 t2.1.X1, .int .i64 255]) ag132 sz132 rfl rfl) ⟨rfl, trivial⟩ ⟨rfl, trivial⟩ rfl rfl rfl rfl (fun _ => rfl) fun _ => ?_
          refine HQ.opN [2] [2] [] (OT.storeC (cs' := [.int .i64 t2.1.X0, .int .i64 0, .int .i64 t2.1.X1, .int .i64 255]) sz132 rfl rfl rfl rfl rfl) ⟨rfl, rfl, trivial⟩ ⟨rfl, trivial⟩ rfl rfl rfl (fun _ => rfl) fun _ => ?_
          refine HQ.done ?_
          refine HQ.keep [(2, _)] ⟨rfl, trivial⟩ ?_
          refine HQ.ret ?_
          obtain rfl := Option.some.inj H
          exact HQ.fin (vs := [_]) Try.results138 () ⟨⟨_, _, 2, rfl, rfl, ag132, sz132, rfl⟩, trivial⟩ rfl [1] ⟨rfl, trivial⟩ rfl
        · refine HQ.condF rfl hc ?_
          clear hc
          refine HQ.skip ?_
          refine HQ.blkN ?_
          refine HQ.thenN ?_
          refine HQ.rseq ?_
          refine HQ.op [3] [3] (OT.loadBA (vs := [.int .i64 t2.1.X0, .int .i64 t2.1.Y0, .int .i64 t2.1.X1, .int .i64 t2.1.Y1]) ag132 sz132 rfl rfl) ⟨rfl, trivial⟩ ⟨rfl, trivial⟩ rfl rfl rfl rfl (fun _ => rfl) fun _ => ?_
          refine HQ.opN [2] [2] [] (OT.storeC (cs' := [.int .i64 t2.1.X0, .int .i64 t2.1.Y0, .int .i64 t2.1.X1, .int .i64 t2.1.Y1]) sz132 rfl rfl rfl rfl rfl) ⟨rfl, rfl, trivial⟩ ⟨rfl, trivial⟩ rfl rfl rfl (fun _ => rfl) fun _ => ?_
          refine HQ.done ?_
          refine HQ.keep [(2, _)] ⟨rfl, trivial⟩ ?_
          refine HQ.ret ?_
          obtain rfl := Option.some.inj H
          exact HQ.fin (vs := [_]) Try.results138 () ⟨⟨_, _, 2, rfl, rfl, ag132, sz132, rfl⟩, trivial⟩ rfl [1] ⟨rfl, trivial⟩ rfl

end Go.Proofs.Sx
