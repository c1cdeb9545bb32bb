import Derived.Test.YtkhommmhkeohbaaQcF1
import Derived.KernelRfl
namespace Go.Proofs.Sx
open Go.RowKit
set_option linter.unusedVariables false
set_option linter.unusedSimpArgs false
set_option maxRecDepth 20000
set_option maxHeartbeats 1000000
/-! slices.Clone(()byte,byte) -/
theorem slices_Clone_byte_byte_c {w : World} {p0 : (List Int)} {a_0 : Option Addr} {c_0 : Nat} (hb_0 : BorS kU8 a_0 c_0 p0 w.heap (Lt w Nil)) {r : (List Int)} (H : slices_Clone_byte_byte p0 = some r) :
    Calls Try.prog 88 #[.slice a_0 (List.length p0) c_0] w (Rt w Nil (fun g : Option Addr × Nat => .slice g.1 (List.length r) g.2) (fun g => [OwnS kU8 g.1 g.2 r])) := by
  rw [slices_Clone_byte_byte] at H
  obtain ⟨h5, H⟩ := asr H
  obtain rfl := Option.some.inj H
  refine Calls.enter0 (N := 8) (us := [_]) Try.func88 rfl rfl rfl ?_
  refine HQ.rseq ?_
  refine HQ.pu Pu.assign ⟨rfl, trivial⟩ rfl rfl rfl ?_
  refine HQ.done ?_
  refine HQ.seq ?_
  refine HQ.rseq ?_
  refine HQ.pu Pu.move ⟨rfl, trivial⟩ rfl rfl rfl ?_
  refine HQ.pu (Pu.eqlNil ul22) ⟨rfl, rfl, trivial⟩ rfl rfl rfl ?_
  refine HQ.done ?_
  cases a_0 with
  | none =>
    refine HQ.condT rfl rfl ?_
    have hp : p0 = [] := by
      rcases hb_0.2 with h | ⟨b, off, cs, ty, fz, h, _⟩
      · exact h
      · cases h
    subst hp
    refine HQ.rseq ?_
    refine HQ.pu Pu.assign ⟨rfl, trivial⟩ rfl rfl rfl ?_
    refine HQ.done ?_
    refine HQ.ret ?_
    refine HQ.thenR ?_
    refine HQ.nil kU8 1 rfl ?_
    exact HQ.fin (vs := [_]) Try.results88 (none, 0) ⟨rfl, trivial⟩ rfl [1] ⟨rfl, trivial⟩ rfl
  | some a =>
    refine HQ.condF rfl rfl ?_
    refine HQ.skipThen ?_
    refine HQ.rseq ?_
    refine HQ.op [] [1] (OT.buildF (us := []) (ys := ([] : (List Int))) (enc := (encI .u8)) (hl := fun _ => ⟨rfl, rfl⟩) [] sl22.ul sl22.szE sl22.zc rfl rfl rfl rfl rfl) trivial trivial rfl rfl rfl rfl (fun _ => rfl) fun ⟨a1, c2⟩ => ?_
    refine HQ.pu Pu.move ⟨rfl, trivial⟩ rfl rfl rfl ?_
    refine HQ.op [1] [1] (OT.appendF (enc := (encI .u8)) (hl := fun _ => ⟨rfl, rfl⟩) sl22 ul22 hb_0 (by simpa using h5)) ⟨rfl, rfl, trivial⟩ ⟨rfl, trivial⟩ rfl rfl rfl rfl (fun _ => rfl) fun ⟨a3, c4⟩ => ?_
    refine HQ.pu Pu.assign ⟨rfl, trivial⟩ rfl rfl rfl ?_
    refine HQ.done ?_
    refine HQ.ret ?_
    exact HQ.fin (vs := [_]) Try.results88 (a3, c4) ⟨rfl, trivial⟩ rfl [1] ⟨rfl, trivial⟩ rfl

/-! impl.Put2 -/
theorem impl_Put2_c {w : World} {p0 : (List Int)} {p1 : Int} {a_0 : Option Addr} {c_0 : Nat} (hb_0 : BorS kU8 a_0 c_0 p0 w.heap (Lt w Nil)) {r : (List Int)} (H : impl_Put2 p0 p1 = some r) :
    Calls Try.prog 97 #[.slice a_0 (List.length p0) c_0, .int .i64 p1] w (Rt w Nil (fun g : Option Addr × Nat => .slice g.1 (List.length r) g.2) (fun g => [OwnS kU8 g.1 g.2 r])) := by
  rw [impl_Put2] at H
  refine Calls.enter0 (N := 20) (us := [_, _]) Try.func97 rfl rfl rfl ?_
  refine HQ.rseq ?_
  refine HQ.pu Pu.assign ⟨rfl, trivial⟩ rfl rfl rfl ?_
  refine HQ.done ?_
  refine HQ.keep [(0, _), (1, _), (4, _)] ⟨rfl, rfl, rfl, trivial⟩ ?_
  refine HQ.rseq ?_
  refine HQ.pu Pu.move ⟨rfl, trivial⟩ rfl rfl rfl ?_
  obtain ⟨t1, h2, H⟩ := bnd H
  refine HQ.op [] [1] (OT.call (us := [_]) (Pre := []) [.tmp 6] Try.call88 rfl rfl fun w F hs hF hp => slices_Clone_byte_byte_c (hb_0.pass hp) h2) ⟨rfl, rfl, trivial⟩ trivial rfl rfl rfl rfl (fun _ => rfl) fun ⟨a3, c4⟩ => ?_
  refine HQ.pu Pu.assign ⟨rfl, trivial⟩ rfl rfl rfl ?_
  refine HQ.done ?_
  refine HQ.keep [(1, _), (4, _), (5, _)] ⟨rfl, rfl, rfl, trivial⟩ ?_
  refine HQ.seq ?_
  refine HQ.rseq ?_
  refine HQ.pu Pu.move ⟨rfl, trivial⟩ rfl rfl rfl ?_
  obtain ⟨t5, h6, H⟩ := bnd H
  refine HQ.op [] [] (OT.call (us := [_, _, _]) (Pre := []) [.tmp 8, .const (.int .i64 0), .const (.int .i64 65535)] Try.call83 rfl rfl fun w F hs hF hp => impl_in_c h6) ⟨rfl, rfl, rfl, rfl, trivial⟩ trivial rfl rfl rfl rfl (fun _ => rfl) fun _ => ?_
  refine HQ.pu Pu.not ⟨rfl, trivial⟩ rfl rfl rfl ?_
  refine HQ.done ?_
  refine HQ.keep [(1, _), (4, _), (5, _), (10, _)] ⟨rfl, rfl, rfl, rfl, trivial⟩ ?_
  rcases brk H with ⟨hc, H⟩ | ⟨hc, H⟩
  · refine HQ.condT rfl hc ?_
    clear hc
    refine HQ.rseq ?_
    refine HQ.pu Pu.move ⟨rfl, trivial⟩ rfl rfl rfl ?_
    refine HQ.pu Pu.assign ⟨rfl, trivial⟩ rfl rfl rfl ?_
    refine HQ.done ?_
    refine HQ.keep [(1, _), (4, _), (5, _)] ⟨rfl, rfl, rfl, trivial⟩ ?_
    refine HQ.ret ?_
    refine HQ.thenR ?_
    obtain rfl := Option.some.inj H
    exact HQ.fin (vs := [_]) Try.results97 (a3, c4) ⟨rfl, trivial⟩ rfl [1] ⟨rfl, trivial⟩ rfl
  · refine HQ.condF rfl hc ?_
    clear hc
    refine HQ.skipThen ?_
    refine HQ.rseq ?_
    refine HQ.pu Pu.move ⟨rfl, trivial⟩ rfl rfl rfl ?_
    refine HQ.pu Pu.move ⟨rfl, trivial⟩ rfl rfl rfl ?_
    refine HQ.pu (Pu.shr (by decide)) ⟨rfl, rfl, trivial⟩ rfl rfl rfl ?_
    refine HQ.pu (Pu.conv ul3 ul5) ⟨rfl, trivial⟩ rfl rfl rfl ?_
    refine HQ.pu Pu.move ⟨rfl, trivial⟩ rfl rfl rfl ?_
    refine HQ.pu (Pu.conv ul3 ul5) ⟨rfl, trivial⟩ rfl rfl rfl ?_
    refine HQ.op [] [2] (OT.buildF (us := [.int .u8 (IntKind.u8.wrap (Int.fdiv p1 (2 ^ (min (Int.toNat 8) 64)))), .int .u8 (IntKind.u8.wrap p1)]) (ys := ([(IntKind.u8.wrap (Int.fdiv p1 (2 ^ (min (Int.toNat 8) 64)))), (IntKind.u8.wrap p1)] : (List Int))) (enc := (encI .u8)) (hl := fun _ => ⟨rfl, rfl⟩) [.tmp 15, .tmp 17] sl22.ul sl22.szE sl22.zc rfl rfl rfl rfl rfl) ⟨rfl, rfl, trivial⟩ trivial rfl rfl rfl rfl (fun _ => rfl) fun ⟨a7, c8⟩ => ?_
    obtain ⟨h11, H⟩ := asr H
    refine HQ.op [1, 2] [1, 2] (OT.appendG (enc := (encI .u8)) (hl := fun _ => ⟨rfl, rfl⟩) sl22 ul22 h11) ⟨rfl, rfl, trivial⟩ ⟨rfl, rfl, trivial⟩ rfl rfl rfl rfl (fun _ => rfl) fun ⟨a9, c10⟩ => ?_
    refine HQ.pu Pu.assign ⟨rfl, trivial⟩ rfl rfl rfl ?_
    refine HQ.done ?_
    refine HQ.keep [(4, _)] ⟨rfl, trivial⟩ ?_
    refine HQ.ret ?_
    obtain rfl := Option.some.inj H
    exact HQ.fin (vs := [_]) Try.results97 (a9, c10) ⟨rfl, trivial⟩ rfl [1] ⟨rfl, trivial⟩ rfl

/-! impl.HeadCell -/
theorem impl_HeadCell_c {w : World} {p0 : THead}   {r : (List Int)} (H : impl_HeadCell p0 = some r) :
    Calls Try.prog 40 #[.agg #[.int .i64 p0.Epoch, .int .i64 p0.Seq, .int .i64 p0.Root, .int .i64 p0.Size]] w (Rt w Nil (fun g : Option Addr × Nat => .slice g.1 (List.length r) g.2) (fun g => [OwnS kU8 g.1 g.2 r])) := by
  rw [impl_HeadCell] at H
  refine Calls.enter0 (N := 21) (us := [_]) Try.func40 rfl rfl rfl ?_
  refine HQ.rseq ?_
  refine HQ.op [] [1] (OT.box (cs := [.int .i64 p0.Epoch, .int .i64 p0.Seq, .int .i64 p0.Root, .int .i64 p0.Size]) rfl) ⟨rfl, trivial⟩ trivial rfl rfl rfl rfl (fun _ => rfl) fun b1 => ?_
  refine HQ.pu Pu.assign ⟨rfl, trivial⟩ rfl rfl rfl ?_
  refine HQ.done ?_
  refine HQ.keep [(1, _), (2, _)] ⟨rfl, rfl, trivial⟩ ?_
  refine HQ.seq ?_
  refine HQ.rseq ?_
  refine HQ.op [1] [1] (OT.loadBA (vs := [.int .i64 p0.Epoch, .int .i64 p0.Seq, .int .i64 p0.Root, .int .i64 p0.Size]) ag68 sz68 rfl rfl) ⟨rfl, trivial⟩ ⟨rfl, trivial⟩ rfl rfl rfl rfl (fun _ => rfl) fun _ => ?_
  obtain ⟨t2, h3, H⟩ := bnd H
  refine HQ.op [] [] (OT.call (us := [_]) (Pre := []) [.tmp 3] Try.call49 rfl rfl fun w F hs hF hp => impl_HeadOk_c h3) ⟨rfl, rfl, trivial⟩ trivial rfl rfl rfl rfl (fun _ => rfl) fun _ => ?_
  refine HQ.pu Pu.not ⟨rfl, trivial⟩ rfl rfl rfl ?_
  refine HQ.done ?_
  refine HQ.keep [(1, _), (2, _), (5, _)] ⟨rfl, rfl, rfl, trivial⟩ ?_
  rcases brk H with ⟨hc, H⟩ | ⟨hc, H⟩
  · refine HQ.condT rfl hc ?_
    clear hc
    refine HQ.rseq ?_
    refine HQ.pu Pu.assign ⟨rfl, trivial⟩ rfl rfl rfl ?_
    refine HQ.done ?_
    refine HQ.keep [(1, _), (2, _)] ⟨rfl, rfl, trivial⟩ ?_
    refine HQ.ret ?_
    refine HQ.thenR ?_
    obtain rfl := Option.some.inj H
    refine HQ.nil kU8 2 rfl ?_
    exact HQ.fin (vs := [_]) Try.results40 (none, 0) ⟨rfl, trivial⟩ rfl [2] ⟨rfl, trivial⟩ rfl
  · refine HQ.condF rfl hc ?_
    clear hc
    refine HQ.skipThen ?_
    obtain ⟨t7, h8, H⟩ := bnd H
    obtain ⟨t11, h12, H⟩ := bnd H
    refine HQ.drawS mixd [(1, BP b1 0), (2, .slice none 0 0)] 14 [⟨[], [0], []⟩, ⟨[], [], []⟩, ⟨[1], [1], [1]⟩, ⟨[0], [2, 0], [0, 2]⟩, ⟨[], [], []⟩, ⟨[1], [1], [4]⟩, ⟨[2], [3, 2], [3, 5]⟩, ⟨[], [], []⟩, ⟨[1], [1], [7]⟩, ⟨[], [], [8]⟩, ⟨[], [], []⟩, ⟨[1], [1], [10]⟩, ⟨[], [], [11]⟩, ⟨[], [4], [9, 12]⟩] [⟨some 0, none⟩, ⟨none, none⟩, ⟨some 3, none⟩, ⟨some 6, none⟩, ⟨some 13, none⟩] (fun (g4 : (Option Addr × Nat) × (Option Addr × Nat) × (Option Addr × Nat) × (Option Addr × Nat)) => [.slice g4.1.1 (List.length ([3] : (List Int))) g4.1.2, BP b1 0, .int .i64 p0.Epoch, .slice g4.2.1.1 (List.length t7) g4.2.1.2, BP b1 1, .int .i64 p0.Seq, .slice g4.2.2.1.1 (List.length t11) g4.2.2.1.2, BP b1 2, .int .i64 p0.Root, .int .u8 (IntKind.u8.wrap p0.Root), BP b1 3, .int .i64 p0.Size, .int .u8 (IntKind.u8.wrap p0.Size), .slice g4.2.2.2.1 (List.length ([(IntKind.u8.wrap p0.Root), (IntKind.u8.wrap p0.Size)] : (List Int))) g4.2.2.2.2]) (fun (g4 : (Option Addr × Nat) × (Option Addr × Nat) × (Option Addr × Nat) × (Option Addr × Nat)) => [OwnS kU8 g4.1.1 g4.1.2 ([3] : (List Int)), Box b1 [.int .i64 p0.Epoch, .int .i64 p0.Seq, .int .i64 p0.Root, .int .i64 p0.Size], OwnS kU8 g4.2.1.1 g4.2.1.2 t7, OwnS kU8 g4.2.2.1.1 g4.2.2.1.2 t11, OwnS kU8 g4.2.2.2.1 g4.2.2.2.2 ([(IntKind.u8.wrap p0.Root), (IntKind.u8.wrap p0.Size)] : (List Int))]) ((none, 0), (none, 0), (none, 0), (none, 0)) [1] [3, 1, 4, 5, 6] [] ⟨rfl, rfl, trivial⟩ ⟨rfl, trivial⟩ rfl (by kernel_rfl) (fun _ => rfl) (by kernel_rfl) (fun _ => rfl) ⟨?_, ?_, ?_, ?_, ?_, ?_, ?_, ?_, ?_, ?_, ?_, ?_, ?_, ?_, trivial⟩ fun g4 => ?_
    · exact OpOK.of (fun g4 => [(.const (.int .u8 3), .int .u8 3)]) _ _ (fun g4 x => (x, g4.2.1, g4.2.2.1, g4.2.2.2)) rfl rfl (fun _ => ⟨rfl, trivial⟩) (fun g4 => OT.buildF (us := [.int .u8 3]) (ys := ([3] : (List Int))) (enc := (encI .u8)) (hl := fun _ => ⟨rfl, rfl⟩) [.const (.int .u8 3)] sl22.ul sl22.szE sl22.zc rfl rfl rfl rfl rfl) (fun _ _ => ⟨rfl, rfl, ⟨rfl, rfl, rfl, rfl, rfl, trivial⟩⟩)
    · exact OpOK.of (fun g4 => [(.tmp 1, BP b1 0)]) _ _ (fun g4 _ => g4) rfl rfl (fun _ => ⟨rfl, trivial⟩) (fun g4 => Pu.toOT (Pu.fieldB fo68_0 rfl)) (fun _ _ => ⟨rfl, rfl, ⟨rfl, rfl, rfl, rfl, rfl, trivial⟩⟩)
    · exact OpOK.of (fun g4 => [(.tmp 7, BP b1 0)]) _ _ (fun g4 _ => g4) rfl rfl (fun _ => ⟨rfl, trivial⟩) (fun g4 => OT.loadB sc3 rfl) (fun _ _ => ⟨rfl, rfl, ⟨rfl, rfl, rfl, rfl, rfl, trivial⟩⟩)
    · exact OpOK.of (fun g4 => [(.func 97, .func (.func 97) #[] #[]), (.tmp 6, .slice g4.1.1 (List.length ([3] : (List Int))) g4.1.2), (.tmp 8, .int .i64 p0.Epoch)]) _ _ (fun g4 x => (g4.1, x, g4.2.2.1, g4.2.2.2)) rfl rfl (fun _ => ⟨rfl, rfl, rfl, trivial⟩) (fun g4 => OT.call (us := [_, _]) (Pre := [OwnS kU8 g4.1.1 g4.1.2 ([3] : (List Int))]) [.tmp 6, .tmp 8] Try.call97 rfl rfl fun w F hs hF hp => impl_Put2_c (hs.lend hF 0 rfl) h8) (fun _ _ => ⟨rfl, rfl, ⟨rfl, rfl, rfl, rfl, rfl, trivial⟩⟩)
    · exact OpOK.of (fun g4 => [(.tmp 1, BP b1 0)]) _ _ (fun g4 _ => g4) rfl rfl (fun _ => ⟨rfl, trivial⟩) (fun g4 => Pu.toOT (Pu.fieldB fo68_1 rfl)) (fun _ _ => ⟨rfl, rfl, ⟨rfl, rfl, rfl, rfl, rfl, trivial⟩⟩)
    · exact OpOK.of (fun g4 => [(.tmp 10, BP b1 1)]) _ _ (fun g4 _ => g4) rfl rfl (fun _ => ⟨rfl, trivial⟩) (fun g4 => OT.loadB sc3 rfl) (fun _ _ => ⟨rfl, rfl, ⟨rfl, rfl, rfl, rfl, rfl, trivial⟩⟩)
    · exact OpOK.of (fun g4 => [(.func 97, .func (.func 97) #[] #[]), (.tmp 9, .slice g4.2.1.1 (List.length t7) g4.2.1.2), (.tmp 11, .int .i64 p0.Seq)]) _ _ (fun g4 x => (g4.1, g4.2.1, x, g4.2.2.2)) rfl rfl (fun _ => ⟨rfl, rfl, rfl, trivial⟩) (fun g4 => OT.call (us := [_, _]) (Pre := [OwnS kU8 g4.2.1.1 g4.2.1.2 t7]) [.tmp 9, .tmp 11] Try.call97 rfl rfl fun w F hs hF hp => impl_Put2_c (hs.lend hF 0 rfl) h12) (fun _ _ => ⟨rfl, rfl, ⟨rfl, rfl, rfl, rfl, rfl, trivial⟩⟩)
    · exact OpOK.of (fun g4 => [(.tmp 1, BP b1 0)]) _ _ (fun g4 _ => g4) rfl rfl (fun _ => ⟨rfl, trivial⟩) (fun g4 => Pu.toOT (Pu.fieldB fo68_2 rfl)) (fun _ _ => ⟨rfl, rfl, ⟨rfl, rfl, rfl, rfl, rfl, trivial⟩⟩)
    · exact OpOK.of (fun g4 => [(.tmp 13, BP b1 2)]) _ _ (fun g4 _ => g4) rfl rfl (fun _ => ⟨rfl, trivial⟩) (fun g4 => OT.loadB sc3 rfl) (fun _ _ => ⟨rfl, rfl, ⟨rfl, rfl, rfl, rfl, rfl, trivial⟩⟩)
    · exact OpOK.of (fun g4 => [(.tmp 14, .int .i64 p0.Root)]) _ _ (fun g4 _ => g4) rfl rfl (fun _ => ⟨rfl, trivial⟩) (fun g4 => Pu.toOT (Pu.conv ul3 ul5)) (fun _ _ => ⟨rfl, rfl, ⟨rfl, rfl, rfl, rfl, rfl, trivial⟩⟩)
    · exact OpOK.of (fun g4 => [(.tmp 1, BP b1 0)]) _ _ (fun g4 _ => g4) rfl rfl (fun _ => ⟨rfl, trivial⟩) (fun g4 => Pu.toOT (Pu.fieldB fo68_3 rfl)) (fun _ _ => ⟨rfl, rfl, ⟨rfl, rfl, rfl, rfl, rfl, trivial⟩⟩)
    · exact OpOK.of (fun g4 => [(.tmp 16, BP b1 3)]) _ _ (fun g4 _ => g4) rfl rfl (fun _ => ⟨rfl, trivial⟩) (fun g4 => OT.loadB sc3 rfl) (fun _ _ => ⟨rfl, rfl, ⟨rfl, rfl, rfl, rfl, rfl, trivial⟩⟩)
    · exact OpOK.of (fun g4 => [(.tmp 17, .int .i64 p0.Size)]) _ _ (fun g4 _ => g4) rfl rfl (fun _ => ⟨rfl, trivial⟩) (fun g4 => Pu.toOT (Pu.conv ul3 ul5)) (fun _ _ => ⟨rfl, rfl, ⟨rfl, rfl, rfl, rfl, rfl, trivial⟩⟩)
    · exact OpOK.of (fun g4 => [(.tmp 15, .int .u8 (IntKind.u8.wrap p0.Root)), (.tmp 18, .int .u8 (IntKind.u8.wrap p0.Size))]) _ _ (fun g4 x => (g4.1, g4.2.1, g4.2.2.1, x)) rfl rfl (fun _ => ⟨rfl, rfl, trivial⟩) (fun g4 => OT.buildF (us := [.int .u8 (IntKind.u8.wrap p0.Root), .int .u8 (IntKind.u8.wrap p0.Size)]) (ys := ([(IntKind.u8.wrap p0.Root), (IntKind.u8.wrap p0.Size)] : (List Int))) (enc := (encI .u8)) (hl := fun _ => ⟨rfl, rfl⟩) [.tmp 15, .tmp 18] sl22.ul sl22.szE sl22.zc rfl rfl rfl rfl rfl) (fun _ _ => ⟨rfl, rfl, ⟨rfl, rfl, rfl, rfl, rfl, trivial⟩⟩)
    refine HQ.keep [(2, _), (12, _), (19, _)] ⟨rfl, rfl, rfl, trivial⟩ ?_
    refine HQ.keepR [(1, _), (3, _), (4, _), (5, _), (6, _)] ⟨rfl, rfl, rfl, rfl, rfl, trivial⟩ rfl ?_
    obtain ⟨h19, H⟩ := asr H
    refine HQ.op [5, 6] [5, 6] (OT.appendG (enc := (encI .u8)) (hl := fun _ => ⟨rfl, rfl⟩) sl22 ul22 h19) ⟨rfl, rfl, trivial⟩ ⟨rfl, rfl, trivial⟩ rfl rfl rfl rfl (fun _ => rfl) fun ⟨a17, c18⟩ => ?_
    refine HQ.pu Pu.assign ⟨rfl, trivial⟩ rfl rfl rfl ?_
    refine HQ.done ?_
    refine HQ.keep [(2, _)] ⟨rfl, trivial⟩ ?_
    refine HQ.ret ?_
    obtain rfl := Option.some.inj H
    exact HQ.fin (vs := [_]) Try.results40 (a17, c18) ⟨rfl, trivial⟩ rfl [5] ⟨rfl, trivial⟩ rfl

/-! impl.Pad -/
theorem impl_Pad_c {w : World} {k : Nat} {p0 : (List Int)} {p1 : Int} {a_0 : Option Addr} {c_0 : Nat} (hb_0 : BorS kU8 a_0 c_0 p0 w.heap (Lt w Nil)) {r : (List Int)} (H : impl_Pad k p0 p1 = some r) :
    Calls Try.prog 24 #[.slice a_0 (List.length p0) c_0, .int .i64 p1] w (Rt w Nil (fun g : Option Addr × Nat => .slice g.1 (List.length r) g.2) (fun g => [OwnS kU8 g.1 g.2 r])) := by
  rw [impl_Pad] at H
  refine Calls.enter0 (N := 19) (us := [_, _]) Try.func24 rfl rfl rfl ?_
  refine HQ.rseq ?_
  refine HQ.pu Pu.assign ⟨rfl, trivial⟩ rfl rfl rfl ?_
  refine HQ.done ?_
  refine HQ.keep [(0, _), (1, _), (4, _)] ⟨rfl, rfl, rfl, trivial⟩ ?_
  refine HQ.rseq ?_
  refine HQ.pu Pu.move ⟨rfl, trivial⟩ rfl rfl rfl ?_
  obtain ⟨t1, h2, H⟩ := bnd H
  refine HQ.op [] [1] (OT.call (us := [_]) (Pre := []) [.tmp 6] Try.call88 rfl rfl fun w F hs hF hp => slices_Clone_byte_byte_c (hb_0.pass hp) h2) ⟨rfl, rfl, trivial⟩ trivial rfl rfl rfl rfl (fun _ => rfl) fun ⟨a3, c4⟩ => ?_
  refine HQ.pu Pu.assign ⟨rfl, trivial⟩ rfl rfl rfl ?_
  refine HQ.done ?_
  refine HQ.keep [(1, _), (4, _), (5, _)] ⟨rfl, rfl, rfl, trivial⟩ ?_
  refine HQ.seq ?_
  refine HQ.rseq ?_
  refine HQ.pu Pu.move ⟨rfl, trivial⟩ rfl rfl rfl ?_
  refine HQ.pu Pu.gtr ⟨rfl, rfl, trivial⟩ rfl rfl rfl ?_
  refine HQ.done ?_
  refine HQ.keep [(1, _), (4, _), (5, _), (9, _)] ⟨rfl, rfl, rfl, rfl, trivial⟩ ?_
  rcases brk H with ⟨hc, H⟩ | ⟨hc, H⟩
  · refine HQ.condT rfl hc ?_
    clear hc
    refine HQ.rseq ?_
    refine HQ.pu Pu.move ⟨rfl, trivial⟩ rfl rfl rfl ?_
    refine HQ.pu Pu.assign ⟨rfl, trivial⟩ rfl rfl rfl ?_
    refine HQ.done ?_
    refine HQ.keep [(1, _), (4, _), (5, _)] ⟨rfl, rfl, rfl, trivial⟩ ?_
    refine HQ.ret ?_
    refine HQ.thenR ?_
    obtain rfl := Option.some.inj H
    exact HQ.fin (vs := [_]) Try.results24 (a3, c4) ⟨rfl, trivial⟩ rfl [1] ⟨rfl, trivial⟩ rfl
  · refine HQ.condF rfl hc ?_
    clear hc
    refine HQ.skipThen ?_
    refine HQ.seq ?_
    refine HQ.block ?_
    obtain ⟨o23, h27, H⟩ := bnd H
    refine HQ.loop h27 0 (fun (s : (List Int)) (g : Option Addr × Nat) => match s, g with | l10, (a11, c12) => [(1, .int .i64 p1), (4, .slice none 0 0), (5, .slice a11 (List.length l10) c12)]) (fun (s : (List Int)) (g : Option Addr × Nat) => match s, g with | l10, (a11, c12) => [(1, OwnS kU8 a11 c12 l10)]) (fun _ _ _ => False) (a3, c4) ⟨rfl, rfl, rfl, trivial⟩ ⟨rfl, trivial⟩ rfl ?_ ?_ ?_
    · clear H h27
      rintro l10 ⟨a11, c12⟩ o H
      rw [impl_Pad_b0] at H
      refine HQ.keep [(1, _), (4, _), (5, _)] ⟨rfl, rfl, rfl, trivial⟩ ?_
      refine HQ.keepR [(1, _)] ⟨rfl, trivial⟩ rfl ?_
      refine HQ.seq ?_
      refine HQ.rseq ?_
      refine HQ.pu Pu.move ⟨rfl, trivial⟩ rfl rfl rfl ?_
      refine HQ.pu (Pu.len ul22) ⟨rfl, trivial⟩ rfl rfl rfl ?_
      refine HQ.pu Pu.move ⟨rfl, trivial⟩ rfl rfl rfl ?_
      refine HQ.pu Pu.lss ⟨rfl, rfl, trivial⟩ rfl rfl rfl ?_
      refine HQ.done ?_
      refine HQ.keep [(1, _), (4, _), (5, _), (14, _)] ⟨rfl, rfl, rfl, rfl, trivial⟩ ?_
      rcases brk H with ⟨hc, H⟩ | ⟨hc, H⟩
      · refine HQ.condT rfl hc ?_
        clear hc
        refine HQ.skipThen ?_
        refine HQ.block ?_
        refine HQ.regionQ ?_
        refine HQ.pu Pu.move ⟨rfl, trivial⟩ rfl rfl rfl ?_
        refine HQ.op [] [4] (OT.buildF (us := [.int .u8 0]) (ys := ([0] : (List Int))) (enc := (encI .u8)) (hl := fun _ => ⟨rfl, rfl⟩) [.const (.int .u8 0)] sl22.ul sl22.szE sl22.zc rfl rfl rfl rfl rfl) ⟨rfl, trivial⟩ trivial rfl rfl rfl rfl (fun _ => rfl) fun ⟨a18, c19⟩ => ?_
        obtain ⟨h22, H⟩ := asr H
        refine HQ.op [1, 4] [1, 4] (OT.appendG (enc := (encI .u8)) (hl := fun _ => ⟨rfl, rfl⟩) sl22 ul22 h22) ⟨rfl, rfl, trivial⟩ ⟨rfl, rfl, trivial⟩ rfl rfl rfl rfl (fun _ => rfl) fun ⟨a20, c21⟩ => ?_
        refine HQ.pu Pu.assign ⟨rfl, trivial⟩ rfl rfl rfl ?_
        refine HQ.done ?_
        refine HQ.keep [(1, _), (4, _), (5, _)] ⟨rfl, rfl, rfl, trivial⟩ ?_
        refine HQ.blkN ?_
        obtain rfl := Option.some.inj H
        exact HQ.next (a20, c21) ⟨rfl, rfl, rfl, trivial⟩ ⟨rfl, trivial⟩ rfl
      · refine HQ.condF rfl hc ?_
        clear hc
        refine HQ.exit ?_
        refine HQ.thenE ?_
        obtain rfl := Option.some.inj H
        exact HQ.out (a11, c12) ⟨rfl, rfl, rfl, trivial⟩ ⟨rfl, trivial⟩ rfl
    · rintro l24 rfl ⟨a25, c26⟩
      clear h27
      replace H := H
      refine HQ.keep [(1, _), (4, _), (5, _)] ⟨rfl, rfl, rfl, trivial⟩ ?_
      refine HQ.keepR [(1, _)] ⟨rfl, trivial⟩ rfl ?_
      refine HQ.blkE ?_
      refine HQ.thenN ?_
      refine HQ.rseq ?_
      refine HQ.pu Pu.move ⟨rfl, trivial⟩ rfl rfl rfl ?_
      refine HQ.pu Pu.assign ⟨rfl, trivial⟩ rfl rfl rfl ?_
      refine HQ.done ?_
      refine HQ.keep [(4, _)] ⟨rfl, trivial⟩ ?_
      refine HQ.ret ?_
      obtain rfl := Option.some.inj H
      exact HQ.fin (vs := [_]) Try.results24 (a25, c26) ⟨rfl, trivial⟩ rfl [1] ⟨rfl, trivial⟩ rfl
    · exact fun r h a w hf => hf.elim

/-! impl.Get2 -/
theorem impl_Get2_c {w : World} {p0 : (List Int)} {p1 : Int} {a_0 : Option Addr} {c_0 : Nat} (hb_0 : BorS kU8 a_0 c_0 p0 w.heap (Lt w Nil)) {r : Int × Bool} (H : impl_Get2 p0 p1 = some r) :
    Calls Try.prog 103 #[.slice a_0 (List.length p0) c_0, .int .i64 p1] w (Rt w Nil (fun _ : Unit => .tuple #[.int .i64 r.1, .bool r.2]) (fun _ => [])) := by
  rw [impl_Get2] at H
  refine Calls.enter0 (N := 28) (us := [_, _]) Try.func103 rfl rfl rfl ?_
  refine HQ.rseq ?_
  refine HQ.pu Pu.assign ⟨rfl, trivial⟩ rfl rfl rfl ?_
  refine HQ.pu Pu.assign ⟨rfl, trivial⟩ rfl rfl rfl ?_
  refine HQ.done ?_
  refine HQ.keep [(0, _), (1, _), (4, _), (5, _)] ⟨rfl, rfl, rfl, rfl, trivial⟩ ?_
  refine HQ.seq ?_
  refine HQ.rseq ?_
  refine HQ.pu Pu.move ⟨rfl, trivial⟩ rfl rfl rfl ?_
  refine HQ.pu Pu.lss ⟨rfl, rfl, trivial⟩ rfl rfl rfl ?_
  refine HQ.pu Pu.move ⟨rfl, trivial⟩ rfl rfl rfl ?_
  refine HQ.cutAt 6 [(14, .bool ((decide (p1 < 0)) || (decide (p1 > (wrap64 (((List.length p0 : Nat) : Int) - 2)))))), (0, .slice a_0 (List.length p0) c_0), (1, .int .i64 p1), (4, .int .i64 0), (5, .bool false)] [] ?_ ?_
  · rcases Bool.eq_false_or_eq_true (decide (p1 < 0)) with hg1 | hg1
    · refine HQ.off rfl rfl hg1 rfl ?_
      refine HQ.off rfl rfl hg1 rfl ?_
      refine HQ.off rfl rfl hg1 rfl ?_
      refine HQ.off rfl rfl hg1 rfl ?_
      refine HQ.off rfl rfl hg1 rfl ?_
      refine HQ.pu (Pu.pickOT (u := (decide (p1 > (wrap64 (((List.length p0 : Nat) : Int) - 2))))) hg1) ⟨rfl, rfl, trivial⟩ rfl rfl rfl ?_
      exact HQ.mid ⟨rfl, rfl, rfl, rfl, rfl, trivial⟩ trivial rfl
    · refine HQ.on rfl rfl hg1 ?_
      refine HQ.pu Pu.move ⟨rfl, trivial⟩ rfl rfl rfl ?_
      refine HQ.on rfl rfl hg1 ?_
      refine HQ.pu Pu.move ⟨rfl, trivial⟩ rfl rfl rfl ?_
      refine HQ.on rfl rfl hg1 ?_
      refine HQ.pu (Pu.len ul22) ⟨rfl, trivial⟩ rfl rfl rfl ?_
      refine HQ.on rfl rfl hg1 ?_
      refine HQ.pu Pu.sub ⟨rfl, rfl, trivial⟩ rfl rfl rfl ?_
      refine HQ.on rfl rfl hg1 ?_
      refine HQ.pu Pu.gtr ⟨rfl, rfl, trivial⟩ rfl rfl rfl ?_
      refine HQ.pu (Pu.pickOF hg1) ⟨rfl, rfl, trivial⟩ rfl rfl rfl ?_
      exact HQ.mid ⟨rfl, rfl, rfl, rfl, rfl, trivial⟩ trivial rfl
  refine HQ.done ?_
  refine HQ.keep [(14, _), (0, _), (1, _), (4, _), (5, _)] ⟨rfl, rfl, rfl, rfl, rfl, trivial⟩ ?_
  rcases brk H with ⟨hc, H⟩ | ⟨hc, H⟩
  · refine HQ.condT rfl hc ?_
    clear hc
    refine HQ.rseq ?_
    refine HQ.pu Pu.assign ⟨rfl, trivial⟩ rfl rfl rfl ?_
    refine HQ.pu Pu.assign ⟨rfl, trivial⟩ rfl rfl rfl ?_
    refine HQ.done ?_
    refine HQ.keep [(0, _), (1, _), (4, _), (5, _)] ⟨rfl, rfl, rfl, rfl, trivial⟩ ?_
    refine HQ.ret ?_
    refine HQ.thenR ?_
    obtain rfl := Option.some.inj H
    exact HQ.fin (vs := [_, _]) Try.results103 () ⟨rfl, rfl, trivial⟩ rfl [] trivial rfl
  · refine HQ.condF rfl hc ?_
    clear hc
    refine HQ.skipThen ?_
    obtain ⟨h3, H⟩ := asr H
    obtain ⟨h4, H⟩ := asr H
    refine HQ.drawS mixd [(0, .slice a_0 (List.length p0) c_0), (1, .int .i64 p1), (4, .int .i64 0), (5, .bool false)] 12 [⟨[], [], []⟩, ⟨[], [], []⟩, ⟨[], [], [0, 1]⟩, ⟨[], [], [2]⟩, ⟨[], [], [3]⟩, ⟨[], [], [4]⟩, ⟨[], [], []⟩, ⟨[], [], []⟩, ⟨[], [], [7]⟩, ⟨[], [], [6, 8]⟩, ⟨[], [], [9]⟩, ⟨[], [], [10]⟩] [] (fun (g2 : Unit) => [.slice a_0 (List.length p0) c_0, .int .i64 p1, EP a_0 p1 1 0, .int .u8 (gt p0 p1), .int .i64 (IntKind.i64.wrap (gt p0 p1)), .int .i64 (wrap64 ((IntKind.i64.wrap (gt p0 p1)) * 2 ^ (min (Int.toNat 8) 64))), .slice a_0 (List.length p0) c_0, .int .i64 p1, .int .i64 (wrap64 (p1 + 1)), EP a_0 (wrap64 (p1 + 1)) 1 0, .int .u8 (gt p0 (wrap64 (p1 + 1))), .int .i64 (IntKind.i64.wrap (gt p0 (wrap64 (p1 + 1))))]) (fun (g2 : Unit) => []) () [] [] [] ⟨rfl, rfl, rfl, rfl, trivial⟩ trivial rfl (by kernel_rfl) (fun _ => rfl) (by kernel_rfl) (fun _ => rfl) ⟨?_, ?_, ?_, ?_, ?_, ?_, ?_, ?_, ?_, ?_, ?_, ?_, trivial⟩ fun g2 => ?_
    · exact OpOK.of (fun g2 => [(.tmp 0, .slice a_0 (List.length p0) c_0)]) _ _ (fun g2 _ => g2) rfl rfl (fun _ => ⟨rfl, trivial⟩) (fun g2 => Pu.toOT Pu.move) (fun _ _ => ⟨rfl, rfl, trivial⟩)
    · exact OpOK.of (fun g2 => [(.tmp 1, .int .i64 p1)]) _ _ (fun g2 _ => g2) rfl rfl (fun _ => ⟨rfl, trivial⟩) (fun g2 => Pu.toOT Pu.move) (fun _ _ => ⟨rfl, rfl, trivial⟩)
    · exact OpOK.of (fun g2 => [(.tmp 15, .slice a_0 (List.length p0) c_0), (.tmp 16, .int .i64 p1)]) _ _ (fun g2 _ => g2) rfl rfl (fun _ => ⟨rfl, rfl, trivial⟩) (fun g2 => OT.indexB ul22 sz5 hb_0 h3) (fun _ _ => ⟨rfl, rfl, trivial⟩)
    · exact OpOK.of (fun g2 => [(.tmp 17, EP a_0 p1 1 0)]) _ _ (fun g2 _ => g2) rfl rfl (fun _ => ⟨rfl, trivial⟩) (fun g2 => OT.loadF sc5 hb_0 h3 rfl) (fun _ _ => ⟨rfl, rfl, trivial⟩)
    · exact OpOK.of (fun g2 => [(.tmp 18, .int .u8 (gt p0 p1))]) _ _ (fun g2 _ => g2) rfl rfl (fun _ => ⟨rfl, trivial⟩) (fun g2 => Pu.toOT (Pu.conv ul5 ul3)) (fun _ _ => ⟨rfl, rfl, trivial⟩)
    · exact OpOK.of (fun g2 => [(.tmp 19, .int .i64 (IntKind.i64.wrap (gt p0 p1))), (.const (.int .u64 8), .int .u64 8)]) _ _ (fun g2 _ => g2) rfl rfl (fun _ => ⟨rfl, rfl, trivial⟩) (fun g2 => Pu.toOT (Pu.shl (by decide))) (fun _ _ => ⟨rfl, rfl, trivial⟩)
    · exact OpOK.of (fun g2 => [(.tmp 0, .slice a_0 (List.length p0) c_0)]) _ _ (fun g2 _ => g2) rfl rfl (fun _ => ⟨rfl, trivial⟩) (fun g2 => Pu.toOT Pu.move) (fun _ _ => ⟨rfl, rfl, trivial⟩)
    · exact OpOK.of (fun g2 => [(.tmp 1, .int .i64 p1)]) _ _ (fun g2 _ => g2) rfl rfl (fun _ => ⟨rfl, trivial⟩) (fun g2 => Pu.toOT Pu.move) (fun _ _ => ⟨rfl, rfl, trivial⟩)
    · exact OpOK.of (fun g2 => [(.tmp 22, .int .i64 p1), (.const (.int .i64 1), .int .i64 1)]) _ _ (fun g2 _ => g2) rfl rfl (fun _ => ⟨rfl, rfl, trivial⟩) (fun g2 => Pu.toOT Pu.add) (fun _ _ => ⟨rfl, rfl, trivial⟩)
    · exact OpOK.of (fun g2 => [(.tmp 21, .slice a_0 (List.length p0) c_0), (.tmp 23, .int .i64 (wrap64 (p1 + 1)))]) _ _ (fun g2 _ => g2) rfl rfl (fun _ => ⟨rfl, rfl, trivial⟩) (fun g2 => OT.indexB ul22 sz5 hb_0 h4) (fun _ _ => ⟨rfl, rfl, trivial⟩)
    · exact OpOK.of (fun g2 => [(.tmp 24, EP a_0 (wrap64 (p1 + 1)) 1 0)]) _ _ (fun g2 _ => g2) rfl rfl (fun _ => ⟨rfl, trivial⟩) (fun g2 => OT.loadF sc5 hb_0 h4 rfl) (fun _ _ => ⟨rfl, rfl, trivial⟩)
    · exact OpOK.of (fun g2 => [(.tmp 25, .int .u8 (gt p0 (wrap64 (p1 + 1))))]) _ _ (fun g2 _ => g2) rfl rfl (fun _ => ⟨rfl, trivial⟩) (fun g2 => Pu.toOT (Pu.conv ul5 ul3)) (fun _ _ => ⟨rfl, rfl, trivial⟩)
    refine HQ.keep [(4, _), (5, _), (20, _), (26, _)] ⟨rfl, rfl, rfl, rfl, trivial⟩ ?_
    refine HQ.keepR [] trivial rfl ?_
    refine HQ.pu Pu.or ⟨rfl, rfl, trivial⟩ rfl rfl rfl ?_
    refine HQ.pu Pu.assign ⟨rfl, trivial⟩ rfl rfl rfl ?_
    refine HQ.pu Pu.assign ⟨rfl, trivial⟩ rfl rfl rfl ?_
    refine HQ.done ?_
    refine HQ.keep [(4, _), (5, _)] ⟨rfl, rfl, trivial⟩ ?_
    refine HQ.ret ?_
    obtain rfl := Option.some.inj H
    exact HQ.fin (vs := [_, _]) Try.results103 () ⟨rfl, rfl, trivial⟩ rfl [] trivial rfl

/-! bytes.Equal -/
theorem bytes_Equal_c {w : World} {p0 : (List Int)} {p1 : (List Int)} {a_0 : Option Addr} {c_0 : Nat} {a_1 : Option Addr} {c_1 : Nat} (hb_0 : BorS kU8 a_0 c_0 p0 w.heap (Lt w Nil)) (hb_1 : BorS kU8 a_1 c_1 p1 w.heap (Lt w Nil)) {r : Bool} (H : bytes_Equal p0 p1 = some r) :
    Calls Try.prog 100 #[.slice a_0 (List.length p0) c_0, .slice a_1 (List.length p1) c_1] w (Rt w Nil (fun _ : Unit => .bool r) (fun _ => [])) := by
  rw [bytes_Equal] at H
  refine Calls.enter0 (N := 10) (us := [_, _]) Try.func100 rfl rfl rfl ?_
  refine HQ.rseq ?_
  refine HQ.pu Pu.assign ⟨rfl, trivial⟩ rfl rfl rfl ?_
  refine HQ.done ?_
  refine HQ.keep [(0, _), (1, _), (4, _)] ⟨rfl, rfl, rfl, trivial⟩ ?_
  refine HQ.rseq ?_
  refine HQ.pu Pu.move ⟨rfl, trivial⟩ rfl rfl rfl ?_
  refine HQ.op [] [] (OT.convS ul22 ul5 ul9 hb_0) ⟨rfl, trivial⟩ trivial rfl rfl rfl rfl (fun _ => rfl) fun _ => ?_
  refine HQ.pu Pu.move ⟨rfl, trivial⟩ rfl rfl rfl ?_
  refine HQ.op [] [] (OT.convS ul22 ul5 ul9 hb_1) ⟨rfl, trivial⟩ trivial rfl rfl rfl rfl (fun _ => rfl) fun _ => ?_
  refine HQ.pu (Pu.eqlS ul9) ⟨rfl, rfl, trivial⟩ rfl rfl rfl ?_
  refine HQ.pu Pu.assign ⟨rfl, trivial⟩ rfl rfl rfl ?_
  refine HQ.done ?_
  refine HQ.keep [(4, _)] ⟨rfl, trivial⟩ ?_
  refine HQ.ret ?_
  obtain rfl := Option.some.inj H
  exact HQ.fin (vs := [_]) Try.results100 () ⟨rfl, trivial⟩ rfl [] trivial rfl

/-! impl.GetHead -/
theorem impl_GetHead_c {w : World} {k : Nat} {p0 : (List Int)} {a_0 : Option Addr} {c_0 : Nat} (hb_0 : BorS kU8 a_0 c_0 p0 w.heap (Lt w Nil)) {r : THead × Bool} (H : impl_GetHead k p0 = some r) :
    Calls Try.prog 41 #[.slice a_0 (List.length p0) c_0] w (Rt w Nil (fun _ : Unit => .tuple #[.agg #[.int .i64 r.1.Epoch, .int .i64 r.1.Seq, .int .i64 r.1.Root, .int .i64 r.1.Size], .bool r.2]) (fun _ => [])) := by
  rw [impl_GetHead] at H
  refine Calls.enter0 (N := 47) (us := [_]) Try.func41 rfl rfl rfl ?_
  refine HQ.rseq ?_
  refine HQ.op [] [1] (OT.alloc zc68) trivial trivial rfl rfl rfl rfl (fun _ => rfl) fun b1 => ?_
  refine HQ.pu Pu.assign ⟨rfl, trivial⟩ rfl rfl rfl ?_
  refine HQ.done ?_
  refine HQ.keep [(0, _), (2, _), (3, _)] ⟨rfl, rfl, rfl, trivial⟩ ?_
  refine HQ.seq ?_
  refine HQ.rseq ?_
  refine HQ.pu Pu.move ⟨rfl, trivial⟩ rfl rfl rfl ?_
  refine HQ.pu (Pu.len ul22) ⟨rfl, trivial⟩ rfl rfl rfl ?_
  refine HQ.pu Pu.neq ⟨rfl, rfl, trivial⟩ rfl rfl rfl ?_
  refine HQ.done ?_
  refine HQ.keep [(0, _), (2, _), (3, _), (11, _)] ⟨rfl, rfl, rfl, rfl, trivial⟩ ?_
  rcases brk H with ⟨hc, H⟩ | ⟨hc, H⟩
  · refine HQ.condT rfl hc ?_
    clear hc
    refine HQ.rseq ?_
    refine HQ.pu (Pu.build (us := []) (cs := [.int .i64 0, .int .i64 0, .int .i64 0, .int .i64 0]) [] st68 rfl rfl rfl) trivial rfl rfl rfl ?_
    refine HQ.opN [1] [1] [] (OT.storeC (cs' := [.int .i64 0, .int .i64 0, .int .i64 0, .int .i64 0]) sz68 rfl rfl rfl rfl rfl) ⟨rfl, rfl, trivial⟩ ⟨rfl, trivial⟩ rfl rfl rfl (fun _ => rfl) fun _ => ?_
    refine HQ.pu Pu.assign ⟨rfl, trivial⟩ rfl rfl rfl ?_
    refine HQ.done ?_
    refine HQ.keep [(0, _), (2, _), (3, _)] ⟨rfl, rfl, rfl, trivial⟩ ?_
    refine HQ.ret ?_
    refine HQ.thenR ?_
    obtain rfl := Option.some.inj H
    exact HQ.fin (vs := [_, _]) Try.results41 () ⟨⟨_, _, 1, rfl, rfl, ag68, sz68, rfl⟩, rfl, trivial⟩ rfl [] trivial rfl
  · refine HQ.condF rfl hc ?_
    clear hc
    refine HQ.skipThen ?_
    refine HQ.rseq ?_
    refine HQ.pu Pu.move ⟨rfl, trivial⟩ rfl rfl rfl ?_
    obtain ⟨t2, h3, H⟩ := bnd H
    refine HQ.op [] [] (OT.call (us := [_, _]) (Pre := []) [.tmp 14, .const (.int .i64 1)] Try.call103 rfl rfl fun w F hs hF hp => impl_Get2_c (hb_0.pass hp) h3) ⟨rfl, rfl, rfl, trivial⟩ trivial rfl rfl rfl rfl (fun _ => rfl) fun _ => ?_
    refine HQ.pu Pu.move ⟨rfl, trivial⟩ rfl rfl rfl ?_
    refine HQ.pu (Pu.extract rfl) ⟨rfl, trivial⟩ rfl rfl rfl ?_
    refine HQ.pu (Pu.extract rfl) ⟨rfl, trivial⟩ rfl rfl rfl ?_
    refine HQ.pu Pu.assign ⟨rfl, trivial⟩ rfl rfl rfl ?_
    refine HQ.pu Pu.assign ⟨rfl, trivial⟩ rfl rfl rfl ?_
    refine HQ.done ?_
    refine HQ.keep [(0, _), (2, _), (3, _), (4, _)] ⟨rfl, rfl, rfl, rfl, trivial⟩ ?_
    refine HQ.rseq ?_
    refine HQ.pu Pu.move ⟨rfl, trivial⟩ rfl rfl rfl ?_
    obtain ⟨t4, h5, H⟩ := bnd H
    refine HQ.op [] [] (OT.call (us := [_, _]) (Pre := []) [.tmp 19, .const (.int .i64 3)] Try.call103 rfl rfl fun w F hs hF hp => impl_Get2_c (hb_0.pass hp) h5) ⟨rfl, rfl, rfl, trivial⟩ trivial rfl rfl rfl rfl (fun _ => rfl) fun _ => ?_
    refine HQ.pu Pu.move ⟨rfl, trivial⟩ rfl rfl rfl ?_
    refine HQ.pu (Pu.extract rfl) ⟨rfl, trivial⟩ rfl rfl rfl ?_
    refine HQ.pu (Pu.extract rfl) ⟨rfl, trivial⟩ rfl rfl rfl ?_
    refine HQ.pu Pu.assign ⟨rfl, trivial⟩ rfl rfl rfl ?_
    refine HQ.pu Pu.assign ⟨rfl, trivial⟩ rfl rfl rfl ?_
    refine HQ.done ?_
    refine HQ.keep [(0, _), (2, _), (3, _), (4, _), (6, _)] ⟨rfl, rfl, rfl, rfl, rfl, trivial⟩ ?_
    obtain ⟨h7, H⟩ := asr H
    obtain ⟨h8, H⟩ := asr H
    refine HQ.drawS mixd [(0, .slice a_0 (List.length p0) c_0), (2, BP b1 0), (3, .bool false), (4, .int .i64 t2.1), (6, .int .i64 t4.1)] 12 [⟨[], [], []⟩, ⟨[], [], []⟩, ⟨[], [], []⟩, ⟨[], [], [2]⟩, ⟨[], [], [3]⟩, ⟨[], [], [4]⟩, ⟨[], [], []⟩, ⟨[], [], [6]⟩, ⟨[], [], [7]⟩, ⟨[], [], [8]⟩, ⟨[], [], [0, 1, 5, 9]⟩, ⟨[], [0], []⟩] [⟨some 11, none⟩] (fun (g6 : Nat) => [.int .i64 t2.1, .int .i64 t4.1, .slice a_0 (List.length p0) c_0, EP a_0 5 1 0, .int .u8 (gt p0 5), .int .i64 (IntKind.i64.wrap (gt p0 5)), .slice a_0 (List.length p0) c_0, EP a_0 6 1 0, .int .u8 (gt p0 6), .int .i64 (IntKind.i64.wrap (gt p0 6)), .agg #[.int .i64 t2.1, .int .i64 t4.1, .int .i64 (IntKind.i64.wrap (gt p0 5)), .int .i64 (IntKind.i64.wrap (gt p0 6))], BP g6 0]) (fun (g6 : Nat) => [Box g6 [.int .i64 0, .int .i64 0, .int .i64 0, .int .i64 0]]) 0 [] [2] [] ⟨rfl, rfl, rfl, rfl, rfl, trivial⟩ trivial rfl (by kernel_rfl) (fun _ => rfl) (by kernel_rfl) (fun _ => rfl) ⟨?_, ?_, ?_, ?_, ?_, ?_, ?_, ?_, ?_, ?_, ?_, ?_, trivial⟩ fun g6 => ?_
    · exact OpOK.of (fun g6 => [(.tmp 4, .int .i64 t2.1)]) _ _ (fun g6 _ => g6) rfl rfl (fun _ => ⟨rfl, trivial⟩) (fun g6 => Pu.toOT Pu.move) (fun _ _ => ⟨rfl, rfl, ⟨rfl, trivial⟩⟩)
    · exact OpOK.of (fun g6 => [(.tmp 6, .int .i64 t4.1)]) _ _ (fun g6 _ => g6) rfl rfl (fun _ => ⟨rfl, trivial⟩) (fun g6 => Pu.toOT Pu.move) (fun _ _ => ⟨rfl, rfl, ⟨rfl, trivial⟩⟩)
    · exact OpOK.of (fun g6 => [(.tmp 0, .slice a_0 (List.length p0) c_0)]) _ _ (fun g6 _ => g6) rfl rfl (fun _ => ⟨rfl, trivial⟩) (fun g6 => Pu.toOT Pu.move) (fun _ _ => ⟨rfl, rfl, ⟨rfl, trivial⟩⟩)
    · exact OpOK.of (fun g6 => [(.tmp 25, .slice a_0 (List.length p0) c_0), (.const (.int .i64 5), .int .i64 5)]) _ _ (fun g6 _ => g6) rfl rfl (fun _ => ⟨rfl, rfl, trivial⟩) (fun g6 => OT.indexB ul22 sz5 hb_0 h7) (fun _ _ => ⟨rfl, rfl, ⟨rfl, trivial⟩⟩)
    · exact OpOK.of (fun g6 => [(.tmp 26, EP a_0 5 1 0)]) _ _ (fun g6 _ => g6) rfl rfl (fun _ => ⟨rfl, trivial⟩) (fun g6 => OT.loadF sc5 hb_0 h7 rfl) (fun _ _ => ⟨rfl, rfl, ⟨rfl, trivial⟩⟩)
    · exact OpOK.of (fun g6 => [(.tmp 27, .int .u8 (gt p0 5))]) _ _ (fun g6 _ => g6) rfl rfl (fun _ => ⟨rfl, trivial⟩) (fun g6 => Pu.toOT (Pu.conv ul5 ul3)) (fun _ _ => ⟨rfl, rfl, ⟨rfl, trivial⟩⟩)
    · exact OpOK.of (fun g6 => [(.tmp 0, .slice a_0 (List.length p0) c_0)]) _ _ (fun g6 _ => g6) rfl rfl (fun _ => ⟨rfl, trivial⟩) (fun g6 => Pu.toOT Pu.move) (fun _ _ => ⟨rfl, rfl, ⟨rfl, trivial⟩⟩)
    · exact OpOK.of (fun g6 => [(.tmp 29, .slice a_0 (List.length p0) c_0), (.const (.int .i64 6), .int .i64 6)]) _ _ (fun g6 _ => g6) rfl rfl (fun _ => ⟨rfl, rfl, trivial⟩) (fun g6 => OT.indexB ul22 sz5 hb_0 h8) (fun _ _ => ⟨rfl, rfl, ⟨rfl, trivial⟩⟩)
    · exact OpOK.of (fun g6 => [(.tmp 30, EP a_0 6 1 0)]) _ _ (fun g6 _ => g6) rfl rfl (fun _ => ⟨rfl, trivial⟩) (fun g6 => OT.loadF sc5 hb_0 h8 rfl) (fun _ _ => ⟨rfl, rfl, ⟨rfl, trivial⟩⟩)
    · exact OpOK.of (fun g6 => [(.tmp 31, .int .u8 (gt p0 6))]) _ _ (fun g6 _ => g6) rfl rfl (fun _ => ⟨rfl, trivial⟩) (fun g6 => Pu.toOT (Pu.conv ul5 ul3)) (fun _ _ => ⟨rfl, rfl, ⟨rfl, trivial⟩⟩)
    · exact OpOK.of (fun g6 => [(.tmp 23, .int .i64 t2.1), (.tmp 24, .int .i64 t4.1), (.tmp 28, .int .i64 (IntKind.i64.wrap (gt p0 5))), (.tmp 32, .int .i64 (IntKind.i64.wrap (gt p0 6)))]) _ _ (fun g6 _ => g6) rfl rfl (fun _ => ⟨rfl, rfl, rfl, rfl, trivial⟩) (fun g6 => Pu.toOT (Pu.build (us := [.int .i64 t2.1, .int .i64 t4.1, .int .i64 (IntKind.i64.wrap (gt p0 5)), .int .i64 (IntKind.i64.wrap (gt p0 6))]) (cs := [.int .i64 t2.1, .int .i64 t4.1, .int .i64 (IntKind.i64.wrap (gt p0 5)), .int .i64 (IntKind.i64.wrap (gt p0 6))]) [(0, .tmp 23), (1, .tmp 24), (2, .tmp 28), (3, .tmp 32)] st68 rfl rfl rfl)) (fun _ _ => ⟨rfl, rfl, ⟨rfl, trivial⟩⟩)
    · exact OpOK.of (fun g6 => []) _ _ (fun g6 x => x) rfl rfl (fun _ => trivial) (fun g6 => OT.alloc zc68) (fun _ _ => ⟨rfl, rfl, ⟨rfl, trivial⟩⟩)
    refine HQ.keep [(0, _), (2, _), (3, _), (33, _), (8, _)] ⟨rfl, rfl, rfl, rfl, rfl, trivial⟩ ?_
    refine HQ.keepR [(1, _), (2, _)] ⟨rfl, rfl, trivial⟩ rfl ?_
    refine HQ.opN [2] [2] [] (OT.storeC (cs' := [.int .i64 t2.1, .int .i64 t4.1, .int .i64 (IntKind.i64.wrap (gt p0 5)), .int .i64 (IntKind.i64.wrap (gt p0 6))]) sz68 rfl rfl rfl rfl rfl) ⟨rfl, rfl, trivial⟩ ⟨rfl, trivial⟩ rfl rfl rfl (fun _ => rfl) fun _ => ?_
    refine HQ.done ?_
    refine HQ.keep [(0, _), (2, _), (3, _), (8, _)] ⟨rfl, rfl, rfl, rfl, trivial⟩ ?_
    refine HQ.seq ?_
    refine HQ.rseq ?_
    refine HQ.op [2] [2] (OT.loadBA (vs := [.int .i64 t2.1, .int .i64 t4.1, .int .i64 (IntKind.i64.wrap (gt p0 5)), .int .i64 (IntKind.i64.wrap (gt p0 6))]) ag68 sz68 rfl rfl) ⟨rfl, trivial⟩ ⟨rfl, trivial⟩ rfl rfl rfl rfl (fun _ => rfl) fun _ => ?_
    obtain ⟨t10, h11, H⟩ := bnd H
    refine HQ.op [] [] (OT.call (us := [_]) (Pre := []) [.tmp 34] Try.call49 rfl rfl fun w F hs hF hp => impl_HeadOk_c h11) ⟨rfl, rfl, trivial⟩ trivial rfl rfl rfl rfl (fun _ => rfl) fun _ => ?_
    refine HQ.pu Pu.not ⟨rfl, trivial⟩ rfl rfl rfl ?_
    refine HQ.pu Pu.move ⟨rfl, trivial⟩ rfl rfl rfl ?_
    obtain ⟨c23, h24, H⟩ := bnd H
    refine HQ.cutAt 7 [(44, .bool c23), (2, BP b1 0), (3, .bool false), (8, BP g6 0)] [(1, Box b1 [.int .i64 0, .int .i64 0, .int .i64 0, .int .i64 0]), (2, Box g6 [.int .i64 t2.1, .int .i64 t4.1, .int .i64 (IntKind.i64.wrap (gt p0 5)), .int .i64 (IntKind.i64.wrap (gt p0 6))])] ?_ ?_
    · clear H
      have H := h24
      rcases brk H with ⟨hg12, H⟩ | ⟨hg12, H⟩
      · obtain rfl := Option.some.inj H
        refine HQ.off rfl rfl hg12 rfl ?_
        refine HQ.off rfl rfl hg12 rfl ?_
        refine HQ.off rfl rfl hg12 rfl ?_
        refine HQ.off rfl rfl hg12 rfl ?_
        refine HQ.off rfl rfl hg12 rfl ?_
        refine HQ.off rfl rfl hg12 rfl ?_
        refine HQ.pu (Pu.pickC1 hg12) ⟨rfl, rfl, trivial⟩ rfl rfl rfl ?_
        exact HQ.mid ⟨rfl, rfl, rfl, rfl, trivial⟩ ⟨rfl, rfl, trivial⟩ rfl
      · refine HQ.on rfl rfl hg12 ?_
        refine HQ.op [2] [2] (OT.loadBA (vs := [.int .i64 t2.1, .int .i64 t4.1, .int .i64 (IntKind.i64.wrap (gt p0 5)), .int .i64 (IntKind.i64.wrap (gt p0 6))]) ag68 sz68 rfl rfl) ⟨rfl, trivial⟩ ⟨rfl, trivial⟩ rfl rfl rfl rfl (fun _ => rfl) fun _ => ?_
        refine HQ.on rfl rfl hg12 ?_
        obtain ⟨t13, h14, H⟩ := bnd H
        refine HQ.op [] [3] (OT.call (us := [_]) (Pre := []) [.tmp 38] Try.call40 rfl rfl fun w F hs hF hp => impl_HeadCell_c h14) ⟨rfl, rfl, trivial⟩ trivial rfl rfl rfl rfl (fun _ => rfl) fun ⟨a15, c16⟩ => ?_
        refine HQ.on rfl rfl hg12 ?_
        obtain ⟨t17, h18, H⟩ := bnd H
        refine HQ.op [3] [4, 3] (OT.call (us := [_, _]) (Pre := [OwnS kU8 a15 c16 t13]) [.tmp 39, .const (.int .i64 32)] Try.call24 rfl rfl fun w F hs hF hp => impl_Pad_c (hs.lend hF 0 rfl) h18) ⟨rfl, rfl, rfl, trivial⟩ ⟨rfl, trivial⟩ rfl rfl rfl rfl (fun _ => rfl) fun ⟨a19, c20⟩ => ?_
        refine HQ.on rfl rfl hg12 ?_
        refine HQ.pu Pu.move ⟨rfl, trivial⟩ rfl rfl rfl ?_
        refine HQ.on rfl rfl hg12 ?_
        obtain ⟨t21, h22, H⟩ := bnd H
        refine HQ.op [4] [4] (OT.call (us := [_, _]) (Pre := [OwnS kU8 a19 c20 t17]) [.tmp 40, .tmp 41] Try.call100 rfl rfl fun w F hs hF hp => bytes_Equal_c (hs.lend hF 0 rfl) (hb_0.pass hp) h22) ⟨rfl, rfl, rfl, trivial⟩ ⟨rfl, trivial⟩ rfl rfl rfl rfl (fun _ => rfl) fun _ => ?_
        refine HQ.on rfl rfl hg12 ?_
        refine HQ.pu Pu.not ⟨rfl, trivial⟩ rfl rfl rfl ?_
        obtain rfl := Option.some.inj H
        refine HQ.pu (Pu.pickC0 hg12) ⟨rfl, rfl, trivial⟩ rfl rfl rfl ?_
        exact HQ.mid ⟨rfl, rfl, rfl, rfl, trivial⟩ ⟨rfl, rfl, trivial⟩ rfl
    refine HQ.done ?_
    refine HQ.keep [(44, _), (2, _), (3, _), (8, _)] ⟨rfl, rfl, rfl, rfl, trivial⟩ ?_
    rcases brk H with ⟨hc, H⟩ | ⟨hc, H⟩
    · refine HQ.condT rfl hc ?_
      clear hc
      refine HQ.rseq ?_
      refine HQ.pu (Pu.build (us := []) (cs := [.int .i64 0, .int .i64 0, .int .i64 0, .int .i64 0]) [] st68 rfl rfl rfl) trivial rfl rfl rfl ?_
      refine HQ.opN [1] [1] [] (OT.storeC (cs' := [.int .i64 0, .int .i64 0, .int .i64 0, .int .i64 0]) sz68 rfl rfl rfl rfl rfl) ⟨rfl, rfl, trivial⟩ ⟨rfl, trivial⟩ rfl rfl rfl (fun _ => rfl) fun _ => ?_
      refine HQ.pu Pu.assign ⟨rfl, trivial⟩ rfl rfl rfl ?_
      refine HQ.done ?_
      refine HQ.keep [(2, _), (3, _), (8, _)] ⟨rfl, rfl, rfl, trivial⟩ ?_
      refine HQ.ret ?_
      refine HQ.thenR ?_
      obtain rfl := Option.some.inj H
      exact HQ.fin (vs := [_, _]) Try.results41 () ⟨⟨_, _, 1, rfl, rfl, ag68, sz68, rfl⟩, rfl, trivial⟩ rfl [] trivial rfl
    · refine HQ.condF rfl hc ?_
      clear hc
      refine HQ.skipThen ?_
      refine HQ.rseq ?_
      refine HQ.op [2] [2] (OT.loadBA (vs := [.int .i64 t2.1, .int .i64 t4.1, .int .i64 (IntKind.i64.wrap (gt p0 5)), .int .i64 (IntKind.i64.wrap (gt p0 6))]) ag68 sz68 rfl rfl) ⟨rfl, trivial⟩ ⟨rfl, trivial⟩ rfl rfl rfl rfl (fun _ => rfl) fun _ => ?_
      refine HQ.opN [1] [1] [] (OT.storeC (cs' := [.int .i64 t2.1, .int .i64 t4.1, .int .i64 (IntKind.i64.wrap (gt p0 5)), .int .i64 (IntKind.i64.wrap (gt p0 6))]) sz68 rfl rfl rfl rfl rfl) ⟨rfl, rfl, trivial⟩ ⟨rfl, trivial⟩ rfl rfl rfl (fun _ => rfl) fun _ => ?_
      refine HQ.pu Pu.assign ⟨rfl, trivial⟩ rfl rfl rfl ?_
      refine HQ.done ?_
      refine HQ.keep [(2, _), (3, _)] ⟨rfl, rfl, trivial⟩ ?_
      refine HQ.ret ?_
      obtain rfl := Option.some.inj H
      exact HQ.fin (vs := [_, _]) Try.results41 () ⟨⟨_, _, 1, rfl, rfl, ag68, sz68, rfl⟩, rfl, trivial⟩ rfl [] trivial rfl

/-! spec.l1In -/
theorem spec_l1In_c {w : World} {p0 : Int} {p1 : Int} {p2 : Int}   {r : Bool} (H : spec_l1In p0 p1 p2 = some r) :
    Calls Try.prog 89 #[.int .i64 p0, .int .i64 p1, .int .i64 p2] w (Rt w Nil (fun _ : Unit => .bool r) (fun _ => [])) := by
  rw [spec_l1In] at H
  refine Calls.enter0 (N := 15) (us := [_, _, _]) Try.func89 rfl rfl rfl ?_
  refine HQ.rseq ?_
  refine HQ.pu Pu.assign ⟨rfl, trivial⟩ rfl rfl rfl ?_
  refine HQ.done ?_
  refine HQ.keep [(0, _), (1, _), (2, _), (6, _)] ⟨rfl, rfl, rfl, rfl, trivial⟩ ?_
  refine HQ.rseq ?_
  refine HQ.pu Pu.move ⟨rfl, trivial⟩ rfl rfl rfl ?_
  refine HQ.pu Pu.move ⟨rfl, trivial⟩ rfl rfl rfl ?_
  refine HQ.pu Pu.geq ⟨rfl, rfl, trivial⟩ rfl rfl rfl ?_
  refine HQ.pu Pu.move ⟨rfl, trivial⟩ rfl rfl rfl ?_
  refine HQ.cutAt 4 [(14, .bool ((decide (p0 ≥ p1)) && (decide (p0 ≤ p2)))), (6, .bool false)] [] ?_ ?_
  · rcases Bool.eq_false_or_eq_true (decide (p0 ≥ p1)) with hg1 | hg1
    · refine HQ.on rfl rfl hg1 ?_
      refine HQ.pu Pu.move ⟨rfl, trivial⟩ rfl rfl rfl ?_
      refine HQ.on rfl rfl hg1 ?_
      refine HQ.pu Pu.move ⟨rfl, trivial⟩ rfl rfl rfl ?_
      refine HQ.on rfl rfl hg1 ?_
      refine HQ.pu Pu.leq ⟨rfl, rfl, trivial⟩ rfl rfl rfl ?_
      refine HQ.pu (Pu.pickAT hg1) ⟨rfl, rfl, trivial⟩ rfl rfl rfl ?_
      exact HQ.mid ⟨rfl, rfl, trivial⟩ trivial rfl
    · refine HQ.off rfl rfl hg1 rfl ?_
      refine HQ.off rfl rfl hg1 rfl ?_
      refine HQ.off rfl rfl hg1 rfl ?_
      refine HQ.pu (Pu.pickAF (u := (decide (p0 ≤ p2))) hg1) ⟨rfl, rfl, trivial⟩ rfl rfl rfl ?_
      exact HQ.mid ⟨rfl, rfl, trivial⟩ trivial rfl
  refine HQ.pu Pu.assign ⟨rfl, trivial⟩ rfl rfl rfl ?_
  refine HQ.done ?_
  refine HQ.keep [(6, _)] ⟨rfl, trivial⟩ ?_
  refine HQ.ret ?_
  obtain rfl := Option.some.inj H
  exact HQ.fin (vs := [_]) Try.results89 () ⟨rfl, trivial⟩ rfl [] trivial rfl

/-! spec.HeadOk -/
theorem spec_HeadOk_c {w : World} {p0 : THead}   {r : Bool} (H : spec_HeadOk p0 = some r) :
    Calls Try.prog 50 #[.agg #[.int .i64 p0.Epoch, .int .i64 p0.Seq, .int .i64 p0.Root, .int .i64 p0.Size]] w (Rt w Nil (fun _ : Unit => .bool r) (fun _ => [])) := by
  rw [spec_HeadOk] at H
  refine Calls.enter0 (N := 24) (us := [_]) Try.func50 rfl rfl rfl ?_
  refine HQ.rseq ?_
  refine HQ.op [] [1] (OT.box (cs := [.int .i64 p0.Epoch, .int .i64 p0.Seq, .int .i64 p0.Root, .int .i64 p0.Size]) rfl) ⟨rfl, trivial⟩ trivial rfl rfl rfl rfl (fun _ => rfl) fun b1 => ?_
  refine HQ.pu Pu.assign ⟨rfl, trivial⟩ rfl rfl rfl ?_
  refine HQ.done ?_
  refine HQ.keep [(1, _), (2, _)] ⟨rfl, rfl, trivial⟩ ?_
  refine HQ.rseq ?_
  refine HQ.pu (Pu.fieldB fo68_0 rfl) ⟨rfl, trivial⟩ rfl rfl rfl ?_
  refine HQ.op [1] [1] (OT.loadB sc3 rfl) ⟨rfl, trivial⟩ ⟨rfl, trivial⟩ rfl rfl rfl rfl (fun _ => rfl) fun _ => ?_
  obtain ⟨t2, h3, H⟩ := bnd H
  refine HQ.op [] [] (OT.call (us := [_, _, _]) (Pre := []) [.tmp 4, .const (.int .i64 1), .const (.int .i64 60000)] Try.call89 rfl rfl fun w F hs hF hp => spec_l1In_c h3) ⟨rfl, rfl, rfl, rfl, trivial⟩ trivial rfl rfl rfl rfl (fun _ => rfl) fun _ => ?_
  refine HQ.pu Pu.move ⟨rfl, trivial⟩ rfl rfl rfl ?_
  obtain ⟨c7, h8, H⟩ := bnd H
  refine HQ.cutAt 4 [(10, .bool c7), (1, BP b1 0), (2, .bool false)] [(1, Box b1 [.int .i64 p0.Epoch, .int .i64 p0.Seq, .int .i64 p0.Root, .int .i64 p0.Size])] ?_ ?_
  · clear H
    have H := h8
    rcases brk H with ⟨hg4, H⟩ | ⟨hg4, H⟩
    · refine HQ.on rfl rfl hg4 ?_
      refine HQ.pu (Pu.fieldB fo68_1 rfl) ⟨rfl, trivial⟩ rfl rfl rfl ?_
      refine HQ.on rfl rfl hg4 ?_
      refine HQ.op [1] [1] (OT.loadB sc3 rfl) ⟨rfl, trivial⟩ ⟨rfl, trivial⟩ rfl rfl rfl rfl (fun _ => rfl) fun _ => ?_
      refine HQ.on rfl rfl hg4 ?_
      obtain ⟨t5, h6, H⟩ := bnd H
      refine HQ.op [] [] (OT.call (us := [_, _, _]) (Pre := []) [.tmp 8, .const (.int .i64 0), .const (.int .i64 65535)] Try.call89 rfl rfl fun w F hs hF hp => spec_l1In_c h6) ⟨rfl, rfl, rfl, rfl, trivial⟩ trivial rfl rfl rfl rfl (fun _ => rfl) fun _ => ?_
      obtain rfl := Option.some.inj H
      refine HQ.pu (Pu.pickC1 hg4) ⟨rfl, rfl, trivial⟩ rfl rfl rfl ?_
      exact HQ.mid ⟨rfl, rfl, rfl, trivial⟩ ⟨rfl, trivial⟩ rfl
    · obtain rfl := Option.some.inj H
      refine HQ.off rfl rfl hg4 rfl ?_
      refine HQ.off rfl rfl hg4 rfl ?_
      refine HQ.off rfl rfl hg4 rfl ?_
      refine HQ.pu (Pu.pickC0 hg4) ⟨rfl, rfl, trivial⟩ rfl rfl rfl ?_
      exact HQ.mid ⟨rfl, rfl, rfl, trivial⟩ ⟨rfl, trivial⟩ rfl
  refine HQ.pu Pu.move ⟨rfl, trivial⟩ rfl rfl rfl ?_
  obtain ⟨c12, h13, H⟩ := bnd H
  refine HQ.cutAt 4 [(15, .bool c12), (1, BP b1 0), (2, .bool false)] [(1, Box b1 [.int .i64 p0.Epoch, .int .i64 p0.Seq, .int .i64 p0.Root, .int .i64 p0.Size])] ?_ ?_
  · clear H
    have H := h13
    rcases brk H with ⟨hg9, H⟩ | ⟨hg9, H⟩
    · refine HQ.on rfl rfl hg9 ?_
      refine HQ.pu (Pu.fieldB fo68_3 rfl) ⟨rfl, trivial⟩ rfl rfl rfl ?_
      refine HQ.on rfl rfl hg9 ?_
      refine HQ.op [1] [1] (OT.loadB sc3 rfl) ⟨rfl, trivial⟩ ⟨rfl, trivial⟩ rfl rfl rfl rfl (fun _ => rfl) fun _ => ?_
      refine HQ.on rfl rfl hg9 ?_
      obtain ⟨t10, h11, H⟩ := bnd H
      refine HQ.op [] [] (OT.call (us := [_, _, _]) (Pre := []) [.tmp 13, .const (.int .i64 1), .const (.int .i64 48)] Try.call89 rfl rfl fun w F hs hF hp => spec_l1In_c h11) ⟨rfl, rfl, rfl, rfl, trivial⟩ trivial rfl rfl rfl rfl (fun _ => rfl) fun _ => ?_
      obtain rfl := Option.some.inj H
      refine HQ.pu (Pu.pickC1 hg9) ⟨rfl, rfl, trivial⟩ rfl rfl rfl ?_
      exact HQ.mid ⟨rfl, rfl, rfl, trivial⟩ ⟨rfl, trivial⟩ rfl
    · obtain rfl := Option.some.inj H
      refine HQ.off rfl rfl hg9 rfl ?_
      refine HQ.off rfl rfl hg9 rfl ?_
      refine HQ.off rfl rfl hg9 rfl ?_
      refine HQ.pu (Pu.pickC0 hg9) ⟨rfl, rfl, trivial⟩ rfl rfl rfl ?_
      exact HQ.mid ⟨rfl, rfl, rfl, trivial⟩ ⟨rfl, trivial⟩ rfl
  refine HQ.pu Pu.move ⟨rfl, trivial⟩ rfl rfl rfl ?_
  obtain ⟨c17, h18, H⟩ := bnd H
  refine HQ.cutAt 7 [(23, .bool c17), (2, .bool false)] [(1, Box b1 [.int .i64 p0.Epoch, .int .i64 p0.Seq, .int .i64 p0.Root, .int .i64 p0.Size])] ?_ ?_
  · clear H
    have H := h18
    rcases brk H with ⟨hg14, H⟩ | ⟨hg14, H⟩
    · refine HQ.on rfl rfl hg14 ?_
      refine HQ.pu (Pu.fieldB fo68_2 rfl) ⟨rfl, trivial⟩ rfl rfl rfl ?_
      refine HQ.on rfl rfl hg14 ?_
      refine HQ.op [1] [1] (OT.loadB sc3 rfl) ⟨rfl, trivial⟩ ⟨rfl, trivial⟩ rfl rfl rfl rfl (fun _ => rfl) fun _ => ?_
      refine HQ.on rfl rfl hg14 ?_
      refine HQ.pu (Pu.fieldB fo68_3 rfl) ⟨rfl, trivial⟩ rfl rfl rfl ?_
      refine HQ.on rfl rfl hg14 ?_
      refine HQ.op [1] [1] (OT.loadB sc3 rfl) ⟨rfl, trivial⟩ ⟨rfl, trivial⟩ rfl rfl rfl rfl (fun _ => rfl) fun _ => ?_
      refine HQ.on rfl rfl hg14 ?_
      refine HQ.pu Pu.sub ⟨rfl, rfl, trivial⟩ rfl rfl rfl ?_
      refine HQ.on rfl rfl hg14 ?_
      obtain ⟨t15, h16, H⟩ := bnd H
      refine HQ.op [] [] (OT.call (us := [_, _, _]) (Pre := []) [.tmp 18, .const (.int .i64 0), .tmp 21] Try.call89 rfl rfl fun w F hs hF hp => spec_l1In_c h16) ⟨rfl, rfl, rfl, rfl, trivial⟩ trivial rfl rfl rfl rfl (fun _ => rfl) fun _ => ?_
      obtain rfl := Option.some.inj H
      refine HQ.pu (Pu.pickC1 hg14) ⟨rfl, rfl, trivial⟩ rfl rfl rfl ?_
      exact HQ.mid ⟨rfl, rfl, trivial⟩ ⟨rfl, trivial⟩ rfl
    · obtain rfl := Option.some.inj H
      refine HQ.off rfl rfl hg14 rfl ?_
      refine HQ.off rfl rfl hg14 rfl ?_
      refine HQ.off rfl rfl hg14 rfl ?_
      refine HQ.off rfl rfl hg14 rfl ?_
      refine HQ.off rfl rfl hg14 rfl ?_
      refine HQ.off rfl rfl hg14 rfl ?_
      refine HQ.pu (Pu.pickC0 hg14) ⟨rfl, rfl, trivial⟩ rfl rfl rfl ?_
      exact HQ.mid ⟨rfl, rfl, trivial⟩ ⟨rfl, trivial⟩ rfl
  refine HQ.pu Pu.assign ⟨rfl, trivial⟩ rfl rfl rfl ?_
  refine HQ.done ?_
  refine HQ.keep [(2, _)] ⟨rfl, trivial⟩ ?_
  refine HQ.ret ?_
  obtain rfl := Option.some.inj H
  exact HQ.fin (vs := [_]) Try.results50 () ⟨rfl, trivial⟩ rfl [] trivial rfl

/-! spec.Put2 -/
theorem spec_Put2_c {w : World} {p0 : (List Int)} {p1 : Int} {a_0 : Option Addr} {c_0 : Nat} (hb_0 : BorS kU8 a_0 c_0 p0 w.heap (Lt w Nil)) {r : (List Int)} (H : spec_Put2 p0 p1 = some r) :
    Calls Try.prog 106 #[.slice a_0 (List.length p0) c_0, .int .i64 p1] w (Rt w Nil (fun g : Option Addr × Nat => .slice g.1 (List.length r) g.2) (fun g => [OwnS kU8 g.1 g.2 r])) := by
  rw [spec_Put2] at H
  refine Calls.enter0 (N := 22) (us := [_, _]) Try.func106 rfl rfl rfl ?_
  refine HQ.rseq ?_
  refine HQ.pu Pu.assign ⟨rfl, trivial⟩ rfl rfl rfl ?_
  refine HQ.done ?_
  refine HQ.keep [(0, _), (1, _), (4, _)] ⟨rfl, rfl, rfl, trivial⟩ ?_
  refine HQ.rseq ?_
  refine HQ.op [] [1] (OT.buildF (us := []) (ys := ([] : (List Int))) (enc := (encI .u8)) (hl := fun _ => ⟨rfl, rfl⟩) [] sl22.ul sl22.szE sl22.zc rfl rfl rfl rfl rfl) trivial trivial rfl rfl rfl rfl (fun _ => rfl) fun ⟨a1, c2⟩ => ?_
  refine HQ.pu Pu.move ⟨rfl, trivial⟩ rfl rfl rfl ?_
  obtain ⟨h5, H⟩ := asr H
  refine HQ.op [1] [1] (OT.appendF (enc := (encI .u8)) (hl := fun _ => ⟨rfl, rfl⟩) sl22 ul22 hb_0 h5) ⟨rfl, rfl, trivial⟩ ⟨rfl, trivial⟩ rfl rfl rfl rfl (fun _ => rfl) fun ⟨a3, c4⟩ => ?_
  refine HQ.pu Pu.assign ⟨rfl, trivial⟩ rfl rfl rfl ?_
  refine HQ.done ?_
  refine HQ.keep [(1, _), (4, _), (5, _)] ⟨rfl, rfl, rfl, trivial⟩ ?_
  refine HQ.seq ?_
  refine HQ.rseq ?_
  refine HQ.pu Pu.move ⟨rfl, trivial⟩ rfl rfl rfl ?_
  obtain ⟨t6, h7, H⟩ := bnd H
  refine HQ.op [] [] (OT.call (us := [_, _, _]) (Pre := []) [.tmp 9, .const (.int .i64 0), .const (.int .i64 65535)] Try.call89 rfl rfl fun w F hs hF hp => spec_l1In_c h7) ⟨rfl, rfl, rfl, rfl, trivial⟩ trivial rfl rfl rfl rfl (fun _ => rfl) fun _ => ?_
  refine HQ.pu Pu.not ⟨rfl, trivial⟩ rfl rfl rfl ?_
  refine HQ.done ?_
  refine HQ.keep [(1, _), (4, _), (5, _), (11, _)] ⟨rfl, rfl, rfl, rfl, trivial⟩ ?_
  rcases brk H with ⟨hc, H⟩ | ⟨hc, H⟩
  · refine HQ.condT rfl hc ?_
    clear hc
    refine HQ.rseq ?_
    refine HQ.pu Pu.move ⟨rfl, trivial⟩ rfl rfl rfl ?_
    refine HQ.pu Pu.assign ⟨rfl, trivial⟩ rfl rfl rfl ?_
    refine HQ.done ?_
    refine HQ.keep [(1, _), (4, _), (5, _)] ⟨rfl, rfl, rfl, trivial⟩ ?_
    refine HQ.ret ?_
    refine HQ.thenR ?_
    obtain rfl := Option.some.inj H
    exact HQ.fin (vs := [_]) Try.results106 (a3, c4) ⟨rfl, trivial⟩ rfl [1] ⟨rfl, trivial⟩ rfl
  · refine HQ.condF rfl hc ?_
    clear hc
    refine HQ.skipThen ?_
    refine HQ.rseq ?_
    refine HQ.pu Pu.move ⟨rfl, trivial⟩ rfl rfl rfl ?_
    refine HQ.pu Pu.move ⟨rfl, trivial⟩ rfl rfl rfl ?_
    refine HQ.pu (Pu.quo (by decide)) ⟨rfl, rfl, trivial⟩ rfl rfl rfl ?_
    refine HQ.pu (Pu.conv ul3 ul5) ⟨rfl, trivial⟩ rfl rfl rfl ?_
    refine HQ.pu Pu.move ⟨rfl, trivial⟩ rfl rfl rfl ?_
    refine HQ.pu (Pu.rem (by decide)) ⟨rfl, rfl, trivial⟩ rfl rfl rfl ?_
    refine HQ.pu (Pu.conv ul3 ul5) ⟨rfl, trivial⟩ rfl rfl rfl ?_
    refine HQ.op [] [2] (OT.buildF (us := [.int .u8 (IntKind.u8.wrap (wrap64 (Int.tdiv p1 256))), .int .u8 (IntKind.u8.wrap (Int.tmod p1 256))]) (ys := ([(IntKind.u8.wrap (wrap64 (Int.tdiv p1 256))), (IntKind.u8.wrap (Int.tmod p1 256))] : (List Int))) (enc := (encI .u8)) (hl := fun _ => ⟨rfl, rfl⟩) [.tmp 16, .tmp 19] sl22.ul sl22.szE sl22.zc rfl rfl rfl rfl rfl) ⟨rfl, rfl, trivial⟩ trivial rfl rfl rfl rfl (fun _ => rfl) fun ⟨a8, c9⟩ => ?_
    obtain ⟨h12, H⟩ := asr H
    refine HQ.op [1, 2] [1, 2] (OT.appendG (enc := (encI .u8)) (hl := fun _ => ⟨rfl, rfl⟩) sl22 ul22 h12) ⟨rfl, rfl, trivial⟩ ⟨rfl, rfl, trivial⟩ rfl rfl rfl rfl (fun _ => rfl) fun ⟨a10, c11⟩ => ?_
    refine HQ.pu Pu.assign ⟨rfl, trivial⟩ rfl rfl rfl ?_
    refine HQ.done ?_
    refine HQ.keep [(4, _)] ⟨rfl, trivial⟩ ?_
    refine HQ.ret ?_
    obtain rfl := Option.some.inj H
    exact HQ.fin (vs := [_]) Try.results106 (a10, c11) ⟨rfl, trivial⟩ rfl [1] ⟨rfl, trivial⟩ rfl

end Go.Proofs.Sx
