import Derived.Test.YtgfhnepkpbmbcaaCF7
import Derived.KernelRfl
namespace Go.Proofs.Sx
open Go.RowKit
set_option linter.unusedVariables false
set_option linter.unusedSimpArgs false
set_option maxRecDepth 20000
set_option maxHeartbeats 1000000
/-! impl.PutEntry -/
theorem impl_PutEntry_c {w : World} {p0 : TEntry}   {r : (List Int)} (H : impl_PutEntry p0 = some r) :
    Calls Try.prog 187 #[.agg #[.int .i64 p0.N, .int .i64 p0.R.X0, .int .i64 p0.R.Y0, .int .i64 p0.R.X1, .int .i64 p0.R.Y1]] w (Rt w Nil (fun g : Option Addr × Nat => .slice g.1 (List.length r) g.2) (fun g => [OwnS kU8 g.1 g.2 r])) := by
  rw [impl_PutEntry] at H
  refine Calls.enter0 (N := 34) (us := [_]) Try.func187 rfl rfl rfl ?_
  refine HQ.rseq ?_
  refine HQ.op [] [1] (OT.box (cs := [.int .i64 p0.N, .int .i64 p0.R.X0, .int .i64 p0.R.Y0, .int .i64 p0.R.X1, .int .i64 p0.R.Y1]) rfl) ⟨rfl, trivial⟩ trivial rfl rfl rfl rfl (fun _ => rfl) fun b1 => ?_
  refine HQ.pu Pu.assign ⟨rfl, trivial⟩ rfl rfl rfl ?_
  refine HQ.done ?_
  refine HQ.keep [(1, _), (2, _)] ⟨rfl, rfl, trivial⟩ ?_
  refine HQ.seq ?_
  refine HQ.rseq ?_
  refine HQ.pu (Pu.fieldB fo196_0 rfl) ⟨rfl, trivial⟩ rfl rfl rfl ?_
  refine HQ.op [1] [1] (OT.loadB sc3 rfl) ⟨rfl, trivial⟩ ⟨rfl, trivial⟩ rfl rfl rfl rfl (fun _ => rfl) fun _ => ?_
  obtain ⟨t2, h3, H⟩ := bnd H
  refine HQ.op [] [] (OT.call (us := [_, _, _]) (Pre := []) [.tmp 4, .const (.int .i64 0), .const (.int .i64 65535)] Try.call91 rfl rfl fun w F hs hF hp => impl_in_c h3) ⟨rfl, rfl, rfl, rfl, trivial⟩ trivial rfl rfl rfl rfl (fun _ => rfl) fun _ => ?_
  refine HQ.pu Pu.not ⟨rfl, trivial⟩ rfl rfl rfl ?_
  refine HQ.pu Pu.move ⟨rfl, trivial⟩ rfl rfl rfl ?_
  obtain ⟨c7, h8, H⟩ := bnd H
  refine HQ.cutAt 5 [(12, .bool c7), (1, BP b1 0), (2, .slice none 0 0)] [(1, Box b1 [.int .i64 p0.N, .int .i64 p0.R.X0, .int .i64 p0.R.Y0, .int .i64 p0.R.X1, .int .i64 p0.R.Y1])] ?_ ?_
  · clear H
    have H := h8
    rcases brk H with ⟨hg4, H⟩ | ⟨hg4, H⟩
    · obtain rfl := Option.some.inj H
      refine HQ.off rfl rfl hg4 rfl ?_
      refine HQ.off rfl rfl hg4 rfl ?_
      refine HQ.off rfl rfl hg4 rfl ?_
      refine HQ.off rfl rfl hg4 rfl ?_
      refine HQ.pu (Pu.pickC1 hg4) ⟨rfl, rfl, trivial⟩ rfl rfl rfl ?_
      exact HQ.mid ⟨rfl, rfl, rfl, trivial⟩ ⟨rfl, trivial⟩ rfl
    · refine HQ.on rfl rfl hg4 ?_
      refine HQ.pu (Pu.fieldB fo196_1 rfl) ⟨rfl, trivial⟩ rfl rfl rfl ?_
      refine HQ.on rfl rfl hg4 ?_
      refine HQ.op [1] [1] (OT.loadBA (vs := [.int .i64 p0.R.X0, .int .i64 p0.R.Y0, .int .i64 p0.R.X1, .int .i64 p0.R.Y1]) ag194 sz194 rfl rfl) ⟨rfl, trivial⟩ ⟨rfl, trivial⟩ rfl rfl rfl rfl (fun _ => rfl) fun _ => ?_
      refine HQ.on rfl rfl hg4 ?_
      obtain ⟨t5, h6, H⟩ := bnd H
      refine HQ.op [] [] (OT.call (us := [_]) (Pre := []) [.tmp 9] Try.call184 rfl rfl fun w F hs hF hp => impl_BoxOk_c h6) ⟨rfl, rfl, trivial⟩ trivial rfl rfl rfl rfl (fun _ => rfl) fun _ => ?_
      refine HQ.on rfl rfl hg4 ?_
      refine HQ.pu Pu.not ⟨rfl, trivial⟩ rfl rfl rfl ?_
      obtain rfl := Option.some.inj H
      refine HQ.pu (Pu.pickC0 hg4) ⟨rfl, rfl, trivial⟩ rfl rfl rfl ?_
      exact HQ.mid ⟨rfl, rfl, rfl, trivial⟩ ⟨rfl, trivial⟩ rfl
  refine HQ.done ?_
  refine HQ.keep [(12, _), (1, _), (2, _)] ⟨rfl, rfl, rfl, trivial⟩ ?_
  rcases brk H with ⟨hc, H⟩ | ⟨hc, H⟩
  · refine HQ.condT rfl hc ?_
    clear hc
    refine HQ.rseq ?_
    refine HQ.pu Pu.assign ⟨rfl, trivial⟩ rfl rfl rfl ?_
    refine HQ.done ?_
    refine HQ.keep [(1, _), (2, _)] ⟨rfl, rfl, trivial⟩ ?_
    refine HQ.ret ?_
    refine HQ.thenR ?_
    obtain rfl := Option.some.inj H
    refine HQ.nil kU8 2 rfl ?_
    exact HQ.fin (vs := [_]) Try.results187 (none, 0) ⟨rfl, trivial⟩ rfl [2] ⟨rfl, trivial⟩ rfl
  · refine HQ.condF rfl hc ?_
    clear hc
    refine HQ.skipThen ?_
    obtain ⟨t10, h11, H⟩ := bnd H
    refine HQ.drawS mixd [(1, BP b1 0), (2, .slice none 0 0)] 20 [⟨[], [], []⟩, ⟨[0], [0], [0]⟩, ⟨[], [1], [1]⟩, ⟨[], [], []⟩, ⟨[], [], [3]⟩, ⟨[0], [0], [4]⟩, ⟨[], [], [5]⟩, ⟨[], [], []⟩, ⟨[], [], [7]⟩, ⟨[0], [0], [8]⟩, ⟨[], [], [9]⟩, ⟨[], [], []⟩, ⟨[], [], [11]⟩, ⟨[0], [0], [12]⟩, ⟨[], [], [13]⟩, ⟨[], [], []⟩, ⟨[], [], [15]⟩, ⟨[0], [0], [16]⟩, ⟨[], [], [17]⟩, ⟨[], [2], [6, 10, 14, 18]⟩] [⟨none, none⟩, ⟨some 2, none⟩, ⟨some 19, none⟩] (fun (g9 : (Option Addr × Nat) × (Option Addr × Nat)) => [BP b1 0, .int .i64 p0.N, .slice g9.1.1 (List.length t10) g9.1.2, BP b1 1, BP b1 1, .int .i64 p0.R.X0, .int .u8 (IntKind.u8.wrap p0.R.X0), BP b1 1, BP b1 2, .int .i64 p0.R.Y0, .int .u8 (IntKind.u8.wrap p0.R.Y0), BP b1 1, BP b1 3, .int .i64 p0.R.X1, .int .u8 (IntKind.u8.wrap p0.R.X1), BP b1 1, BP b1 4, .int .i64 p0.R.Y1, .int .u8 (IntKind.u8.wrap p0.R.Y1), .slice g9.2.1 (List.length ([(IntKind.u8.wrap p0.R.X0), (IntKind.u8.wrap p0.R.Y0), (IntKind.u8.wrap p0.R.X1), (IntKind.u8.wrap p0.R.Y1)] : (List Int))) g9.2.2]) (fun (g9 : (Option Addr × Nat) × (Option Addr × Nat)) => [Box b1 [.int .i64 p0.N, .int .i64 p0.R.X0, .int .i64 p0.R.Y0, .int .i64 p0.R.X1, .int .i64 p0.R.Y1], OwnS kU8 g9.1.1 g9.1.2 t10, OwnS kU8 g9.2.1 g9.2.2 ([(IntKind.u8.wrap p0.R.X0), (IntKind.u8.wrap p0.R.Y0), (IntKind.u8.wrap p0.R.X1), (IntKind.u8.wrap p0.R.Y1)] : (List Int))]) ((none, 0), (none, 0)) [1] [1, 3, 4] [] ⟨rfl, rfl, trivial⟩ ⟨rfl, trivial⟩ rfl (by kernel_rfl) (fun _ => rfl) (by kernel_rfl) (fun _ => rfl) ⟨?_, ?_, ?_, ?_, ?_, ?_, ?_, ?_, ?_, ?_, ?_, ?_, ?_, ?_, ?_, ?_, ?_, ?_, ?_, ?_, trivial⟩ fun g9 => ?_
    · exact OpOK.of (fun g9 => [(.tmp 1, BP b1 0)]) _ _ (fun g9 _ => g9) rfl rfl (fun _ => ⟨rfl, trivial⟩) (fun g9 => Pu.toOT (Pu.fieldB fo196_0 rfl)) (fun _ _ => ⟨rfl, rfl, ⟨rfl, rfl, rfl, trivial⟩⟩)
    · exact OpOK.of (fun g9 => [(.tmp 13, BP b1 0)]) _ _ (fun g9 _ => g9) rfl rfl (fun _ => ⟨rfl, trivial⟩) (fun g9 => OT.loadB sc3 rfl) (fun _ _ => ⟨rfl, rfl, ⟨rfl, rfl, rfl, trivial⟩⟩)
    · exact OpOK.of (fun g9 => [(.func 162, .func (.func 162) #[] #[]), (.const (.slice none 0 0), .slice none 0 0), (.tmp 14, .int .i64 p0.N)]) _ _ (fun g9 x => (x, g9.2)) rfl rfl (fun _ => ⟨rfl, rfl, rfl, trivial⟩) (fun g9 => OT.call (us := [_, _]) (Pre := []) [.const (.slice none 0 0), .tmp 14] Try.call162 rfl rfl fun w F hs hF hp => impl_Put2_c (p0 := ([] : (List Int))) (p1 := p0.N) nilB h11) (fun _ _ => ⟨rfl, rfl, ⟨rfl, rfl, rfl, trivial⟩⟩)
    · exact OpOK.of (fun g9 => [(.tmp 1, BP b1 0)]) _ _ (fun g9 _ => g9) rfl rfl (fun _ => ⟨rfl, trivial⟩) (fun g9 => Pu.toOT (Pu.fieldB fo196_1 rfl)) (fun _ _ => ⟨rfl, rfl, ⟨rfl, rfl, rfl, trivial⟩⟩)
    · exact OpOK.of (fun g9 => [(.tmp 16, BP b1 1)]) _ _ (fun g9 _ => g9) rfl rfl (fun _ => ⟨rfl, trivial⟩) (fun g9 => Pu.toOT (Pu.fieldB fo194_0 rfl)) (fun _ _ => ⟨rfl, rfl, ⟨rfl, rfl, rfl, trivial⟩⟩)
    · exact OpOK.of (fun g9 => [(.tmp 17, BP b1 1)]) _ _ (fun g9 _ => g9) rfl rfl (fun _ => ⟨rfl, trivial⟩) (fun g9 => OT.loadB sc3 rfl) (fun _ _ => ⟨rfl, rfl, ⟨rfl, rfl, rfl, trivial⟩⟩)
    · exact OpOK.of (fun g9 => [(.tmp 18, .int .i64 p0.R.X0)]) _ _ (fun g9 _ => g9) rfl rfl (fun _ => ⟨rfl, trivial⟩) (fun g9 => Pu.toOT (Pu.conv ul3 ul5)) (fun _ _ => ⟨rfl, rfl, ⟨rfl, rfl, rfl, trivial⟩⟩)
    · exact OpOK.of (fun g9 => [(.tmp 1, BP b1 0)]) _ _ (fun g9 _ => g9) rfl rfl (fun _ => ⟨rfl, trivial⟩) (fun g9 => Pu.toOT (Pu.fieldB fo196_1 rfl)) (fun _ _ => ⟨rfl, rfl, ⟨rfl, rfl, rfl, trivial⟩⟩)
    · exact OpOK.of (fun g9 => [(.tmp 20, BP b1 1)]) _ _ (fun g9 _ => g9) rfl rfl (fun _ => ⟨rfl, trivial⟩) (fun g9 => Pu.toOT (Pu.fieldB fo194_1 rfl)) (fun _ _ => ⟨rfl, rfl, ⟨rfl, rfl, rfl, trivial⟩⟩)
    · exact OpOK.of (fun g9 => [(.tmp 21, BP b1 2)]) _ _ (fun g9 _ => g9) rfl rfl (fun _ => ⟨rfl, trivial⟩) (fun g9 => OT.loadB sc3 rfl) (fun _ _ => ⟨rfl, rfl, ⟨rfl, rfl, rfl, trivial⟩⟩)
    · exact OpOK.of (fun g9 => [(.tmp 22, .int .i64 p0.R.Y0)]) _ _ (fun g9 _ => g9) rfl rfl (fun _ => ⟨rfl, trivial⟩) (fun g9 => Pu.toOT (Pu.conv ul3 ul5)) (fun _ _ => ⟨rfl, rfl, ⟨rfl, rfl, rfl, trivial⟩⟩)
    · exact OpOK.of (fun g9 => [(.tmp 1, BP b1 0)]) _ _ (fun g9 _ => g9) rfl rfl (fun _ => ⟨rfl, trivial⟩) (fun g9 => Pu.toOT (Pu.fieldB fo196_1 rfl)) (fun _ _ => ⟨rfl, rfl, ⟨rfl, rfl, rfl, trivial⟩⟩)
    · exact OpOK.of (fun g9 => [(.tmp 24, BP b1 1)]) _ _ (fun g9 _ => g9) rfl rfl (fun _ => ⟨rfl, trivial⟩) (fun g9 => Pu.toOT (Pu.fieldB fo194_2 rfl)) (fun _ _ => ⟨rfl, rfl, ⟨rfl, rfl, rfl, trivial⟩⟩)
    · exact OpOK.of (fun g9 => [(.tmp 25, BP b1 3)]) _ _ (fun g9 _ => g9) rfl rfl (fun _ => ⟨rfl, trivial⟩) (fun g9 => OT.loadB sc3 rfl) (fun _ _ => ⟨rfl, rfl, ⟨rfl, rfl, rfl, trivial⟩⟩)
    · exact OpOK.of (fun g9 => [(.tmp 26, .int .i64 p0.R.X1)]) _ _ (fun g9 _ => g9) rfl rfl (fun _ => ⟨rfl, trivial⟩) (fun g9 => Pu.toOT (Pu.conv ul3 ul5)) (fun _ _ => ⟨rfl, rfl, ⟨rfl, rfl, rfl, trivial⟩⟩)
    · exact OpOK.of (fun g9 => [(.tmp 1, BP b1 0)]) _ _ (fun g9 _ => g9) rfl rfl (fun _ => ⟨rfl, trivial⟩) (fun g9 => Pu.toOT (Pu.fieldB fo196_1 rfl)) (fun _ _ => ⟨rfl, rfl, ⟨rfl, rfl, rfl, trivial⟩⟩)
    · exact OpOK.of (fun g9 => [(.tmp 28, BP b1 1)]) _ _ (fun g9 _ => g9) rfl rfl (fun _ => ⟨rfl, trivial⟩) (fun g9 => Pu.toOT (Pu.fieldB fo194_3 rfl)) (fun _ _ => ⟨rfl, rfl, ⟨rfl, rfl, rfl, trivial⟩⟩)
    · exact OpOK.of (fun g9 => [(.tmp 29, BP b1 4)]) _ _ (fun g9 _ => g9) rfl rfl (fun _ => ⟨rfl, trivial⟩) (fun g9 => OT.loadB sc3 rfl) (fun _ _ => ⟨rfl, rfl, ⟨rfl, rfl, rfl, trivial⟩⟩)
    · exact OpOK.of (fun g9 => [(.tmp 30, .int .i64 p0.R.Y1)]) _ _ (fun g9 _ => g9) rfl rfl (fun _ => ⟨rfl, trivial⟩) (fun g9 => Pu.toOT (Pu.conv ul3 ul5)) (fun _ _ => ⟨rfl, rfl, ⟨rfl, rfl, rfl, trivial⟩⟩)
    · exact OpOK.of (fun g9 => [(.tmp 19, .int .u8 (IntKind.u8.wrap p0.R.X0)), (.tmp 23, .int .u8 (IntKind.u8.wrap p0.R.Y0)), (.tmp 27, .int .u8 (IntKind.u8.wrap p0.R.X1)), (.tmp 31, .int .u8 (IntKind.u8.wrap p0.R.Y1))]) _ _ (fun g9 x => (g9.1, x)) rfl rfl (fun _ => ⟨rfl, rfl, rfl, rfl, trivial⟩) (fun g9 => OT.buildF (us := [.int .u8 (IntKind.u8.wrap p0.R.X0), .int .u8 (IntKind.u8.wrap p0.R.Y0), .int .u8 (IntKind.u8.wrap p0.R.X1), .int .u8 (IntKind.u8.wrap p0.R.Y1)]) (ys := ([(IntKind.u8.wrap p0.R.X0), (IntKind.u8.wrap p0.R.Y0), (IntKind.u8.wrap p0.R.X1), (IntKind.u8.wrap p0.R.Y1)] : (List Int))) (enc := (encI .u8)) (hl := fun _ => ⟨rfl, rfl⟩) [.tmp 19, .tmp 23, .tmp 27, .tmp 31] sl37.ul sl37.szE sl37.zc rfl rfl rfl rfl rfl) (fun _ _ => ⟨rfl, rfl, ⟨rfl, rfl, rfl, trivial⟩⟩)
    refine HQ.keep [(2, _), (15, _), (32, _)] ⟨rfl, rfl, rfl, trivial⟩ ?_
    refine HQ.keepR [(1, _), (3, _), (4, _)] ⟨rfl, rfl, rfl, trivial⟩ rfl ?_
    obtain ⟨h18, H⟩ := asr H
    refine HQ.op [3, 4] [3, 4] (OT.appendG (enc := (encI .u8)) (hl := fun _ => ⟨rfl, rfl⟩) sl37 ul37 h18) ⟨rfl, rfl, trivial⟩ ⟨rfl, rfl, trivial⟩ rfl rfl rfl rfl (fun _ => rfl) fun ⟨a16, c17⟩ => ?_
    refine HQ.pu Pu.assign ⟨rfl, trivial⟩ rfl rfl rfl ?_
    refine HQ.done ?_
    refine HQ.keep [(2, _)] ⟨rfl, trivial⟩ ?_
    refine HQ.ret ?_
    obtain rfl := Option.some.inj H
    exact HQ.fin (vs := [_]) Try.results187 (a16, c17) ⟨rfl, trivial⟩ rfl [3] ⟨rfl, trivial⟩ rfl

/-! impl.Pad -/
theorem impl_Pad_c {w : World} {k : Nat} {p0 : (List Int)} {p1 : Int} {a_0 : Option Addr} {c_0 : Nat} (hb_0 : BorS kU8 a_0 c_0 p0 w.heap (Lt w Nil)) {r : (List Int)} (H : impl_Pad k p0 p1 = some r) :
    Calls Try.prog 92 #[.slice a_0 (List.length p0) c_0, .int .i64 p1] w (Rt w Nil (fun g : Option Addr × Nat => .slice g.1 (List.length r) g.2) (fun g => [OwnS kU8 g.1 g.2 r])) := by
  rw [impl_Pad] at H
  refine Calls.enter0 (N := 19) (us := [_, _]) Try.func92 rfl rfl rfl ?_
  refine HQ.rseq ?_
  refine HQ.pu Pu.assign ⟨rfl, trivial⟩ rfl rfl rfl ?_
  refine HQ.done ?_
  refine HQ.keep [(0, _), (1, _), (4, _)] ⟨rfl, rfl, rfl, trivial⟩ ?_
  refine HQ.rseq ?_
  refine HQ.pu Pu.move ⟨rfl, trivial⟩ rfl rfl rfl ?_
  obtain ⟨t1, h2, H⟩ := bnd H
  refine HQ.op [] [1] (OT.call (us := [_]) (Pre := []) [.tmp 6] Try.call154 rfl rfl fun w F hs hF hp => slices_Clone_byte_byte_c (hb_0.pass hp) h2) ⟨rfl, rfl, trivial⟩ trivial rfl rfl rfl rfl (fun _ => rfl) fun ⟨a3, c4⟩ => ?_
  refine HQ.pu Pu.assign ⟨rfl, trivial⟩ rfl rfl rfl ?_
  refine HQ.done ?_
  refine HQ.keep [(1, _), (4, _), (5, _)] ⟨rfl, rfl, rfl, trivial⟩ ?_
  refine HQ.seq ?_
  refine HQ.rseq ?_
  refine HQ.pu Pu.move ⟨rfl, trivial⟩ rfl rfl rfl ?_
  refine HQ.pu Pu.gtr ⟨rfl, rfl, trivial⟩ rfl rfl rfl ?_
  refine HQ.done ?_
  refine HQ.keep [(1, _), (4, _), (5, _), (9, _)] ⟨rfl, rfl, rfl, rfl, trivial⟩ ?_
  rcases brk H with ⟨hc, H⟩ | ⟨hc, H⟩
  · refine HQ.condT rfl hc ?_
    clear hc
    refine HQ.rseq ?_
    refine HQ.pu Pu.move ⟨rfl, trivial⟩ rfl rfl rfl ?_
    refine HQ.pu Pu.assign ⟨rfl, trivial⟩ rfl rfl rfl ?_
    refine HQ.done ?_
    refine HQ.keep [(1, _), (4, _), (5, _)] ⟨rfl, rfl, rfl, trivial⟩ ?_
    refine HQ.ret ?_
    refine HQ.thenR ?_
    obtain rfl := Option.some.inj H
    exact HQ.fin (vs := [_]) Try.results92 (a3, c4) ⟨rfl, trivial⟩ rfl [1] ⟨rfl, trivial⟩ rfl
  · refine HQ.condF rfl hc ?_
    clear hc
    refine HQ.skipThen ?_
    refine HQ.seq ?_
    refine HQ.block ?_
    obtain ⟨o23, h27, H⟩ := bnd H
    refine HQ.loop h27 0 (fun (s : (List Int)) (g : Option Addr × Nat) => match s, g with | l10, (a11, c12) => [(1, .int .i64 p1), (4, .slice none 0 0), (5, .slice a11 (List.length l10) c12)]) (fun (s : (List Int)) (g : Option Addr × Nat) => match s, g with | l10, (a11, c12) => [(1, OwnS kU8 a11 c12 l10)]) (fun _ _ _ => False) (a3, c4) ⟨rfl, rfl, rfl, trivial⟩ ⟨rfl, trivial⟩ rfl ?_ ?_ ?_
    · clear H h27
      rintro l10 ⟨a11, c12⟩ o H
      rw [impl_Pad_b0] at H
      refine HQ.keep [(1, _), (4, _), (5, _)] ⟨rfl, rfl, rfl, trivial⟩ ?_
      refine HQ.keepR [(1, _)] ⟨rfl, trivial⟩ rfl ?_
      refine HQ.seq ?_
      refine HQ.rseq ?_
      refine HQ.pu Pu.move ⟨rfl, trivial⟩ rfl rfl rfl ?_
      refine HQ.pu (Pu.len ul37) ⟨rfl, trivial⟩ rfl rfl rfl ?_
      refine HQ.pu Pu.move ⟨rfl, trivial⟩ rfl rfl rfl ?_
      refine HQ.pu Pu.lss ⟨rfl, rfl, trivial⟩ rfl rfl rfl ?_
      refine HQ.done ?_
      refine HQ.keep [(1, _), (4, _), (5, _), (14, _)] ⟨rfl, rfl, rfl, rfl, trivial⟩ ?_
      rcases brk H with ⟨hc, H⟩ | ⟨hc, H⟩
      · refine HQ.condT rfl hc ?_
        clear hc
        refine HQ.skipThen ?_
        refine HQ.block ?_
        refine HQ.regionQ ?_
        refine HQ.pu Pu.move ⟨rfl, trivial⟩ rfl rfl rfl ?_
        refine HQ.op [] [4] (OT.buildF (us := [.int .u8 0]) (ys := ([0] : (List Int))) (enc := (encI .u8)) (hl := fun _ => ⟨rfl, rfl⟩) [.const (.int .u8 0)] sl37.ul sl37.szE sl37.zc rfl rfl rfl rfl rfl) ⟨rfl, trivial⟩ trivial rfl rfl rfl rfl (fun _ => rfl) fun ⟨a18, c19⟩ => ?_
        obtain ⟨h22, H⟩ := asr H
        refine HQ.op [1, 4] [1, 4] (OT.appendG (enc := (encI .u8)) (hl := fun _ => ⟨rfl, rfl⟩) sl37 ul37 h22) ⟨rfl, rfl, trivial⟩ ⟨rfl, rfl, trivial⟩ rfl rfl rfl rfl (fun _ => rfl) fun ⟨a20, c21⟩ => ?_
        refine HQ.pu Pu.assign ⟨rfl, trivial⟩ rfl rfl rfl ?_
        refine HQ.done ?_
        refine HQ.keep [(1, _), (4, _), (5, _)] ⟨rfl, rfl, rfl, trivial⟩ ?_
        refine HQ.blkN ?_
        obtain rfl := Option.some.inj H
        exact HQ.next (a20, c21) ⟨rfl, rfl, rfl, trivial⟩ ⟨rfl, trivial⟩ rfl
      · refine HQ.condF rfl hc ?_
        clear hc
        refine HQ.exit ?_
        refine HQ.thenE ?_
        obtain rfl := Option.some.inj H
        exact HQ.out (a11, c12) ⟨rfl, rfl, rfl, trivial⟩ ⟨rfl, trivial⟩ rfl
    · rintro l24 rfl ⟨a25, c26⟩
      clear h27
      replace H := H
      refine HQ.keep [(1, _), (4, _), (5, _)] ⟨rfl, rfl, rfl, trivial⟩ ?_
      refine HQ.keepR [(1, _)] ⟨rfl, trivial⟩ rfl ?_
      refine HQ.blkE ?_
      refine HQ.thenN ?_
      refine HQ.rseq ?_
      refine HQ.pu Pu.move ⟨rfl, trivial⟩ rfl rfl rfl ?_
      refine HQ.pu Pu.assign ⟨rfl, trivial⟩ rfl rfl rfl ?_
      refine HQ.done ?_
      refine HQ.keep [(4, _)] ⟨rfl, trivial⟩ ?_
      refine HQ.ret ?_
      obtain rfl := Option.some.inj H
      exact HQ.fin (vs := [_]) Try.results92 (a25, c26) ⟨rfl, trivial⟩ rfl [1] ⟨rfl, trivial⟩ rfl
    · exact fun r h a w hf => hf.elim

/-! impl.PutNode -/
theorem impl_PutNode_c {w : World} {k : Nat} {p0 : TNode} {a_0 : Option Addr} {c_0 : Nat} (hb_0 : BorS kTEntry a_0 c_0 p0.L w.heap (Lt w Nil)) {r : (List Int)} (H : impl_PutNode k p0 = some r) :
    Calls Try.prog 168 #[.agg #[.bool p0.Leaf, .slice a_0 (List.length p0.L) c_0]] w (Rt w Nil (fun g : Option Addr × Nat => .slice g.1 (List.length r) g.2) (fun g => [OwnS kU8 g.1 g.2 r])) := by
  rw [impl_PutNode] at H
  refine Calls.enter0 (N := 34) (us := [_]) Try.func168 rfl rfl rfl ?_
  refine HQ.rseq ?_
  refine HQ.op [] [1] (OT.box (cs := [.bool p0.Leaf, .slice a_0 (List.length p0.L) c_0]) rfl) ⟨rfl, trivial⟩ trivial rfl rfl rfl rfl (fun _ => rfl) fun b1 => ?_
  refine HQ.pu Pu.assign ⟨rfl, trivial⟩ rfl rfl rfl ?_
  refine HQ.done ?_
  refine HQ.keep [(1, _), (2, _)] ⟨rfl, rfl, trivial⟩ ?_
  refine HQ.seq ?_
  refine HQ.rseq ?_
  refine HQ.op [1] [1] (OT.loadBA (vs := [.bool p0.Leaf, .slice a_0 (List.length p0.L) c_0]) ag79 sz79 rfl rfl) ⟨rfl, trivial⟩ ⟨rfl, trivial⟩ rfl rfl rfl rfl (fun _ => rfl) fun _ => ?_
  obtain ⟨t2, h3, H⟩ := bnd H
  refine HQ.op [] [] (OT.call (us := [_]) (Pre := []) [.tmp 7] Try.call160 rfl rfl fun w F hs hF hp => impl_NodeOk_c (hb_0.pass hp) h3) ⟨rfl, rfl, trivial⟩ trivial rfl rfl rfl rfl (fun _ => rfl) fun _ => ?_
  refine HQ.pu Pu.not ⟨rfl, trivial⟩ rfl rfl rfl ?_
  refine HQ.done ?_
  refine HQ.keep [(1, _), (2, _), (9, _)] ⟨rfl, rfl, rfl, trivial⟩ ?_
  rcases brk H with ⟨hc, H⟩ | ⟨hc, H⟩
  · refine HQ.condT rfl hc ?_
    clear hc
    refine HQ.rseq ?_
    refine HQ.pu Pu.assign ⟨rfl, trivial⟩ rfl rfl rfl ?_
    refine HQ.done ?_
    refine HQ.keep [(1, _), (2, _)] ⟨rfl, rfl, trivial⟩ ?_
    refine HQ.ret ?_
    refine HQ.thenR ?_
    obtain rfl := Option.some.inj H
    refine HQ.nil kU8 2 rfl ?_
    exact HQ.fin (vs := [_]) Try.results168 (none, 0) ⟨rfl, trivial⟩ rfl [2] ⟨rfl, trivial⟩ rfl
  · refine HQ.condF rfl hc ?_
    clear hc
    refine HQ.skipThen ?_
    refine HQ.rseq ?_
    refine HQ.pu (Pu.fieldB fo79_1 rfl) ⟨rfl, trivial⟩ rfl rfl rfl ?_
    refine HQ.op [1] [1] (OT.loadB sc77 rfl) ⟨rfl, trivial⟩ ⟨rfl, trivial⟩ rfl rfl rfl rfl (fun _ => rfl) fun _ => ?_
    refine HQ.pu (Pu.len ul77) ⟨rfl, trivial⟩ rfl rfl rfl ?_
    refine HQ.pu Pu.assign ⟨rfl, trivial⟩ rfl rfl rfl ?_
    refine HQ.done ?_
    refine HQ.keep [(1, _), (2, _), (3, _)] ⟨rfl, rfl, rfl, trivial⟩ ?_
    refine HQ.seq ?_
    refine HQ.rseq ?_
    refine HQ.pu (Pu.fieldB fo79_0 rfl) ⟨rfl, trivial⟩ rfl rfl rfl ?_
    refine HQ.op [1] [1] (OT.loadB sc4 rfl) ⟨rfl, trivial⟩ ⟨rfl, trivial⟩ rfl rfl rfl rfl (fun _ => rfl) fun _ => ?_
    refine HQ.done ?_
    refine HQ.keep [(1, _), (2, _), (3, _), (14, _)] ⟨rfl, rfl, rfl, rfl, trivial⟩ ?_
    rcases brk H with ⟨hc, H⟩ | ⟨hc, H⟩
    · refine HQ.condT rfl hc ?_
      clear hc
      refine HQ.region ?_
      refine HQ.pu Pu.move ⟨rfl, trivial⟩ rfl rfl rfl ?_
      refine HQ.pu Pu.add ⟨rfl, rfl, trivial⟩ rfl rfl rfl ?_
      refine HQ.pu Pu.assign ⟨rfl, trivial⟩ rfl rfl rfl ?_
      refine HQ.done ?_
      refine HQ.keep [(1, _), (2, _), (3, _)] ⟨rfl, rfl, rfl, trivial⟩ ?_
      refine HQ.rseq ?_
      refine HQ.pu Pu.move ⟨rfl, trivial⟩ rfl rfl rfl ?_
      refine HQ.pu (Pu.conv ul3 ul5) ⟨rfl, trivial⟩ rfl rfl rfl ?_
      refine HQ.op [] [3] (OT.buildF (us := [.int .u8 (IntKind.u8.wrap (wrap64 (((List.length p0.L : Nat) : Int) + 16)))]) (ys := ([(IntKind.u8.wrap (wrap64 (((List.length p0.L : Nat) : Int) + 16)))] : (List Int))) (enc := (encI .u8)) (hl := fun _ => ⟨rfl, rfl⟩) [.tmp 18] sl37.ul sl37.szE sl37.zc rfl rfl rfl rfl rfl) ⟨rfl, trivial⟩ trivial rfl rfl rfl rfl (fun _ => rfl) fun ⟨a4, c5⟩ => ?_
      refine HQ.pu Pu.assign ⟨rfl, trivial⟩ rfl rfl rfl ?_
      refine HQ.done ?_
      refine HQ.keep [(1, _), (2, _), (4, _)] ⟨rfl, rfl, rfl, trivial⟩ ?_
      refine HQ.seq ?_
      refine HQ.rseq ?_
      refine HQ.pu (Pu.fieldB fo79_1 rfl) ⟨rfl, trivial⟩ rfl rfl rfl ?_
      refine HQ.op [1] [1] (OT.loadB sc77 rfl) ⟨rfl, trivial⟩ ⟨rfl, trivial⟩ rfl rfl rfl rfl (fun _ => rfl) fun _ => ?_
      refine HQ.pu (Pu.len ul77) ⟨rfl, trivial⟩ rfl rfl rfl ?_
      refine HQ.pu Pu.move ⟨rfl, trivial⟩ rfl rfl rfl ?_
      refine HQ.done ?_
      refine HQ.keep [(2, _), (4, _), (21, _), (22, _), (23, _)] ⟨rfl, rfl, rfl, rfl, rfl, trivial⟩ ?_
      refine HQ.block ?_
      obtain ⟨o37, h46, H⟩ := bnd H
      refine HQ.loop h46 0 (fun (s : (List Int) × Int) (g : Option Addr × Nat) => match s, g with | (l15, i18), (a16, c17) => [(2, .slice none 0 0), (4, .slice a16 (List.length l15) c17), (21, .slice a_0 (List.length p0.L) c_0), (22, .int .i64 ((List.length p0.L : Nat) : Int)), (23, .int .i64 i18)]) (fun (s : (List Int) × Int) (g : Option Addr × Nat) => match s, g with | (l15, i18), (a16, c17) => [(3, OwnS kU8 a16 c17 l15)]) (fun _ _ _ => False) (a4, c5) ⟨rfl, rfl, rfl, rfl, rfl, trivial⟩ ⟨rfl, trivial⟩ rfl ?_ ?_ ?_
      · clear H h46
        rintro ⟨l15, i18⟩ ⟨a16, c17⟩ o H
        rw [impl_PutNode_b0] at H
        refine HQ.keep [(2, _), (4, _), (21, _), (22, _), (23, _)] ⟨rfl, rfl, rfl, rfl, rfl, trivial⟩ ?_
        refine HQ.keepR [(3, _)] ⟨rfl, trivial⟩ rfl ?_
        refine HQ.rseq ?_
        refine HQ.pu Pu.lss ⟨rfl, rfl, trivial⟩ rfl rfl rfl ?_
        refine HQ.done ?_
        refine HQ.keep [(2, _), (4, _), (21, _), (22, _), (23, _), (24, _)] ⟨rfl, rfl, rfl, rfl, rfl, rfl, trivial⟩ ?_
        refine HQ.seq ?_
        rcases brk H with ⟨hc, H⟩ | ⟨hc, H⟩
        · refine HQ.condT rfl hc ?_
          clear hc
          refine HQ.skipThen ?_
          refine HQ.seq ?_
          refine HQ.block ?_
          refine HQ.rseq ?_
          obtain ⟨h28, H⟩ := asr H
          refine HQ.op [] [] (OT.indexB ul77 sz196 hb_0 h28) ⟨rfl, rfl, trivial⟩ trivial rfl rfl rfl rfl (fun _ => rfl) fun _ => ?_
          refine HQ.op [] [] (OT.loadFA (vs := [.int .i64 ((gt p0.L i18).N), .int .i64 ((gt p0.L i18).R.X0), .int .i64 ((gt p0.L i18).R.Y0), .int .i64 ((gt p0.L i18).R.X1), .int .i64 ((gt p0.L i18).R.Y1)]) ag196 sz196 hb_0 h28 rfl rfl) ⟨rfl, trivial⟩ trivial rfl rfl rfl rfl (fun _ => rfl) fun _ => ?_
          refine HQ.op [] [8] (OT.alloc zc196) trivial trivial rfl rfl rfl rfl (fun _ => rfl) fun b29 => ?_
          refine HQ.opN [8] [8] [] (OT.storeC (cs' := [.int .i64 ((gt p0.L i18).N), .int .i64 ((gt p0.L i18).R.X0), .int .i64 ((gt p0.L i18).R.Y0), .int .i64 ((gt p0.L i18).R.X1), .int .i64 ((gt p0.L i18).R.Y1)]) sz196 rfl rfl rfl rfl rfl) ⟨rfl, rfl, trivial⟩ ⟨rfl, trivial⟩ rfl rfl rfl (fun _ => rfl) fun _ => ?_
          refine HQ.done ?_
          refine HQ.keep [(2, _), (4, _), (21, _), (22, _), (23, _), (6, _)] ⟨rfl, rfl, rfl, rfl, rfl, rfl, trivial⟩ ?_
          refine HQ.regionQ ?_
          refine HQ.pu Pu.move ⟨rfl, trivial⟩ rfl rfl rfl ?_
          refine HQ.op [8] [8] (OT.loadBA (vs := [.int .i64 ((gt p0.L i18).N), .int .i64 ((gt p0.L i18).R.X0), .int .i64 ((gt p0.L i18).R.Y0), .int .i64 ((gt p0.L i18).R.X1), .int .i64 ((gt p0.L i18).R.Y1)]) ag196 sz196 rfl rfl) ⟨rfl, trivial⟩ ⟨rfl, trivial⟩ rfl rfl rfl rfl (fun _ => rfl) fun _ => ?_
          obtain ⟨t30, h31, H⟩ := bnd H
          refine HQ.op [] [9] (OT.call (us := [_]) (Pre := []) [.tmp 28] Try.call187 rfl rfl fun w F hs hF hp => impl_PutEntry_c h31) ⟨rfl, rfl, trivial⟩ trivial rfl rfl rfl rfl (fun _ => rfl) fun ⟨a32, c33⟩ => ?_
          obtain ⟨h36, H⟩ := asr H
          refine HQ.op [3, 9] [3, 9] (OT.appendG (enc := (encI .u8)) (hl := fun _ => ⟨rfl, rfl⟩) sl37 ul37 h36) ⟨rfl, rfl, trivial⟩ ⟨rfl, rfl, trivial⟩ rfl rfl rfl rfl (fun _ => rfl) fun ⟨a34, c35⟩ => ?_
          refine HQ.pu Pu.assign ⟨rfl, trivial⟩ rfl rfl rfl ?_
          refine HQ.done ?_
          refine HQ.keep [(2, _), (4, _), (21, _), (22, _), (23, _)] ⟨rfl, rfl, rfl, rfl, rfl, trivial⟩ ?_
          refine HQ.blkN ?_
          refine HQ.thenN ?_
          refine HQ.regionQ ?_
          refine HQ.pu Pu.add ⟨rfl, rfl, trivial⟩ rfl rfl rfl ?_
          refine HQ.pu Pu.move ⟨rfl, trivial⟩ rfl rfl rfl ?_
          refine HQ.done ?_
          refine HQ.keep [(2, _), (4, _), (21, _), (22, _), (23, _)] ⟨rfl, rfl, rfl, rfl, rfl, trivial⟩ ?_
          obtain rfl := Option.some.inj H
          exact HQ.next (a34, c35) ⟨rfl, rfl, rfl, rfl, rfl, trivial⟩ ⟨rfl, trivial⟩ rfl
        · refine HQ.condF rfl hc ?_
          clear hc
          refine HQ.exit ?_
          refine HQ.thenE ?_
          obtain rfl := Option.some.inj H
          exact HQ.out (a16, c17) ⟨rfl, rfl, rfl, rfl, rfl, trivial⟩ ⟨rfl, trivial⟩ rfl
      · rintro ⟨l38, i41⟩ rfl ⟨a39, c40⟩
        clear h46
        replace H := H
        refine HQ.keep [(2, _), (4, _), (21, _), (22, _), (23, _)] ⟨rfl, rfl, rfl, rfl, rfl, trivial⟩ ?_
        refine HQ.keepR [(3, _)] ⟨rfl, trivial⟩ rfl ?_
        refine HQ.blkE ?_
        refine HQ.thenN ?_
        refine HQ.rseq ?_
        refine HQ.pu Pu.move ⟨rfl, trivial⟩ rfl rfl rfl ?_
        obtain ⟨t42, h43, H⟩ := bnd H
        refine HQ.op [3] [10, 3] (OT.call (us := [_, _]) (Pre := [OwnS kU8 a39 c40 l38]) [.tmp 32, .const (.int .i64 25)] Try.call92 rfl rfl fun w F hs hF hp => impl_Pad_c (hs.lend hF 0 rfl) h43) ⟨rfl, rfl, rfl, trivial⟩ ⟨rfl, trivial⟩ rfl rfl rfl rfl (fun _ => rfl) fun ⟨a44, c45⟩ => ?_
        refine HQ.pu Pu.assign ⟨rfl, trivial⟩ rfl rfl rfl ?_
        refine HQ.done ?_
        refine HQ.keep [(2, _)] ⟨rfl, trivial⟩ ?_
        refine HQ.ret ?_
        obtain rfl := Option.some.inj H
        exact HQ.fin (vs := [_]) Try.results168 (a44, c45) ⟨rfl, trivial⟩ rfl [10] ⟨rfl, trivial⟩ rfl
      · exact fun r h a w hf => hf.elim
    · refine HQ.condF rfl hc ?_
      clear hc
      refine HQ.skipThen ?_
      refine HQ.rseq ?_
      refine HQ.pu Pu.move ⟨rfl, trivial⟩ rfl rfl rfl ?_
      refine HQ.pu (Pu.conv ul3 ul5) ⟨rfl, trivial⟩ rfl rfl rfl ?_
      refine HQ.op [] [11] (OT.buildF (us := [.int .u8 (IntKind.u8.wrap ((List.length p0.L : Nat) : Int))]) (ys := ([(IntKind.u8.wrap ((List.length p0.L : Nat) : Int))] : (List Int))) (enc := (encI .u8)) (hl := fun _ => ⟨rfl, rfl⟩) [.tmp 18] sl37.ul sl37.szE sl37.zc rfl rfl rfl rfl rfl) ⟨rfl, trivial⟩ trivial rfl rfl rfl rfl (fun _ => rfl) fun ⟨a47, c48⟩ => ?_
      refine HQ.pu Pu.assign ⟨rfl, trivial⟩ rfl rfl rfl ?_
      refine HQ.done ?_
      refine HQ.keep [(1, _), (2, _), (4, _)] ⟨rfl, rfl, rfl, trivial⟩ ?_
      refine HQ.seq ?_
      refine HQ.rseq ?_
      refine HQ.pu (Pu.fieldB fo79_1 rfl) ⟨rfl, trivial⟩ rfl rfl rfl ?_
      refine HQ.op [1] [1] (OT.loadB sc77 rfl) ⟨rfl, trivial⟩ ⟨rfl, trivial⟩ rfl rfl rfl rfl (fun _ => rfl) fun _ => ?_
      refine HQ.pu (Pu.len ul77) ⟨rfl, trivial⟩ rfl rfl rfl ?_
      refine HQ.pu Pu.move ⟨rfl, trivial⟩ rfl rfl rfl ?_
      refine HQ.done ?_
      refine HQ.keep [(2, _), (4, _), (21, _), (22, _), (23, _)] ⟨rfl, rfl, rfl, rfl, rfl, trivial⟩ ?_
      refine HQ.block ?_
      obtain ⟨o80, h89, H⟩ := bnd H
      refine HQ.loop h89 0 (fun (s : (List Int) × Int) (g : Option Addr × Nat) => match s, g with | (l58, i61), (a59, c60) => [(2, .slice none 0 0), (4, .slice a59 (List.length l58) c60), (21, .slice a_0 (List.length p0.L) c_0), (22, .int .i64 ((List.length p0.L : Nat) : Int)), (23, .int .i64 i61)]) (fun (s : (List Int) × Int) (g : Option Addr × Nat) => match s, g with | (l58, i61), (a59, c60) => [(11, OwnS kU8 a59 c60 l58)]) (fun _ _ _ => False) (a47, c48) ⟨rfl, rfl, rfl, rfl, rfl, trivial⟩ ⟨rfl, trivial⟩ rfl ?_ ?_ ?_
      · clear H h89
        rintro ⟨l58, i61⟩ ⟨a59, c60⟩ o H
        rw [impl_PutNode_b1] at H
        refine HQ.keep [(2, _), (4, _), (21, _), (22, _), (23, _)] ⟨rfl, rfl, rfl, rfl, rfl, trivial⟩ ?_
        refine HQ.keepR [(11, _)] ⟨rfl, trivial⟩ rfl ?_
        refine HQ.rseq ?_
        refine HQ.pu Pu.lss ⟨rfl, rfl, trivial⟩ rfl rfl rfl ?_
        refine HQ.done ?_
        refine HQ.keep [(2, _), (4, _), (21, _), (22, _), (23, _), (24, _)] ⟨rfl, rfl, rfl, rfl, rfl, rfl, trivial⟩ ?_
        refine HQ.seq ?_
        rcases brk H with ⟨hc, H⟩ | ⟨hc, H⟩
        · refine HQ.condT rfl hc ?_
          clear hc
          refine HQ.skipThen ?_
          refine HQ.seq ?_
          refine HQ.block ?_
          refine HQ.rseq ?_
          obtain ⟨h71, H⟩ := asr H
          refine HQ.op [] [] (OT.indexB ul77 sz196 hb_0 h71) ⟨rfl, rfl, trivial⟩ trivial rfl rfl rfl rfl (fun _ => rfl) fun _ => ?_
          refine HQ.op [] [] (OT.loadFA (vs := [.int .i64 ((gt p0.L i61).N), .int .i64 ((gt p0.L i61).R.X0), .int .i64 ((gt p0.L i61).R.Y0), .int .i64 ((gt p0.L i61).R.X1), .int .i64 ((gt p0.L i61).R.Y1)]) ag196 sz196 hb_0 h71 rfl rfl) ⟨rfl, trivial⟩ trivial rfl rfl rfl rfl (fun _ => rfl) fun _ => ?_
          refine HQ.op [] [16] (OT.alloc zc196) trivial trivial rfl rfl rfl rfl (fun _ => rfl) fun b72 => ?_
          refine HQ.opN [16] [16] [] (OT.storeC (cs' := [.int .i64 ((gt p0.L i61).N), .int .i64 ((gt p0.L i61).R.X0), .int .i64 ((gt p0.L i61).R.Y0), .int .i64 ((gt p0.L i61).R.X1), .int .i64 ((gt p0.L i61).R.Y1)]) sz196 rfl rfl rfl rfl rfl) ⟨rfl, rfl, trivial⟩ ⟨rfl, trivial⟩ rfl rfl rfl (fun _ => rfl) fun _ => ?_
          refine HQ.done ?_
          refine HQ.keep [(2, _), (4, _), (21, _), (22, _), (23, _), (6, _)] ⟨rfl, rfl, rfl, rfl, rfl, rfl, trivial⟩ ?_
          refine HQ.regionQ ?_
          refine HQ.pu Pu.move ⟨rfl, trivial⟩ rfl rfl rfl ?_
          refine HQ.op [16] [16] (OT.loadBA (vs := [.int .i64 ((gt p0.L i61).N), .int .i64 ((gt p0.L i61).R.X0), .int .i64 ((gt p0.L i61).R.Y0), .int .i64 ((gt p0.L i61).R.X1), .int .i64 ((gt p0.L i61).R.Y1)]) ag196 sz196 rfl rfl) ⟨rfl, trivial⟩ ⟨rfl, trivial⟩ rfl rfl rfl rfl (fun _ => rfl) fun _ => ?_
          obtain ⟨t73, h74, H⟩ := bnd H
          refine HQ.op [] [17] (OT.call (us := [_]) (Pre := []) [.tmp 28] Try.call187 rfl rfl fun w F hs hF hp => impl_PutEntry_c h74) ⟨rfl, rfl, trivial⟩ trivial rfl rfl rfl rfl (fun _ => rfl) fun ⟨a75, c76⟩ => ?_
          obtain ⟨h79, H⟩ := asr H
          refine HQ.op [11, 17] [11, 17] (OT.appendG (enc := (encI .u8)) (hl := fun _ => ⟨rfl, rfl⟩) sl37 ul37 h79) ⟨rfl, rfl, trivial⟩ ⟨rfl, rfl, trivial⟩ rfl rfl rfl rfl (fun _ => rfl) fun ⟨a77, c78⟩ => ?_
          refine HQ.pu Pu.assign ⟨rfl, trivial⟩ rfl rfl rfl ?_
          refine HQ.done ?_
          refine HQ.keep [(2, _), (4, _), (21, _), (22, _), (23, _)] ⟨rfl, rfl, rfl, rfl, rfl, trivial⟩ ?_
          refine HQ.blkN ?_
          refine HQ.thenN ?_
          refine HQ.regionQ ?_
          refine HQ.pu Pu.add ⟨rfl, rfl, trivial⟩ rfl rfl rfl ?_
          refine HQ.pu Pu.move ⟨rfl, trivial⟩ rfl rfl rfl ?_
          refine HQ.done ?_
          refine HQ.keep [(2, _), (4, _), (21, _), (22, _), (23, _)] ⟨rfl, rfl, rfl, rfl, rfl, trivial⟩ ?_
          obtain rfl := Option.some.inj H
          exact HQ.next (a77, c78) ⟨rfl, rfl, rfl, rfl, rfl, trivial⟩ ⟨rfl, trivial⟩ rfl
        · refine HQ.condF rfl hc ?_
          clear hc
          refine HQ.exit ?_
          refine HQ.thenE ?_
          obtain rfl := Option.some.inj H
          exact HQ.out (a59, c60) ⟨rfl, rfl, rfl, rfl, rfl, trivial⟩ ⟨rfl, trivial⟩ rfl
      · rintro ⟨l81, i84⟩ rfl ⟨a82, c83⟩
        clear h89
        replace H := H
        refine HQ.keep [(2, _), (4, _), (21, _), (22, _), (23, _)] ⟨rfl, rfl, rfl, rfl, rfl, trivial⟩ ?_
        refine HQ.keepR [(11, _)] ⟨rfl, trivial⟩ rfl ?_
        refine HQ.blkE ?_
        refine HQ.thenN ?_
        refine HQ.rseq ?_
        refine HQ.pu Pu.move ⟨rfl, trivial⟩ rfl rfl rfl ?_
        obtain ⟨t85, h86, H⟩ := bnd H
        refine HQ.op [11] [18, 11] (OT.call (us := [_, _]) (Pre := [OwnS kU8 a82 c83 l81]) [.tmp 32, .const (.int .i64 25)] Try.call92 rfl rfl fun w F hs hF hp => impl_Pad_c (hs.lend hF 0 rfl) h86) ⟨rfl, rfl, rfl, trivial⟩ ⟨rfl, trivial⟩ rfl rfl rfl rfl (fun _ => rfl) fun ⟨a87, c88⟩ => ?_
        refine HQ.pu Pu.assign ⟨rfl, trivial⟩ rfl rfl rfl ?_
        refine HQ.done ?_
        refine HQ.keep [(2, _)] ⟨rfl, trivial⟩ ?_
        refine HQ.ret ?_
        obtain rfl := Option.some.inj H
        exact HQ.fin (vs := [_]) Try.results168 (a87, c88) ⟨rfl, trivial⟩ rfl [18] ⟨rfl, trivial⟩ rfl
      · exact fun r h a w hf => hf.elim

/-! bytes.Equal -/
theorem bytes_Equal_c {w : World} {p0 : (List Int)} {p1 : (List Int)} {a_0 : Option Addr} {c_0 : Nat} {a_1 : Option Addr} {c_1 : Nat} (hb_0 : BorS kU8 a_0 c_0 p0 w.heap (Lt w Nil)) (hb_1 : BorS kU8 a_1 c_1 p1 w.heap (Lt w Nil)) {r : Bool} (H : bytes_Equal p0 p1 = some r) :
    Calls Try.prog 122 #[.slice a_0 (List.length p0) c_0, .slice a_1 (List.length p1) c_1] w (Rt w Nil (fun _ : Unit => .bool r) (fun _ => [])) := by
  rw [bytes_Equal] at H
  refine Calls.enter0 (N := 10) (us := [_, _]) Try.func122 rfl rfl rfl ?_
  refine HQ.rseq ?_
  refine HQ.pu Pu.assign ⟨rfl, trivial⟩ rfl rfl rfl ?_
  refine HQ.done ?_
  refine HQ.keep [(0, _), (1, _), (4, _)] ⟨rfl, rfl, rfl, trivial⟩ ?_
  refine HQ.rseq ?_
  refine HQ.pu Pu.move ⟨rfl, trivial⟩ rfl rfl rfl ?_
  refine HQ.op [] [] (OT.convS ul37 ul5 ul9 hb_0) ⟨rfl, trivial⟩ trivial rfl rfl rfl rfl (fun _ => rfl) fun _ => ?_
  refine HQ.pu Pu.move ⟨rfl, trivial⟩ rfl rfl rfl ?_
  refine HQ.op [] [] (OT.convS ul37 ul5 ul9 hb_1) ⟨rfl, trivial⟩ trivial rfl rfl rfl rfl (fun _ => rfl) fun _ => ?_
  refine HQ.pu (Pu.eqlS ul9) ⟨rfl, rfl, trivial⟩ rfl rfl rfl ?_
  refine HQ.pu Pu.assign ⟨rfl, trivial⟩ rfl rfl rfl ?_
  refine HQ.done ?_
  refine HQ.keep [(4, _)] ⟨rfl, trivial⟩ ?_
  refine HQ.ret ?_
  obtain rfl := Option.some.inj H
  exact HQ.fin (vs := [_]) Try.results122 () ⟨rfl, trivial⟩ rfl [] trivial rfl

/-! impl.GetNode -/
theorem impl_GetNode_c {w : World} {k : Nat} {p0 : (List Int)} {a_0 : Option Addr} {c_0 : Nat} (hb_0 : BorS kU8 a_0 c_0 p0 w.heap (Lt w Nil)) {r : TNode × Bool} (H : impl_GetNode k p0 = some r) :
    Calls Try.prog 120 #[.slice a_0 (List.length p0) c_0] w (Rt w Nil (fun g : Option Addr × Nat => .tuple #[.agg #[.bool r.1.Leaf, .slice g.1 (List.length r.1.L) g.2], .bool r.2]) (fun g => [OwnS kTEntry g.1 g.2 r.1.L])) := by
  rw [impl_GetNode] at H
  refine Calls.enter0 (N := 56) (us := [_]) Try.func120 rfl rfl rfl ?_
  refine HQ.rseq ?_
  refine HQ.op [] [1] (OT.alloc zc79) trivial trivial rfl rfl rfl rfl (fun _ => rfl) fun b1 => ?_
  refine HQ.pu Pu.assign ⟨rfl, trivial⟩ rfl rfl rfl ?_
  refine HQ.done ?_
  refine HQ.keep [(0, _), (2, _), (3, _)] ⟨rfl, rfl, rfl, trivial⟩ ?_
  refine HQ.seq ?_
  refine HQ.rseq ?_
  refine HQ.pu Pu.move ⟨rfl, trivial⟩ rfl rfl rfl ?_
  refine HQ.pu (Pu.len ul37) ⟨rfl, trivial⟩ rfl rfl rfl ?_
  refine HQ.pu Pu.neq ⟨rfl, rfl, trivial⟩ rfl rfl rfl ?_
  refine HQ.done ?_
  refine HQ.keep [(0, _), (2, _), (3, _), (10, _)] ⟨rfl, rfl, rfl, rfl, trivial⟩ ?_
  rcases brk H with ⟨hc, H⟩ | ⟨hc, H⟩
  · refine HQ.condT rfl hc ?_
    clear hc
    refine HQ.rseq ?_
    refine HQ.pu (Pu.build (us := []) (cs := [.bool false, .slice none 0 0]) [] st79 rfl rfl rfl) trivial rfl rfl rfl ?_
    refine HQ.opN [1] [1] [] (OT.storeC (cs' := [.bool false, .slice none 0 0]) sz79 rfl rfl rfl rfl rfl) ⟨rfl, rfl, trivial⟩ ⟨rfl, trivial⟩ rfl rfl rfl (fun _ => rfl) fun _ => ?_
    refine HQ.pu Pu.assign ⟨rfl, trivial⟩ rfl rfl rfl ?_
    refine HQ.done ?_
    refine HQ.keep [(0, _), (2, _), (3, _)] ⟨rfl, rfl, rfl, trivial⟩ ?_
    refine HQ.ret ?_
    refine HQ.thenR ?_
    obtain rfl := Option.some.inj H
    refine HQ.nil kTEntry 2 rfl ?_
    exact HQ.fin (vs := [_, _]) Try.results120 (none, 0) ⟨⟨_, _, 1, rfl, rfl, ag79, sz79, rfl⟩, rfl, trivial⟩ rfl [2] ⟨rfl, trivial⟩ rfl
  · refine HQ.condF rfl hc ?_
    clear hc
    refine HQ.skipThen ?_
    refine HQ.rseq ?_
    refine HQ.pu Pu.move ⟨rfl, trivial⟩ rfl rfl rfl ?_
    obtain ⟨h2, H⟩ := asr H
    refine HQ.op [] [] (OT.indexB ul37 sz5 hb_0 h2) ⟨rfl, rfl, trivial⟩ trivial rfl rfl rfl rfl (fun _ => rfl) fun _ => ?_
    refine HQ.op [] [] (OT.loadF sc5 hb_0 h2 rfl) ⟨rfl, trivial⟩ trivial rfl rfl rfl rfl (fun _ => rfl) fun _ => ?_
    refine HQ.pu Pu.geq ⟨rfl, rfl, trivial⟩ rfl rfl rfl ?_
    refine HQ.pu (Pu.build (us := [.bool (decide ((gt p0 0) ≥ 16))]) (cs := [.bool (decide ((gt p0 0) ≥ 16)), .slice none 0 0]) [(0, .tmp 15)] st79 rfl rfl rfl) ⟨rfl, trivial⟩ rfl rfl rfl ?_
    refine HQ.op [] [3] (OT.alloc zc79) trivial trivial rfl rfl rfl rfl (fun _ => rfl) fun b3 => ?_
    refine HQ.opN [3] [3] [] (OT.storeC (cs' := [.bool (decide ((gt p0 0) ≥ 16)), .slice none 0 0]) sz79 rfl rfl rfl rfl rfl) ⟨rfl, rfl, trivial⟩ ⟨rfl, trivial⟩ rfl rfl rfl (fun _ => rfl) fun _ => ?_
    refine HQ.done ?_
    refine HQ.keep [(0, _), (2, _), (3, _), (4, _)] ⟨rfl, rfl, rfl, rfl, trivial⟩ ?_
    refine HQ.seq ?_
    refine HQ.rseq ?_
    refine HQ.pu Pu.move ⟨rfl, trivial⟩ rfl rfl rfl ?_
    obtain ⟨h4, H⟩ := asr H
    refine HQ.op [] [] (OT.indexB ul37 sz5 hb_0 h4) ⟨rfl, rfl, trivial⟩ trivial rfl rfl rfl rfl (fun _ => rfl) fun _ => ?_
    refine HQ.op [] [] (OT.loadF sc5 hb_0 h4 rfl) ⟨rfl, trivial⟩ trivial rfl rfl rfl rfl (fun _ => rfl) fun _ => ?_
    refine HQ.pu (Pu.rem8 (by decide)) ⟨rfl, rfl, trivial⟩ rfl rfl rfl ?_
    refine HQ.pu (Pu.conv ul5 ul3) ⟨rfl, trivial⟩ rfl rfl rfl ?_
    refine HQ.pu Pu.min ⟨rfl, rfl, trivial⟩ rfl rfl rfl ?_
    refine HQ.pu Pu.move ⟨rfl, trivial⟩ rfl rfl rfl ?_
    refine HQ.done ?_
    refine HQ.keep [(0, _), (2, _), (3, _), (4, _), (22, _), (23, _)] ⟨rfl, rfl, rfl, rfl, rfl, rfl, trivial⟩ ?_
    refine HQ.block ?_
    refine HQ.nil kTEntry 7 rfl ?_
    obtain ⟨o33, h49, H⟩ := bnd H
    refine HQ.loop h49 0 (fun (s : Int × (List TEntry)) (g : Option Addr × Nat) => match s, g with | (i13, l14), (a15, c16) => [(0, .slice a_0 (List.length p0) c_0), (2, BP b1 0), (3, .bool false), (4, BP b3 0), (22, .int .i64 (if 4 < (IntKind.i64.wrap (Int.tmod (gt p0 0) 16)) then 4 else (IntKind.i64.wrap (Int.tmod (gt p0 0) 16)))), (23, .int .i64 i13)]) (fun (s : Int × (List TEntry)) (g : Option Addr × Nat) => match s, g with | (i13, l14), (a15, c16) => [(1, Box b1 [.bool false, .slice none 0 0]), (3, Box b3 [.bool (decide ((gt p0 0) ≥ 16)), .slice a15 (List.length l14) c16]), (7, OwnS kTEntry a15 c16 l14)]) (fun r => bodyPost Try.prog Try.f120 (Rt w Nil (fun g : Option Addr × Nat => .tuple #[.agg #[.bool r.1.Leaf, .slice g.1 (List.length r.1.L) g.2], .bool r.2]) (fun g => [OwnS kTEntry g.1 g.2 r.1.L])) .ret) (none, 0) ⟨rfl, rfl, rfl, rfl, rfl, rfl, trivial⟩ ⟨rfl, rfl, rfl, trivial⟩ rfl ?_ ?_ ?_
    · clear H h49
      rintro ⟨i13, l14⟩ ⟨a15, c16⟩ o H
      rw [impl_GetNode_b0] at H
      refine HQ.keep [(0, _), (2, _), (3, _), (4, _), (22, _), (23, _)] ⟨rfl, rfl, rfl, rfl, rfl, rfl, trivial⟩ ?_
      refine HQ.keepR [(1, _), (3, _), (7, _)] ⟨rfl, rfl, rfl, trivial⟩ rfl ?_
      refine HQ.rseq ?_
      refine HQ.pu Pu.lss ⟨rfl, rfl, trivial⟩ rfl rfl rfl ?_
      refine HQ.done ?_
      refine HQ.keep [(0, _), (2, _), (3, _), (4, _), (22, _), (23, _), (24, _)] ⟨rfl, rfl, rfl, rfl, rfl, rfl, rfl, trivial⟩ ?_
      refine HQ.seq ?_
      rcases brk H with ⟨hc, H⟩ | ⟨hc, H⟩
      · refine HQ.condT rfl hc ?_
        clear hc
        refine HQ.skipThen ?_
        refine HQ.seq ?_
        refine HQ.block ?_
        refine HQ.rseq ?_
        refine HQ.pu Pu.move ⟨rfl, trivial⟩ rfl rfl rfl ?_
        refine HQ.pu Pu.assign ⟨rfl, trivial⟩ rfl rfl rfl ?_
        refine HQ.done ?_
        refine HQ.keep [(0, _), (2, _), (3, _), (4, _), (22, _), (23, _), (5, _)] ⟨rfl, rfl, rfl, rfl, rfl, rfl, rfl, trivial⟩ ?_
        refine HQ.rseq ?_
        refine HQ.pu Pu.move ⟨rfl, trivial⟩ rfl rfl rfl ?_
        refine HQ.pu Pu.move ⟨rfl, trivial⟩ rfl rfl rfl ?_
        refine HQ.pu Pu.mul ⟨rfl, rfl, trivial⟩ rfl rfl rfl ?_
        refine HQ.pu Pu.add ⟨rfl, rfl, trivial⟩ rfl rfl rfl ?_
        obtain ⟨t25, h26, H⟩ := bnd H
        refine HQ.op [] [] (OT.call (us := [_, _]) (Pre := []) [.tmp 27, .tmp 30] Try.call167 rfl rfl fun w F hs hF hp => impl_GetEntry_c (hb_0.pass hp) h26) ⟨rfl, rfl, rfl, trivial⟩ trivial rfl rfl rfl rfl (fun _ => rfl) fun _ => ?_
        refine HQ.pu Pu.move ⟨rfl, trivial⟩ rfl rfl rfl ?_
        refine HQ.pu (Pu.extract rfl) ⟨rfl, trivial⟩ rfl rfl rfl ?_
        refine HQ.pu (Pu.extract rfl) ⟨rfl, trivial⟩ rfl rfl rfl ?_
        refine HQ.op [] [10] (OT.alloc zc196) trivial trivial rfl rfl rfl rfl (fun _ => rfl) fun b27 => ?_
        refine HQ.opN [10] [10] [] (OT.storeC (cs' := [.int .i64 t25.1.N, .int .i64 t25.1.R.X0, .int .i64 t25.1.R.Y0, .int .i64 t25.1.R.X1, .int .i64 t25.1.R.Y1]) sz196 rfl rfl rfl rfl rfl) ⟨rfl, rfl, trivial⟩ ⟨rfl, trivial⟩ rfl rfl rfl (fun _ => rfl) fun _ => ?_
        refine HQ.pu Pu.assign ⟨rfl, trivial⟩ rfl rfl rfl ?_
        refine HQ.done ?_
        refine HQ.keep [(0, _), (2, _), (3, _), (4, _), (22, _), (23, _), (6, _), (7, _)] ⟨rfl, rfl, rfl, rfl, rfl, rfl, rfl, rfl, trivial⟩ ?_
        refine HQ.seq ?_
        refine HQ.rseq ?_
        refine HQ.pu Pu.move ⟨rfl, trivial⟩ rfl rfl rfl ?_
        refine HQ.pu Pu.not ⟨rfl, trivial⟩ rfl rfl rfl ?_
        refine HQ.done ?_
        refine HQ.keep [(0, _), (2, _), (3, _), (4, _), (22, _), (23, _), (6, _), (35, _)] ⟨rfl, rfl, rfl, rfl, rfl, rfl, rfl, rfl, trivial⟩ ?_
        rcases brk H with ⟨hc, H⟩ | ⟨hc, H⟩
        · refine HQ.condT rfl hc ?_
          clear hc
          refine HQ.rseq ?_
          refine HQ.pu (Pu.build (us := []) (cs := [.bool false, .slice none 0 0]) [] st79 rfl rfl rfl) trivial rfl rfl rfl ?_
          refine HQ.opN [1] [1] [] (OT.storeC (cs' := [.bool false, .slice none 0 0]) sz79 rfl rfl rfl rfl rfl) ⟨rfl, rfl, trivial⟩ ⟨rfl, trivial⟩ rfl rfl rfl (fun _ => rfl) fun _ => ?_
          refine HQ.pu Pu.assign ⟨rfl, trivial⟩ rfl rfl rfl ?_
          refine HQ.done ?_
          refine HQ.keep [(0, _), (2, _), (3, _), (4, _), (22, _), (23, _), (6, _)] ⟨rfl, rfl, rfl, rfl, rfl, rfl, rfl, trivial⟩ ?_
          refine HQ.ret ?_
          refine HQ.thenR ?_
          refine HQ.blkR ?_
          refine HQ.thenR ?_
          obtain rfl := Option.some.inj H
          refine HQ.nil kTEntry 11 rfl ?_
          refine HQ.retL ?_
          exact HQ.fin (vs := [_, _]) Try.results120 (none, 0) ⟨⟨_, _, 1, rfl, rfl, ag79, sz79, rfl⟩, rfl, trivial⟩ rfl [11] ⟨rfl, trivial⟩ rfl
        · refine HQ.condF rfl hc ?_
          clear hc
          refine HQ.skipThen ?_
          refine HQ.regionQ ?_
          refine HQ.pu (Pu.fieldB fo79_1 rfl) ⟨rfl, trivial⟩ rfl rfl rfl ?_
          refine HQ.op [3] [3] (OT.loadB sc77 rfl) ⟨rfl, trivial⟩ ⟨rfl, trivial⟩ rfl rfl rfl rfl (fun _ => rfl) fun _ => ?_
          refine HQ.op [10] [10] (OT.loadBA (vs := [.int .i64 t25.1.N, .int .i64 t25.1.R.X0, .int .i64 t25.1.R.Y0, .int .i64 t25.1.R.X1, .int .i64 t25.1.R.Y1]) ag196 sz196 rfl rfl) ⟨rfl, trivial⟩ ⟨rfl, trivial⟩ rfl rfl rfl rfl (fun _ => rfl) fun _ => ?_
          refine HQ.op [] [12] (OT.buildF (us := [.agg #[.int .i64 t25.1.N, .int .i64 t25.1.R.X0, .int .i64 t25.1.R.Y0, .int .i64 t25.1.R.X1, .int .i64 t25.1.R.Y1]]) (ys := ([t25.1] : (List TEntry))) (enc := encTEntry) (hl := fun _ => ⟨rfl, rfl⟩) [.tmp 39] sl77.ul sl77.szE sl77.zc rfl rfl rfl rfl rfl) ⟨rfl, trivial⟩ trivial rfl rfl rfl rfl (fun _ => rfl) fun ⟨a28, c29⟩ => ?_
          obtain ⟨h32, H⟩ := asr H
          refine HQ.op [7, 12] [7, 12] (OT.appendG (enc := encTEntry) (hl := fun _ => ⟨rfl, rfl⟩) sl77 ul77 h32) ⟨rfl, rfl, trivial⟩ ⟨rfl, rfl, trivial⟩ rfl rfl rfl rfl (fun _ => rfl) fun ⟨a30, c31⟩ => ?_
          refine HQ.pu (Pu.fieldB fo79_1 rfl) ⟨rfl, trivial⟩ rfl rfl rfl ?_
          refine HQ.opN [3] [3] [] (OT.storeC (cs' := [.bool (decide ((gt p0 0) ≥ 16)), .slice a30 (List.length (l14 ++ ([t25.1] : (List TEntry)))) c31]) sz77 rfl rfl rfl rfl rfl) ⟨rfl, rfl, trivial⟩ ⟨rfl, trivial⟩ rfl rfl rfl (fun _ => rfl) fun _ => ?_
          refine HQ.done ?_
          refine HQ.keep [(0, _), (2, _), (3, _), (4, _), (22, _), (23, _)] ⟨rfl, rfl, rfl, rfl, rfl, rfl, trivial⟩ ?_
          refine HQ.blkN ?_
          refine HQ.thenN ?_
          refine HQ.regionQ ?_
          refine HQ.pu Pu.add ⟨rfl, rfl, trivial⟩ rfl rfl rfl ?_
          refine HQ.pu Pu.move ⟨rfl, trivial⟩ rfl rfl rfl ?_
          refine HQ.done ?_
          refine HQ.keep [(0, _), (2, _), (3, _), (4, _), (22, _), (23, _)] ⟨rfl, rfl, rfl, rfl, rfl, rfl, trivial⟩ ?_
          obtain rfl := Option.some.inj H
          exact HQ.next (a30, c31) ⟨rfl, rfl, rfl, rfl, rfl, rfl, trivial⟩ ⟨rfl, rfl, rfl, trivial⟩ rfl
      · refine HQ.condF rfl hc ?_
        clear hc
        refine HQ.exit ?_
        refine HQ.thenE ?_
        obtain rfl := Option.some.inj H
        exact HQ.out (a15, c16) ⟨rfl, rfl, rfl, rfl, rfl, rfl, trivial⟩ ⟨rfl, rfl, rfl, trivial⟩ rfl
    · rintro ⟨i34, l35⟩ rfl ⟨a36, c37⟩
      clear h49
      replace H := H
      refine HQ.keep [(0, _), (2, _), (3, _), (4, _), (22, _), (23, _)] ⟨rfl, rfl, rfl, rfl, rfl, rfl, trivial⟩ ?_
      refine HQ.keepR [(1, _), (3, _), (7, _)] ⟨rfl, rfl, rfl, trivial⟩ rfl ?_
      refine HQ.blkE ?_
      refine HQ.thenN ?_
      refine HQ.seq ?_
      refine HQ.rseq ?_
      refine HQ.op [3] [3] (OT.loadBA (vs := [.bool (decide ((gt p0 0) ≥ 16)), .slice a36 (List.length l35) c37]) ag79 sz79 rfl rfl) ⟨rfl, trivial⟩ ⟨rfl, trivial⟩ rfl rfl rfl rfl (fun _ => rfl) fun _ => ?_
      obtain ⟨t38, h39, H⟩ := bnd H
      refine HQ.op [7] [7] (OT.call (us := [_]) (Pre := [OwnS kTEntry a36 c37 l35]) [.tmp 44] Try.call160 rfl rfl fun w F hs hF hp => impl_NodeOk_c (hs.lend hF 0 rfl) h39) ⟨rfl, rfl, trivial⟩ ⟨rfl, trivial⟩ rfl rfl rfl rfl (fun _ => rfl) fun _ => ?_
      refine HQ.pu Pu.not ⟨rfl, trivial⟩ rfl rfl rfl ?_
      refine HQ.pu Pu.move ⟨rfl, trivial⟩ rfl rfl rfl ?_
      obtain ⟨c47, h48, H⟩ := bnd H
      refine HQ.cutAt 6 [(53, .bool c47), (2, BP b1 0), (3, .bool false), (4, BP b3 0)] [(1, Box b1 [.bool false, .slice none 0 0]), (3, Box b3 [.bool (decide ((gt p0 0) ≥ 16)), .slice a36 (List.length l35) c37]), (7, OwnS kTEntry a36 c37 l35)] ?_ ?_
      · clear H
        have H := h48
        rcases brk H with ⟨hg40, H⟩ | ⟨hg40, H⟩
        · obtain rfl := Option.some.inj H
          refine HQ.off rfl rfl hg40 rfl ?_
          refine HQ.off rfl rfl hg40 rfl ?_
          refine HQ.off rfl rfl hg40 rfl ?_
          refine HQ.off rfl rfl hg40 rfl ?_
          refine HQ.off rfl rfl hg40 rfl ?_
          refine HQ.pu (Pu.pickC1 hg40) ⟨rfl, rfl, trivial⟩ rfl rfl rfl ?_
          exact HQ.mid ⟨rfl, rfl, rfl, rfl, trivial⟩ ⟨rfl, rfl, rfl, trivial⟩ rfl
        · refine HQ.on rfl rfl hg40 ?_
          refine HQ.op [3] [3] (OT.loadBA (vs := [.bool (decide ((gt p0 0) ≥ 16)), .slice a36 (List.length l35) c37]) ag79 sz79 rfl rfl) ⟨rfl, trivial⟩ ⟨rfl, trivial⟩ rfl rfl rfl rfl (fun _ => rfl) fun _ => ?_
          refine HQ.on rfl rfl hg40 ?_
          obtain ⟨t41, h42, H⟩ := bnd H
          refine HQ.op [7] [13, 7] (OT.call (us := [_]) (Pre := [OwnS kTEntry a36 c37 l35]) [.tmp 48] Try.call168 rfl rfl fun w F hs hF hp => impl_PutNode_c (hs.lend hF 0 rfl) h42) ⟨rfl, rfl, trivial⟩ ⟨rfl, trivial⟩ rfl rfl rfl rfl (fun _ => rfl) fun ⟨a43, c44⟩ => ?_
          refine HQ.on rfl rfl hg40 ?_
          refine HQ.pu Pu.move ⟨rfl, trivial⟩ rfl rfl rfl ?_
          refine HQ.on rfl rfl hg40 ?_
          obtain ⟨t45, h46, H⟩ := bnd H
          refine HQ.op [13] [13] (OT.call (us := [_, _]) (Pre := [OwnS kU8 a43 c44 t41]) [.tmp 49, .tmp 50] Try.call122 rfl rfl fun w F hs hF hp => bytes_Equal_c (hs.lend hF 0 rfl) (hb_0.pass hp) h46) ⟨rfl, rfl, rfl, trivial⟩ ⟨rfl, trivial⟩ rfl rfl rfl rfl (fun _ => rfl) fun _ => ?_
          refine HQ.on rfl rfl hg40 ?_
          refine HQ.pu Pu.not ⟨rfl, trivial⟩ rfl rfl rfl ?_
          obtain rfl := Option.some.inj H
          refine HQ.pu (Pu.pickC0 hg40) ⟨rfl, rfl, trivial⟩ rfl rfl rfl ?_
          exact HQ.mid ⟨rfl, rfl, rfl, rfl, trivial⟩ ⟨rfl, rfl, rfl, trivial⟩ rfl
      refine HQ.done ?_
      refine HQ.keep [(53, _), (2, _), (3, _), (4, _)] ⟨rfl, rfl, rfl, rfl, trivial⟩ ?_
      rcases brk H with ⟨hc, H⟩ | ⟨hc, H⟩
      · refine HQ.condT rfl hc ?_
        clear hc
        refine HQ.rseq ?_
        refine HQ.pu (Pu.build (us := []) (cs := [.bool false, .slice none 0 0]) [] st79 rfl rfl rfl) trivial rfl rfl rfl ?_
        refine HQ.opN [1] [1] [] (OT.storeC (cs' := [.bool false, .slice none 0 0]) sz79 rfl rfl rfl rfl rfl) ⟨rfl, rfl, trivial⟩ ⟨rfl, trivial⟩ rfl rfl rfl (fun _ => rfl) fun _ => ?_
        refine HQ.pu Pu.assign ⟨rfl, trivial⟩ rfl rfl rfl ?_
        refine HQ.done ?_
        refine HQ.keep [(2, _), (3, _), (4, _)] ⟨rfl, rfl, rfl, trivial⟩ ?_
        refine HQ.ret ?_
        refine HQ.thenR ?_
        obtain rfl := Option.some.inj H
        refine HQ.nil kTEntry 14 rfl ?_
        exact HQ.fin (vs := [_, _]) Try.results120 (none, 0) ⟨⟨_, _, 1, rfl, rfl, ag79, sz79, rfl⟩, rfl, trivial⟩ rfl [14] ⟨rfl, trivial⟩ rfl
      · refine HQ.condF rfl hc ?_
        clear hc
        refine HQ.skipThen ?_
        refine HQ.rseq ?_
        refine HQ.op [3] [3] (OT.loadBA (vs := [.bool (decide ((gt p0 0) ≥ 16)), .slice a36 (List.length l35) c37]) ag79 sz79 rfl rfl) ⟨rfl, trivial⟩ ⟨rfl, trivial⟩ rfl rfl rfl rfl (fun _ => rfl) fun _ => ?_
        refine HQ.opN [1] [1] [] (OT.storeC (cs' := [.bool (decide ((gt p0 0) ≥ 16)), .slice a36 (List.length l35) c37]) sz79 rfl rfl rfl rfl rfl) ⟨rfl, rfl, trivial⟩ ⟨rfl, trivial⟩ rfl rfl rfl (fun _ => rfl) fun _ => ?_
        refine HQ.pu Pu.assign ⟨rfl, trivial⟩ rfl rfl rfl ?_
        refine HQ.done ?_
        refine HQ.keep [(2, _), (3, _)] ⟨rfl, rfl, trivial⟩ ?_
        refine HQ.ret ?_
        obtain rfl := Option.some.inj H
        exact HQ.fin (vs := [_, _]) Try.results120 (a36, c37) ⟨⟨_, _, 1, rfl, rfl, ag79, sz79, rfl⟩, rfl, trivial⟩ rfl [7] ⟨rfl, trivial⟩ rfl
    · rintro r rfl a w hr
      obtain rfl := Option.some.inj H
      exact hr

/-! impl.PutCell -/
theorem impl_PutCell_c {w : World} {k : Nat} {p0 : Int} {p1 : TChange} {a_0 : Option Addr} {c_0 : Nat} (hb_0 : BorS kTEntry a_0 c_0 p1.N.L w.heap (Lt w Nil)) {r : (List Int)} (H : impl_PutCell k p0 p1 = some r) :
    Calls Try.prog 121 #[.int .i64 p0, .agg #[.int .i64 p1.Page, .bool p1.N.Leaf, .slice a_0 (List.length p1.N.L) c_0]] w (Rt w Nil (fun g : Option Addr × Nat => .slice g.1 (List.length r) g.2) (fun g => [OwnS kU8 g.1 g.2 r])) := by
  rw [impl_PutCell] at H
  refine Calls.enter0 (N := 32) (us := [_, _]) Try.func121 rfl rfl rfl ?_
  refine HQ.rseq ?_
  refine HQ.op [] [1] (OT.box (cs := [.int .i64 p1.Page, .bool p1.N.Leaf, .slice a_0 (List.length p1.N.L) c_0]) rfl) ⟨rfl, trivial⟩ trivial rfl rfl rfl rfl (fun _ => rfl) fun b1 => ?_
  refine HQ.pu Pu.assign ⟨rfl, trivial⟩ rfl rfl rfl ?_
  refine HQ.done ?_
  refine HQ.keep [(0, _), (3, _), (4, _)] ⟨rfl, rfl, rfl, trivial⟩ ?_
  refine HQ.seq ?_
  refine HQ.rseq ?_
  refine HQ.pu Pu.move ⟨rfl, trivial⟩ rfl rfl rfl ?_
  obtain ⟨t2, h3, H⟩ := bnd H
  refine HQ.op [] [] (OT.call (us := [_, _, _]) (Pre := []) [.tmp 5, .const (.int .i64 0), .const (.int .i64 65535)] Try.call91 rfl rfl fun w F hs hF hp => impl_in_c h3) ⟨rfl, rfl, rfl, rfl, trivial⟩ trivial rfl rfl rfl rfl (fun _ => rfl) fun _ => ?_
  refine HQ.pu Pu.not ⟨rfl, trivial⟩ rfl rfl rfl ?_
  refine HQ.pu Pu.move ⟨rfl, trivial⟩ rfl rfl rfl ?_
  obtain ⟨c7, h8, H⟩ := bnd H
  refine HQ.cutAt 5 [(13, .bool c7), (0, .int .i64 p0), (3, BP b1 0), (4, .slice none 0 0)] [(1, Box b1 [.int .i64 p1.Page, .bool p1.N.Leaf, .slice a_0 (List.length p1.N.L) c_0])] ?_ ?_
  · clear H
    have H := h8
    rcases brk H with ⟨hg4, H⟩ | ⟨hg4, H⟩
    · obtain rfl := Option.some.inj H
      refine HQ.off rfl rfl hg4 rfl ?_
      refine HQ.off rfl rfl hg4 rfl ?_
      refine HQ.off rfl rfl hg4 rfl ?_
      refine HQ.off rfl rfl hg4 rfl ?_
      refine HQ.pu (Pu.pickC1 hg4) ⟨rfl, rfl, trivial⟩ rfl rfl rfl ?_
      exact HQ.mid ⟨rfl, rfl, rfl, rfl, trivial⟩ ⟨rfl, trivial⟩ rfl
    · refine HQ.on rfl rfl hg4 ?_
      refine HQ.pu (Pu.fieldB fo81_0 rfl) ⟨rfl, trivial⟩ rfl rfl rfl ?_
      refine HQ.on rfl rfl hg4 ?_
      refine HQ.op [1] [1] (OT.loadB sc3 rfl) ⟨rfl, trivial⟩ ⟨rfl, trivial⟩ rfl rfl rfl rfl (fun _ => rfl) fun _ => ?_
      refine HQ.on rfl rfl hg4 ?_
      obtain ⟨t5, h6, H⟩ := bnd H
      refine HQ.op [] [] (OT.call (us := [_, _, _]) (Pre := []) [.tmp 10, .const (.int .i64 0), .const (.int .i64 47)] Try.call91 rfl rfl fun w F hs hF hp => impl_in_c h6) ⟨rfl, rfl, rfl, rfl, trivial⟩ trivial rfl rfl rfl rfl (fun _ => rfl) fun _ => ?_
      refine HQ.on rfl rfl hg4 ?_
      refine HQ.pu Pu.not ⟨rfl, trivial⟩ rfl rfl rfl ?_
      obtain rfl := Option.some.inj H
      refine HQ.pu (Pu.pickC0 hg4) ⟨rfl, rfl, trivial⟩ rfl rfl rfl ?_
      exact HQ.mid ⟨rfl, rfl, rfl, rfl, trivial⟩ ⟨rfl, trivial⟩ rfl
  refine HQ.pu Pu.move ⟨rfl, trivial⟩ rfl rfl rfl ?_
  obtain ⟨c12, h13, H⟩ := bnd H
  refine HQ.cutAt 5 [(19, .bool c12), (0, .int .i64 p0), (3, BP b1 0), (4, .slice none 0 0)] [(1, Box b1 [.int .i64 p1.Page, .bool p1.N.Leaf, .slice a_0 (List.length p1.N.L) c_0])] ?_ ?_
  · clear H
    have H := h13
    rcases brk H with ⟨hg9, H⟩ | ⟨hg9, H⟩
    · obtain rfl := Option.some.inj H
      refine HQ.off rfl rfl hg9 rfl ?_
      refine HQ.off rfl rfl hg9 rfl ?_
      refine HQ.off rfl rfl hg9 rfl ?_
      refine HQ.off rfl rfl hg9 rfl ?_
      refine HQ.pu (Pu.pickC1 hg9) ⟨rfl, rfl, trivial⟩ rfl rfl rfl ?_
      exact HQ.mid ⟨rfl, rfl, rfl, rfl, trivial⟩ ⟨rfl, trivial⟩ rfl
    · refine HQ.on rfl rfl hg9 ?_
      refine HQ.pu (Pu.fieldB fo81_1 rfl) ⟨rfl, trivial⟩ rfl rfl rfl ?_
      refine HQ.on rfl rfl hg9 ?_
      refine HQ.op [1] [1] (OT.loadBA (vs := [.bool p1.N.Leaf, .slice a_0 (List.length p1.N.L) c_0]) ag79 sz79 rfl rfl) ⟨rfl, trivial⟩ ⟨rfl, trivial⟩ rfl rfl rfl rfl (fun _ => rfl) fun _ => ?_
      refine HQ.on rfl rfl hg9 ?_
      obtain ⟨t10, h11, H⟩ := bnd H
      refine HQ.op [] [] (OT.call (us := [_]) (Pre := []) [.tmp 16] Try.call160 rfl rfl fun w F hs hF hp => impl_NodeOk_c (hb_0.pass hp) h11) ⟨rfl, rfl, trivial⟩ trivial rfl rfl rfl rfl (fun _ => rfl) fun _ => ?_
      refine HQ.on rfl rfl hg9 ?_
      refine HQ.pu Pu.not ⟨rfl, trivial⟩ rfl rfl rfl ?_
      obtain rfl := Option.some.inj H
      refine HQ.pu (Pu.pickC0 hg9) ⟨rfl, rfl, trivial⟩ rfl rfl rfl ?_
      exact HQ.mid ⟨rfl, rfl, rfl, rfl, trivial⟩ ⟨rfl, trivial⟩ rfl
  refine HQ.done ?_
  refine HQ.keep [(19, _), (0, _), (3, _), (4, _)] ⟨rfl, rfl, rfl, rfl, trivial⟩ ?_
  rcases brk H with ⟨hc, H⟩ | ⟨hc, H⟩
  · refine HQ.condT rfl hc ?_
    clear hc
    refine HQ.rseq ?_
    refine HQ.pu Pu.assign ⟨rfl, trivial⟩ rfl rfl rfl ?_
    refine HQ.done ?_
    refine HQ.keep [(0, _), (3, _), (4, _)] ⟨rfl, rfl, rfl, trivial⟩ ?_
    refine HQ.ret ?_
    refine HQ.thenR ?_
    obtain rfl := Option.some.inj H
    refine HQ.nil kU8 2 rfl ?_
    exact HQ.fin (vs := [_]) Try.results121 (none, 0) ⟨rfl, trivial⟩ rfl [2] ⟨rfl, trivial⟩ rfl
  · refine HQ.condF rfl hc ?_
    clear hc
    refine HQ.skipThen ?_
    obtain ⟨t17, h18, H⟩ := bnd H
    obtain ⟨h25, H⟩ := asr H
    refine HQ.drawS mixd [(0, .int .i64 p0), (3, BP b1 0), (4, .slice none 0 0)] 10 [⟨[], [0], []⟩, ⟨[], [], []⟩, ⟨[0], [1, 0], [0, 1]⟩, ⟨[], [], []⟩, ⟨[2], [2], [3]⟩, ⟨[], [], [4]⟩, ⟨[], [3], [5]⟩, ⟨[1, 3], [4, 3], [2, 6]⟩, ⟨[], [], []⟩, ⟨[2], [2], [8]⟩] [⟨some 0, none⟩, ⟨some 2, some 7⟩, ⟨none, none⟩, ⟨some 6, none⟩, ⟨some 7, none⟩] (fun (g14 : (Option Addr × Nat) × (Option Addr × Nat) × (Option Addr × Nat) × (Option Addr × Nat)) => [.slice g14.1.1 (List.length ([1] : (List Int))) g14.1.2, .int .i64 p0, .slice g14.2.1.1 (List.length t17) g14.2.1.2, BP b1 0, .int .i64 p1.Page, .int .u8 (IntKind.u8.wrap p1.Page), .slice g14.2.2.1.1 (List.length ([(IntKind.u8.wrap p1.Page)] : (List Int))) g14.2.2.1.2, .slice g14.2.2.2.1 (List.length (t17 ++ ([(IntKind.u8.wrap p1.Page)] : (List Int)))) g14.2.2.2.2, BP b1 1, .agg #[.bool p1.N.Leaf, .slice a_0 (List.length p1.N.L) c_0]]) (fun (g14 : (Option Addr × Nat) × (Option Addr × Nat) × (Option Addr × Nat) × (Option Addr × Nat)) => [OwnS kU8 g14.1.1 g14.1.2 ([1] : (List Int)), OwnS kU8 g14.2.1.1 g14.2.1.2 t17, Box b1 [.int .i64 p1.Page, .bool p1.N.Leaf, .slice a_0 (List.length p1.N.L) c_0], OwnS kU8 g14.2.2.1.1 g14.2.2.1.2 ([(IntKind.u8.wrap p1.Page)] : (List Int)), OwnS kU8 g14.2.2.2.1 g14.2.2.2.2 (t17 ++ ([(IntKind.u8.wrap p1.Page)] : (List Int)))]) ((none, 0), (none, 0), (none, 0), (none, 0)) [1] [3, 1, 5, 4] [] ⟨rfl, rfl, rfl, trivial⟩ ⟨rfl, trivial⟩ rfl (by kernel_rfl) (fun _ => rfl) (by kernel_rfl) (fun _ => rfl) ⟨?_, ?_, ?_, ?_, ?_, ?_, ?_, ?_, ?_, ?_, trivial⟩ fun g14 => ?_
    · exact OpOK.of (fun g14 => [(.const (.int .u8 1), .int .u8 1)]) _ _ (fun g14 x => (x, g14.2.1, g14.2.2.1, g14.2.2.2)) rfl rfl (fun _ => ⟨rfl, trivial⟩) (fun g14 => OT.buildF (us := [.int .u8 1]) (ys := ([1] : (List Int))) (enc := (encI .u8)) (hl := fun _ => ⟨rfl, rfl⟩) [.const (.int .u8 1)] sl37.ul sl37.szE sl37.zc rfl rfl rfl rfl rfl) (fun _ _ => ⟨rfl, rfl, ⟨rfl, rfl, rfl, rfl, rfl, trivial⟩⟩)
    · exact OpOK.of (fun g14 => [(.tmp 0, .int .i64 p0)]) _ _ (fun g14 _ => g14) rfl rfl (fun _ => ⟨rfl, trivial⟩) (fun g14 => Pu.toOT Pu.move) (fun _ _ => ⟨rfl, rfl, ⟨rfl, rfl, rfl, rfl, rfl, trivial⟩⟩)
    · exact OpOK.of (fun g14 => [(.func 162, .func (.func 162) #[] #[]), (.tmp 20, .slice g14.1.1 (List.length ([1] : (List Int))) g14.1.2), (.tmp 21, .int .i64 p0)]) _ _ (fun g14 x => (g14.1, x, g14.2.2.1, g14.2.2.2)) rfl rfl (fun _ => ⟨rfl, rfl, rfl, trivial⟩) (fun g14 => OT.call (us := [_, _]) (Pre := [OwnS kU8 g14.1.1 g14.1.2 ([1] : (List Int))]) [.tmp 20, .tmp 21] Try.call162 rfl rfl fun w F hs hF hp => impl_Put2_c (hs.lend hF 0 rfl) h18) (fun _ _ => ⟨rfl, rfl, ⟨rfl, rfl, rfl, rfl, rfl, trivial⟩⟩)
    · exact OpOK.of (fun g14 => [(.tmp 3, BP b1 0)]) _ _ (fun g14 _ => g14) rfl rfl (fun _ => ⟨rfl, trivial⟩) (fun g14 => Pu.toOT (Pu.fieldB fo81_0 rfl)) (fun _ _ => ⟨rfl, rfl, ⟨rfl, rfl, rfl, rfl, rfl, trivial⟩⟩)
    · exact OpOK.of (fun g14 => [(.tmp 23, BP b1 0)]) _ _ (fun g14 _ => g14) rfl rfl (fun _ => ⟨rfl, trivial⟩) (fun g14 => OT.loadB sc3 rfl) (fun _ _ => ⟨rfl, rfl, ⟨rfl, rfl, rfl, rfl, rfl, trivial⟩⟩)
    · exact OpOK.of (fun g14 => [(.tmp 24, .int .i64 p1.Page)]) _ _ (fun g14 _ => g14) rfl rfl (fun _ => ⟨rfl, trivial⟩) (fun g14 => Pu.toOT (Pu.conv ul3 ul5)) (fun _ _ => ⟨rfl, rfl, ⟨rfl, rfl, rfl, rfl, rfl, trivial⟩⟩)
    · exact OpOK.of (fun g14 => [(.tmp 25, .int .u8 (IntKind.u8.wrap p1.Page))]) _ _ (fun g14 x => (g14.1, g14.2.1, x, g14.2.2.2)) rfl rfl (fun _ => ⟨rfl, trivial⟩) (fun g14 => OT.buildF (us := [.int .u8 (IntKind.u8.wrap p1.Page)]) (ys := ([(IntKind.u8.wrap p1.Page)] : (List Int))) (enc := (encI .u8)) (hl := fun _ => ⟨rfl, rfl⟩) [.tmp 25] sl37.ul sl37.szE sl37.zc rfl rfl rfl rfl rfl) (fun _ _ => ⟨rfl, rfl, ⟨rfl, rfl, rfl, rfl, rfl, trivial⟩⟩)
    · exact OpOK.of (fun g14 => [(.tmp 22, .slice g14.2.1.1 (List.length t17) g14.2.1.2), (.tmp 26, .slice g14.2.2.1.1 (List.length ([(IntKind.u8.wrap p1.Page)] : (List Int))) g14.2.2.1.2)]) _ _ (fun g14 x => (g14.1, g14.2.1, g14.2.2.1, x)) rfl rfl (fun _ => ⟨rfl, rfl, trivial⟩) (fun g14 => OT.appendG (enc := (encI .u8)) (hl := fun _ => ⟨rfl, rfl⟩) sl37 ul37 h25) (fun _ _ => ⟨rfl, rfl, ⟨rfl, rfl, rfl, rfl, rfl, trivial⟩⟩)
    · exact OpOK.of (fun g14 => [(.tmp 3, BP b1 0)]) _ _ (fun g14 _ => g14) rfl rfl (fun _ => ⟨rfl, trivial⟩) (fun g14 => Pu.toOT (Pu.fieldB fo81_1 rfl)) (fun _ _ => ⟨rfl, rfl, ⟨rfl, rfl, rfl, rfl, rfl, trivial⟩⟩)
    · exact OpOK.of (fun g14 => [(.tmp 28, BP b1 1)]) _ _ (fun g14 _ => g14) rfl rfl (fun _ => ⟨rfl, trivial⟩) (fun g14 => OT.loadBA (vs := [.bool p1.N.Leaf, .slice a_0 (List.length p1.N.L) c_0]) ag79 sz79 rfl rfl) (fun _ _ => ⟨rfl, rfl, ⟨rfl, rfl, rfl, rfl, rfl, trivial⟩⟩)
    refine HQ.keep [(4, _), (27, _), (29, _)] ⟨rfl, rfl, rfl, trivial⟩ ?_
    refine HQ.keepR [(1, _), (3, _), (5, _), (4, _)] ⟨rfl, rfl, rfl, rfl, trivial⟩ rfl ?_
    obtain ⟨t26, h27, H⟩ := bnd H
    refine HQ.op [] [6] (OT.call (us := [_]) (Pre := []) [.tmp 29] Try.call168 rfl rfl fun w F hs hF hp => impl_PutNode_c (hb_0.pass hp) h27) ⟨rfl, rfl, trivial⟩ trivial rfl rfl rfl rfl (fun _ => rfl) fun ⟨a28, c29⟩ => ?_
    obtain ⟨h32, H⟩ := asr H
    refine HQ.op [4, 6] [4, 6] (OT.appendG (enc := (encI .u8)) (hl := fun _ => ⟨rfl, rfl⟩) sl37 ul37 h32) ⟨rfl, rfl, trivial⟩ ⟨rfl, rfl, trivial⟩ rfl rfl rfl rfl (fun _ => rfl) fun ⟨a30, c31⟩ => ?_
    refine HQ.pu Pu.assign ⟨rfl, trivial⟩ rfl rfl rfl ?_
    refine HQ.done ?_
    refine HQ.keep [(4, _)] ⟨rfl, trivial⟩ ?_
    refine HQ.ret ?_
    obtain rfl := Option.some.inj H
    exact HQ.fin (vs := [_]) Try.results121 (a30, c31) ⟨rfl, trivial⟩ rfl [4] ⟨rfl, trivial⟩ rfl

end Go.Proofs.Sx
