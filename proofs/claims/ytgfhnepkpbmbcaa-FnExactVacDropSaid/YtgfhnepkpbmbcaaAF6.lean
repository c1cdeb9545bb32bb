import Derived.Test.YtgfhnepkpbmbcaaAF5
import Derived.KernelRfl
namespace Go.Proofs.Sx
open Go.RowKit
set_option linter.unusedVariables false
set_option linter.unusedSimpArgs false
set_option maxRecDepth 20000
set_option maxHeartbeats 1000000
/-! laws.heldBook -/
theorem laws_heldBook_c {w : World} {k : Nat} {p0 : TBook} {p1 : Int} {a_0 : Option Addr} {c_0 : Nat} (hb_0 : BorS kTPage a_0 c_0 p0.L w.heap (Lt w Nil)) {r : Int} (H : laws_heldBook k p0 p1 = some r) :
    Calls Try.prog 67 #[.agg #[.int .i64 p0.Root, .slice a_0 (List.length p0.L) c_0], .int .i64 p1] w (Rt w Nil (fun _ : Unit => .int .i64 r) (fun _ => [])) := by
  rw [laws_heldBook] at H
  refine Calls.enter0 (N := 12) (us := [_, _]) Try.func67 rfl rfl rfl ?_
  refine HQ.rseq ?_
  refine HQ.op [] [1] (OT.box (cs := [.int .i64 p0.Root, .slice a_0 (List.length p0.L) c_0]) rfl) ⟨rfl, trivial⟩ trivial rfl rfl rfl rfl (fun _ => rfl) fun b1 => ?_
  refine HQ.pu Pu.assign ⟨rfl, trivial⟩ rfl rfl rfl ?_
  refine HQ.done ?_
  refine HQ.keep [(1, _), (2, _), (4, _)] ⟨rfl, rfl, rfl, trivial⟩ ?_
  refine HQ.rseq ?_
  refine HQ.pu (Pu.fieldB fo98_1 rfl) ⟨rfl, trivial⟩ rfl rfl rfl ?_
  refine HQ.op [1] [1] (OT.loadB sc96 rfl) ⟨rfl, trivial⟩ ⟨rfl, trivial⟩ rfl rfl rfl rfl (fun _ => rfl) fun _ => ?_
  refine HQ.pu Pu.move ⟨rfl, trivial⟩ rfl rfl rfl ?_
  obtain ⟨t2, h3, H⟩ := bnd H
  refine HQ.op [] [] (OT.call (us := [_, _]) (Pre := []) [.tmp 6, .tmp 7] Try.call144 rfl rfl fun w F hs hF hp => laws_heldPageS_c (hb_0.pass hp) h3) ⟨rfl, rfl, rfl, trivial⟩ trivial rfl rfl rfl rfl (fun _ => rfl) fun _ => ?_
  refine HQ.pu Pu.assign ⟨rfl, trivial⟩ rfl rfl rfl ?_
  refine HQ.done ?_
  refine HQ.keep [(1, _), (4, _)] ⟨rfl, rfl, trivial⟩ ?_
  refine HQ.seq ?_
  refine HQ.rseq ?_
  refine HQ.pu Pu.move ⟨rfl, trivial⟩ rfl rfl rfl ?_
  refine HQ.pu Pu.lss ⟨rfl, rfl, trivial⟩ rfl rfl rfl ?_
  refine HQ.done ?_
  refine HQ.keep [(1, _), (4, _), (10, _)] ⟨rfl, rfl, rfl, trivial⟩ ?_
  rcases brk H with ⟨hc, H⟩ | ⟨hc, H⟩
  · refine HQ.condT rfl hc ?_
    clear hc
    refine HQ.rseq ?_
    refine HQ.pu Pu.assign ⟨rfl, trivial⟩ rfl rfl rfl ?_
    refine HQ.done ?_
    refine HQ.keep [(1, _), (4, _)] ⟨rfl, rfl, trivial⟩ ?_
    refine HQ.ret ?_
    refine HQ.thenR ?_
    obtain rfl := Option.some.inj H
    exact HQ.fin (vs := [_]) Try.results67 () ⟨rfl, trivial⟩ rfl [] trivial rfl
  · refine HQ.condF rfl hc ?_
    clear hc
    refine HQ.skipThen ?_
    refine HQ.rseq ?_
    refine HQ.pu Pu.move ⟨rfl, trivial⟩ rfl rfl rfl ?_
    refine HQ.pu Pu.assign ⟨rfl, trivial⟩ rfl rfl rfl ?_
    refine HQ.done ?_
    refine HQ.keep [(4, _)] ⟨rfl, trivial⟩ ?_
    refine HQ.ret ?_
    obtain rfl := Option.some.inj H
    exact HQ.fin (vs := [_]) Try.results67 () ⟨rfl, trivial⟩ rfl [] trivial rfl

/-! laws.FnExactVacDrop -/
theorem laws_FnExactVacDrop_c {w : World} {k : Nat} {p0 : TBook} {p1 : TVac} {a_0 : Option Addr} {c_0 : Nat} {a_1 : Option Addr} {c_1 : Nat} {a_2 : Option Addr} {c_2 : Nat} {a_3 : Option Addr} {c_3 : Nat} {a_4 : Option Addr} {c_4 : Nat} {a_5 : Option Addr} {c_5 : Nat} (hb_0 : BorS kTPage a_0 c_0 p0.L w.heap (Lt w Nil)) (hb_1 : BorS kI a_1 c_1 p1.Todo w.heap (Lt w Nil)) (hb_2 : BorS kTItem a_2 c_2 p1.Run w.heap (Lt w Nil)) (hb_3 : BorS kTEntry a_3 c_3 p1.Row w.heap (Lt w Nil)) (hb_4 : BorS kTEntry a_4 c_4 p1.Next w.heap (Lt w Nil)) (hb_5 : BorS kI a_5 c_5 p1.Made w.heap (Lt w Nil)) {r : Bool} (H : laws_FnExactVacDrop k p0 p1 = some r) :
    Calls Try.prog 11 #[.agg #[.int .i64 p0.Root, .slice a_0 (List.length p0.L) c_0], .agg #[.int .i64 p1.Phase, .slice a_1 (List.length p1.Todo) c_1, .slice a_2 (List.length p1.Run) c_2, .slice a_3 (List.length p1.Row) c_3, .slice a_4 (List.length p1.Next) c_4, .slice a_5 (List.length p1.Made) c_5]] w (Rt w Nil (fun _ : Unit => .bool r) (fun _ => [])) := by
  rw [laws_FnExactVacDrop] at H
  refine Calls.enter0 (N := 92) (us := [_, _]) Try.func11 rfl rfl rfl ?_
  refine HQ.rseq ?_
  refine HQ.op [] [1] (OT.box (cs := [.int .i64 p0.Root, .slice a_0 (List.length p0.L) c_0]) rfl) ⟨rfl, trivial⟩ trivial rfl rfl rfl rfl (fun _ => rfl) fun b1 => ?_
  refine HQ.op [] [2] (OT.box (cs := [.int .i64 p1.Phase, .slice a_1 (List.length p1.Todo) c_1, .slice a_2 (List.length p1.Run) c_2, .slice a_3 (List.length p1.Row) c_3, .slice a_4 (List.length p1.Next) c_4, .slice a_5 (List.length p1.Made) c_5]) rfl) ⟨rfl, trivial⟩ trivial rfl rfl rfl rfl (fun _ => rfl) fun b2 => ?_
  refine HQ.pu Pu.assign ⟨rfl, trivial⟩ rfl rfl rfl ?_
  refine HQ.done ?_
  refine HQ.keep [(2, _), (3, _), (4, _)] ⟨rfl, rfl, rfl, trivial⟩ ?_
  refine HQ.rseq ?_
  refine HQ.pu Pu.assign ⟨rfl, trivial⟩ rfl rfl rfl ?_
  refine HQ.done ?_
  refine HQ.keep [(2, _), (3, _), (4, _), (5, _)] ⟨rfl, rfl, rfl, rfl, trivial⟩ ?_
  refine HQ.rseq ?_
  refine HQ.op [1] [1] (OT.loadBA (vs := [.int .i64 p0.Root, .slice a_0 (List.length p0.L) c_0]) ag89 sz89 rfl rfl) ⟨rfl, trivial⟩ ⟨rfl, trivial⟩ rfl rfl rfl rfl (fun _ => rfl) fun _ => ?_
  refine HQ.pu Pu.move ⟨rfl, trivial⟩ rfl rfl rfl ?_
  obtain ⟨t3, h4, H⟩ := bnd H
  refine HQ.op [] [] (OT.call (us := [_, _]) (Pre := []) [.tmp 14, .tmp 15] Try.call57 rfl rfl fun w F hs hF hp => laws_szBook_c (hb_0.pass hp) h4) ⟨rfl, rfl, rfl, trivial⟩ trivial rfl rfl rfl rfl (fun _ => rfl) fun _ => ?_
  refine HQ.pu Pu.assign ⟨rfl, trivial⟩ rfl rfl rfl ?_
  refine HQ.done ?_
  refine HQ.keep [(2, _), (3, _), (4, _), (5, _)] ⟨rfl, rfl, rfl, rfl, trivial⟩ ?_
  refine HQ.seq ?_
  refine HQ.rseq ?_
  refine HQ.pu Pu.move ⟨rfl, trivial⟩ rfl rfl rfl ?_
  refine HQ.pu Pu.lss ⟨rfl, rfl, trivial⟩ rfl rfl rfl ?_
  refine HQ.done ?_
  refine HQ.keep [(2, _), (3, _), (4, _), (5, _), (18, _)] ⟨rfl, rfl, rfl, rfl, rfl, trivial⟩ ?_
  rcases brk H with ⟨hc, H⟩ | ⟨hc, H⟩
  · refine HQ.condT rfl hc ?_
    clear hc
    refine HQ.rseq ?_
    refine HQ.pu Pu.assign ⟨rfl, trivial⟩ rfl rfl rfl ?_
    refine HQ.done ?_
    refine HQ.keep [(2, _), (3, _), (4, _), (5, _)] ⟨rfl, rfl, rfl, rfl, trivial⟩ ?_
    refine HQ.ret ?_
    refine HQ.thenR ?_
    obtain rfl := Option.some.inj H
    exact HQ.fin (vs := [_]) Try.results11 () ⟨rfl, trivial⟩ rfl [] trivial rfl
  · refine HQ.condF rfl hc ?_
    clear hc
    refine HQ.skipThen ?_
    refine HQ.rseq ?_
    refine HQ.op [2] [2] (OT.loadBA (vs := [.int .i64 p1.Phase, .slice a_1 (List.length p1.Todo) c_1, .slice a_2 (List.length p1.Run) c_2, .slice a_3 (List.length p1.Row) c_3, .slice a_4 (List.length p1.Next) c_4, .slice a_5 (List.length p1.Made) c_5]) ag93 sz93 rfl rfl) ⟨rfl, trivial⟩ ⟨rfl, trivial⟩ rfl rfl rfl rfl (fun _ => rfl) fun _ => ?_
    refine HQ.pu Pu.move ⟨rfl, trivial⟩ rfl rfl rfl ?_
    obtain ⟨t5, h6, H⟩ := bnd H
    refine HQ.op [] [] (OT.call (us := [_, _]) (Pre := []) [.tmp 19, .tmp 20] Try.call58 rfl rfl fun w F hs hF hp => laws_szVac_c h6) ⟨rfl, rfl, rfl, trivial⟩ trivial rfl rfl rfl rfl (fun _ => rfl) fun _ => ?_
    refine HQ.pu Pu.assign ⟨rfl, trivial⟩ rfl rfl rfl ?_
    refine HQ.done ?_
    refine HQ.keep [(2, _), (3, _), (4, _), (5, _)] ⟨rfl, rfl, rfl, rfl, trivial⟩ ?_
    refine HQ.seq ?_
    refine HQ.rseq ?_
    refine HQ.pu Pu.move ⟨rfl, trivial⟩ rfl rfl rfl ?_
    refine HQ.pu Pu.lss ⟨rfl, rfl, trivial⟩ rfl rfl rfl ?_
    refine HQ.done ?_
    refine HQ.keep [(2, _), (3, _), (4, _), (23, _)] ⟨rfl, rfl, rfl, rfl, trivial⟩ ?_
    rcases brk H with ⟨hc, H⟩ | ⟨hc, H⟩
    · refine HQ.condT rfl hc ?_
      clear hc
      refine HQ.rseq ?_
      refine HQ.pu Pu.assign ⟨rfl, trivial⟩ rfl rfl rfl ?_
      refine HQ.done ?_
      refine HQ.keep [(2, _), (3, _), (4, _)] ⟨rfl, rfl, rfl, trivial⟩ ?_
      refine HQ.ret ?_
      refine HQ.thenR ?_
      obtain rfl := Option.some.inj H
      exact HQ.fin (vs := [_]) Try.results11 () ⟨rfl, trivial⟩ rfl [] trivial rfl
    · refine HQ.condF rfl hc ?_
      clear hc
      refine HQ.skipThen ?_
      obtain ⟨t8, h9, H⟩ := bnd H
      obtain ⟨t12, h13, H⟩ := bnd H
      obtain ⟨t24, h25, H⟩ := bnd H
      refine HQ.drawS mixd [(2, BP b1 0), (3, BP b2 0), (4, .bool false)] 6 [⟨[0], [0], []⟩, ⟨[], [1], [0]⟩, ⟨[2], [2], []⟩, ⟨[], [3, 4, 5, 6, 7], [2]⟩, ⟨[1, 7], [8, 1, 7], [1, 3]⟩, ⟨[], [9], []⟩] [⟨none, none⟩, ⟨some 1, none⟩, ⟨none, none⟩, ⟨some 3, none⟩, ⟨some 3, none⟩, ⟨some 3, none⟩, ⟨some 3, none⟩, ⟨some 3, none⟩, ⟨some 4, none⟩, ⟨some 5, none⟩] (fun (g7 : (Option Addr × Nat) × ((Option Addr × Nat) × (Option Addr × Nat) × (Option Addr × Nat) × (Option Addr × Nat) × (Option Addr × Nat)) × (Option Addr × Nat) × Nat) => [.agg #[.int .i64 p0.Root, .slice a_0 (List.length p0.L) c_0], .agg #[.int .i64 t8.Root, .slice g7.1.1 (List.length t8.L) g7.1.2], .agg #[.int .i64 p1.Phase, .slice a_1 (List.length p1.Todo) c_1, .slice a_2 (List.length p1.Run) c_2, .slice a_3 (List.length p1.Row) c_3, .slice a_4 (List.length p1.Next) c_4, .slice a_5 (List.length p1.Made) c_5], .agg #[.int .i64 t12.Phase, .slice g7.2.1.1.1 (List.length t12.Todo) g7.2.1.1.2, .slice g7.2.1.2.1.1 (List.length t12.Run) g7.2.1.2.1.2, .slice g7.2.1.2.2.1.1 (List.length t12.Row) g7.2.1.2.2.1.2, .slice g7.2.1.2.2.2.1.1 (List.length t12.Next) g7.2.1.2.2.2.1.2, .slice g7.2.1.2.2.2.2.1 (List.length t12.Made) g7.2.1.2.2.2.2.2], .agg #[.int .i64 t24.Root, .slice g7.2.2.1.1 (List.length t24.L) g7.2.2.1.2], BP g7.2.2.2 0]) (fun (g7 : (Option Addr × Nat) × ((Option Addr × Nat) × (Option Addr × Nat) × (Option Addr × Nat) × (Option Addr × Nat) × (Option Addr × Nat)) × (Option Addr × Nat) × Nat) => [Box b1 [.int .i64 p0.Root, .slice a_0 (List.length p0.L) c_0], OwnS kTPage g7.1.1 g7.1.2 t8.L, Box b2 [.int .i64 p1.Phase, .slice a_1 (List.length p1.Todo) c_1, .slice a_2 (List.length p1.Run) c_2, .slice a_3 (List.length p1.Row) c_3, .slice a_4 (List.length p1.Next) c_4, .slice a_5 (List.length p1.Made) c_5], OwnS kI g7.2.1.1.1 g7.2.1.1.2 t12.Todo, OwnS kTItem g7.2.1.2.1.1 g7.2.1.2.1.2 t12.Run, OwnS kTEntry g7.2.1.2.2.1.1 g7.2.1.2.2.1.2 t12.Row, OwnS kTEntry g7.2.1.2.2.2.1.1 g7.2.1.2.2.2.1.2 t12.Next, OwnS kI g7.2.1.2.2.2.2.1 g7.2.1.2.2.2.2.2 t12.Made, OwnS kTPage g7.2.2.1.1 g7.2.2.1.2 t24.L, Box g7.2.2.2 [.int .i64 0, .slice none 0 0]]) ((none, 0), ((none, 0), (none, 0), (none, 0), (none, 0), (none, 0)), (none, 0), 0) [1, 2] [1, 3, 2, 4, 5, 6, 7, 8, 9, 10] [] ⟨rfl, rfl, rfl, trivial⟩ ⟨rfl, rfl, trivial⟩ rfl (by kernel_rfl) (fun _ => rfl) (by kernel_rfl) (fun _ => rfl) ⟨?_, ?_, ?_, ?_, ?_, ?_, trivial⟩ fun g7 => ?_
      · exact OpOK.of (fun g7 => [(.tmp 2, BP b1 0)]) _ _ (fun g7 _ => g7) rfl rfl (fun _ => ⟨rfl, trivial⟩) (fun g7 => OT.loadBA (vs := [.int .i64 p0.Root, .slice a_0 (List.length p0.L) c_0]) ag89 sz89 rfl rfl) (fun _ _ => ⟨rfl, rfl, ⟨rfl, rfl, rfl, rfl, rfl, rfl, rfl, rfl, rfl, rfl, trivial⟩⟩)
      · exact OpOK.of (fun g7 => [(.func 60, .func (.func 60) #[] #[]), (.tmp 24, .agg #[.int .i64 p0.Root, .slice a_0 (List.length p0.L) c_0])]) _ _ (fun g7 x => (x, g7.2.1, g7.2.2.1, g7.2.2.2)) rfl rfl (fun _ => ⟨rfl, rfl, trivial⟩) (fun g7 => OT.call (us := [_]) (Pre := []) [.tmp 24] Try.call60 rfl rfl fun w F hs hF hp => laws_toBook_c (hb_0.pass hp) h9) (fun _ _ => ⟨rfl, rfl, ⟨rfl, rfl, rfl, rfl, rfl, rfl, rfl, rfl, rfl, rfl, trivial⟩⟩)
      · exact OpOK.of (fun g7 => [(.tmp 3, BP b2 0)]) _ _ (fun g7 _ => g7) rfl rfl (fun _ => ⟨rfl, trivial⟩) (fun g7 => OT.loadBA (vs := [.int .i64 p1.Phase, .slice a_1 (List.length p1.Todo) c_1, .slice a_2 (List.length p1.Run) c_2, .slice a_3 (List.length p1.Row) c_3, .slice a_4 (List.length p1.Next) c_4, .slice a_5 (List.length p1.Made) c_5]) ag93 sz93 rfl rfl) (fun _ _ => ⟨rfl, rfl, ⟨rfl, rfl, rfl, rfl, rfl, rfl, rfl, rfl, rfl, rfl, trivial⟩⟩)
      · exact OpOK.of (fun g7 => [(.func 61, .func (.func 61) #[] #[]), (.tmp 26, .agg #[.int .i64 p1.Phase, .slice a_1 (List.length p1.Todo) c_1, .slice a_2 (List.length p1.Run) c_2, .slice a_3 (List.length p1.Row) c_3, .slice a_4 (List.length p1.Next) c_4, .slice a_5 (List.length p1.Made) c_5])]) _ _ (fun g7 x => (g7.1, x, g7.2.2.1, g7.2.2.2)) rfl rfl (fun _ => ⟨rfl, rfl, trivial⟩) (fun g7 => OT.call (us := [_]) (Pre := []) [.tmp 26] Try.call61 rfl rfl fun w F hs hF hp => laws_toVac_c (hb_1.pass hp) (hb_2.pass hp) (hb_3.pass hp) (hb_4.pass hp) (hb_5.pass hp) h13) (fun _ _ => ⟨rfl, rfl, ⟨rfl, rfl, rfl, rfl, rfl, rfl, rfl, rfl, rfl, rfl, trivial⟩⟩)
      · exact OpOK.of (fun g7 => [(.func 59, .func (.func 59) #[] #[]), (.tmp 25, .agg #[.int .i64 t8.Root, .slice g7.1.1 (List.length t8.L) g7.1.2]), (.tmp 27, .agg #[.int .i64 t12.Phase, .slice g7.2.1.1.1 (List.length t12.Todo) g7.2.1.1.2, .slice g7.2.1.2.1.1 (List.length t12.Run) g7.2.1.2.1.2, .slice g7.2.1.2.2.1.1 (List.length t12.Row) g7.2.1.2.2.1.2, .slice g7.2.1.2.2.2.1.1 (List.length t12.Next) g7.2.1.2.2.2.1.2, .slice g7.2.1.2.2.2.2.1 (List.length t12.Made) g7.2.1.2.2.2.2.2])]) _ _ (fun g7 x => (g7.1, g7.2.1, x, g7.2.2.2)) rfl rfl (fun _ => ⟨rfl, rfl, rfl, trivial⟩) (fun g7 => OT.call (us := [_, _]) (Pre := [OwnS kTPage g7.1.1 g7.1.2 t8.L, OwnS kI g7.2.1.2.2.2.2.1 g7.2.1.2.2.2.2.2 t12.Made]) [.tmp 25, .tmp 27] Try.call59 rfl rfl fun w F hs hF hp => spec_VacDrop_c (hs.lend hF 0 rfl) (hs.lend hF 1 rfl) h25) (fun _ _ => ⟨rfl, rfl, ⟨rfl, rfl, rfl, rfl, rfl, rfl, rfl, rfl, rfl, rfl, trivial⟩⟩)
      · exact OpOK.of (fun g7 => []) _ _ (fun g7 x => (g7.1, g7.2.1, g7.2.2.1, x)) rfl rfl (fun _ => trivial) (fun g7 => OT.alloc zc98) (fun _ _ => ⟨rfl, rfl, ⟨rfl, rfl, rfl, rfl, rfl, rfl, rfl, rfl, rfl, rfl, trivial⟩⟩)
      refine HQ.keep [(2, _), (3, _), (4, _), (28, _), (6, _)] ⟨rfl, rfl, rfl, rfl, rfl, trivial⟩ ?_
      refine HQ.keepR [(1, _), (2, _), (3, _), (4, _), (5, _), (6, _), (7, _), (8, _), (9, _), (10, _)] ⟨rfl, rfl, rfl, rfl, rfl, rfl, rfl, rfl, rfl, rfl, trivial⟩ rfl ?_
      refine HQ.opN [10] [10] [] (OT.storeC (cs' := [.int .i64 t24.Root, .slice g7.2.2.1.1 (List.length t24.L) g7.2.2.1.2]) sz98 rfl rfl rfl rfl rfl) ⟨rfl, rfl, trivial⟩ ⟨rfl, trivial⟩ rfl rfl rfl (fun _ => rfl) fun _ => ?_
      refine HQ.done ?_
      refine HQ.keep [(2, _), (3, _), (4, _), (6, _)] ⟨rfl, rfl, rfl, rfl, trivial⟩ ?_
      refine HQ.rseq ?_
      refine HQ.op [1] [1] (OT.loadBA (vs := [.int .i64 p0.Root, .slice a_0 (List.length p0.L) c_0]) ag89 sz89 rfl rfl) ⟨rfl, trivial⟩ ⟨rfl, trivial⟩ rfl rfl rfl rfl (fun _ => rfl) fun _ => ?_
      obtain ⟨t29, h30, H⟩ := bnd H
      refine HQ.op [] [11] (OT.call (us := [_]) (Pre := []) [.tmp 29] Try.call60 rfl rfl fun w F hs hF hp => laws_toBook_c (hb_0.pass hp) h30) ⟨rfl, rfl, trivial⟩ trivial rfl rfl rfl rfl (fun _ => rfl) fun ⟨a31, c32⟩ => ?_
      refine HQ.op [] [12] (OT.alloc zc98) trivial trivial rfl rfl rfl rfl (fun _ => rfl) fun b33 => ?_
      refine HQ.opN [12] [12] [] (OT.storeC (cs' := [.int .i64 t29.Root, .slice a31 (List.length t29.L) c32]) sz98 rfl rfl rfl rfl rfl) ⟨rfl, rfl, trivial⟩ ⟨rfl, trivial⟩ rfl rfl rfl (fun _ => rfl) fun _ => ?_
      refine HQ.done ?_
      refine HQ.keep [(2, _), (3, _), (4, _), (6, _), (7, _)] ⟨rfl, rfl, rfl, rfl, rfl, trivial⟩ ?_
      refine HQ.rseq ?_
      refine HQ.op [2] [2] (OT.loadBA (vs := [.int .i64 p1.Phase, .slice a_1 (List.length p1.Todo) c_1, .slice a_2 (List.length p1.Run) c_2, .slice a_3 (List.length p1.Row) c_3, .slice a_4 (List.length p1.Next) c_4, .slice a_5 (List.length p1.Made) c_5]) ag93 sz93 rfl rfl) ⟨rfl, trivial⟩ ⟨rfl, trivial⟩ rfl rfl rfl rfl (fun _ => rfl) fun _ => ?_
      obtain ⟨t34, h35, H⟩ := bnd H
      refine HQ.op [] [13, 14, 15, 16, 17] (OT.call (us := [_]) (Pre := []) [.tmp 31] Try.call61 rfl rfl fun w F hs hF hp => laws_toVac_c (hb_1.pass hp) (hb_2.pass hp) (hb_3.pass hp) (hb_4.pass hp) (hb_5.pass hp) h35) ⟨rfl, rfl, trivial⟩ trivial rfl rfl rfl rfl (fun _ => rfl) fun ⟨⟨a36, c37⟩, ⟨a38, c39⟩, ⟨a40, c41⟩, ⟨a42, c43⟩, ⟨a44, c45⟩⟩ => ?_
      refine HQ.op [] [18] (OT.alloc zc103) trivial trivial rfl rfl rfl rfl (fun _ => rfl) fun b46 => ?_
      refine HQ.opN [18] [18] [] (OT.storeC (cs' := [.int .i64 t34.Phase, .slice a36 (List.length t34.Todo) c37, .slice a38 (List.length t34.Run) c39, .slice a40 (List.length t34.Row) c41, .slice a42 (List.length t34.Next) c43, .slice a44 (List.length t34.Made) c45]) sz103 rfl rfl rfl rfl rfl) ⟨rfl, rfl, trivial⟩ ⟨rfl, trivial⟩ rfl rfl rfl (fun _ => rfl) fun _ => ?_
      refine HQ.done ?_
      refine HQ.keep [(2, _), (3, _), (4, _), (6, _), (7, _), (8, _)] ⟨rfl, rfl, rfl, rfl, rfl, rfl, trivial⟩ ?_
      refine HQ.rseq ?_
      refine HQ.op [12] [12] (OT.loadBA (vs := [.int .i64 t29.Root, .slice a31 (List.length t29.L) c32]) ag98 sz98 rfl rfl) ⟨rfl, trivial⟩ ⟨rfl, trivial⟩ rfl rfl rfl rfl (fun _ => rfl) fun _ => ?_
      refine HQ.op [18] [18] (OT.loadBA (vs := [.int .i64 t34.Phase, .slice a36 (List.length t34.Todo) c37, .slice a38 (List.length t34.Run) c39, .slice a40 (List.length t34.Row) c41, .slice a42 (List.length t34.Next) c43, .slice a44 (List.length t34.Made) c45]) ag103 sz103 rfl rfl) ⟨rfl, trivial⟩ ⟨rfl, trivial⟩ rfl rfl rfl rfl (fun _ => rfl) fun _ => ?_
      obtain ⟨t47, h48, H⟩ := bnd H
      refine HQ.op [11, 17] [19, 11, 17] (OT.call (us := [_, _]) (Pre := [OwnS kTPage a31 c32 t29.L, OwnS kI a44 c45 t34.Made]) [.tmp 33, .tmp 34] Try.call62 rfl rfl fun w F hs hF hp => impl_VacDrop_c (hs.lend hF 0 rfl) (hs.lend hF 1 rfl) h48) ⟨rfl, rfl, rfl, trivial⟩ ⟨rfl, rfl, trivial⟩ rfl rfl rfl rfl (fun _ => rfl) fun ⟨a49, c50⟩ => ?_
      refine HQ.op [] [20] (OT.alloc zc98) trivial trivial rfl rfl rfl rfl (fun _ => rfl) fun b51 => ?_
      refine HQ.opN [20] [20] [] (OT.storeC (cs' := [.int .i64 t47.Root, .slice a49 (List.length t47.L) c50]) sz98 rfl rfl rfl rfl rfl) ⟨rfl, rfl, trivial⟩ ⟨rfl, trivial⟩ rfl rfl rfl (fun _ => rfl) fun _ => ?_
      refine HQ.done ?_
      refine HQ.keep [(2, _), (3, _), (4, _), (6, _), (7, _), (8, _), (9, _)] ⟨rfl, rfl, rfl, rfl, rfl, rfl, rfl, trivial⟩ ?_
      refine HQ.seq ?_
      refine HQ.rseq ?_
      refine HQ.op [20] [20] (OT.loadBA (vs := [.int .i64 t47.Root, .slice a49 (List.length t47.L) c50]) ag98 sz98 rfl rfl) ⟨rfl, trivial⟩ ⟨rfl, trivial⟩ rfl rfl rfl rfl (fun _ => rfl) fun _ => ?_
      refine HQ.op [10] [10] (OT.loadBA (vs := [.int .i64 t24.Root, .slice g7.2.2.1.1 (List.length t24.L) g7.2.2.1.2]) ag98 sz98 rfl rfl) ⟨rfl, trivial⟩ ⟨rfl, trivial⟩ rfl rfl rfl rfl (fun _ => rfl) fun _ => ?_
      obtain ⟨t52, h53, H⟩ := bnd H
      refine HQ.op [19, 9] [19, 9] (OT.call (us := [_, _]) (Pre := [OwnS kTPage a49 c50 t47.L, OwnS kTPage g7.2.2.1.1 g7.2.2.1.2 t24.L]) [.tmp 36, .tmp 37] Try.call63 rfl rfl fun w F hs hF hp => laws_eqBook_c (hs.lend hF 0 rfl) (hs.lend hF 1 rfl) h53) ⟨rfl, rfl, rfl, trivial⟩ ⟨rfl, rfl, trivial⟩ rfl rfl rfl rfl (fun _ => rfl) fun _ => ?_
      refine HQ.pu Pu.not ⟨rfl, trivial⟩ rfl rfl rfl ?_
      refine HQ.done ?_
      refine HQ.keep [(2, _), (3, _), (4, _), (6, _), (7, _), (8, _), (9, _), (39, _)] ⟨rfl, rfl, rfl, rfl, rfl, rfl, rfl, rfl, trivial⟩ ?_
      rcases brk H with ⟨hc, H⟩ | ⟨hc, H⟩
      · refine HQ.condT rfl hc ?_
        clear hc
        refine HQ.rseq ?_
        refine HQ.pu Pu.assign ⟨rfl, trivial⟩ rfl rfl rfl ?_
        refine HQ.done ?_
        refine HQ.keep [(2, _), (3, _), (4, _), (6, _), (7, _), (8, _), (9, _)] ⟨rfl, rfl, rfl, rfl, rfl, rfl, rfl, trivial⟩ ?_
        refine HQ.ret ?_
        refine HQ.thenR ?_
        obtain rfl := Option.some.inj H
        exact HQ.fin (vs := [_]) Try.results11 () ⟨rfl, trivial⟩ rfl [] trivial rfl
      · refine HQ.condF rfl hc ?_
        clear hc
        refine HQ.skipThen ?_
        refine HQ.seq ?_
        obtain ⟨t55, h56, H⟩ := bnd H
        refine HQ.drawS mixd [(2, BP b1 0), (3, BP b2 0), (4, .bool false), (6, BP g7.2.2.2 0), (7, BP b33 0), (8, BP b46 0), (9, BP b51 0)] 3 [⟨[0], [0], []⟩, ⟨[1], [1], []⟩, ⟨[], [2], [1]⟩] [⟨none, none⟩, ⟨none, none⟩, ⟨some 2, none⟩] (fun (g54 : (Option Addr × Nat)) => [.agg #[.int .i64 t29.Root, .slice a31 (List.length t29.L) c32], .agg #[.int .i64 p0.Root, .slice a_0 (List.length p0.L) c_0], .agg #[.int .i64 t55.Root, .slice g54.1 (List.length t55.L) g54.2]]) (fun (g54 : (Option Addr × Nat)) => [Box b33 [.int .i64 t29.Root, .slice a31 (List.length t29.L) c32], Box b1 [.int .i64 p0.Root, .slice a_0 (List.length p0.L) c_0], OwnS kTPage g54.1 g54.2 t55.L]) (none, 0) [12, 1] [12, 1, 21] [] ⟨rfl, rfl, rfl, rfl, rfl, rfl, rfl, trivial⟩ ⟨rfl, rfl, trivial⟩ rfl (by kernel_rfl) (fun _ => rfl) (by kernel_rfl) (fun _ => rfl) ⟨?_, ?_, ?_, trivial⟩ fun g54 => ?_
        · exact OpOK.of (fun g54 => [(.tmp 7, BP b33 0)]) _ _ (fun g54 _ => g54) rfl rfl (fun _ => ⟨rfl, trivial⟩) (fun g54 => OT.loadBA (vs := [.int .i64 t29.Root, .slice a31 (List.length t29.L) c32]) ag98 sz98 rfl rfl) (fun _ _ => ⟨rfl, rfl, ⟨rfl, rfl, rfl, trivial⟩⟩)
        · exact OpOK.of (fun g54 => [(.tmp 2, BP b1 0)]) _ _ (fun g54 _ => g54) rfl rfl (fun _ => ⟨rfl, trivial⟩) (fun g54 => OT.loadBA (vs := [.int .i64 p0.Root, .slice a_0 (List.length p0.L) c_0]) ag89 sz89 rfl rfl) (fun _ _ => ⟨rfl, rfl, ⟨rfl, rfl, rfl, trivial⟩⟩)
        · exact OpOK.of (fun g54 => [(.func 60, .func (.func 60) #[] #[]), (.tmp 41, .agg #[.int .i64 p0.Root, .slice a_0 (List.length p0.L) c_0])]) _ _ (fun g54 x => x) rfl rfl (fun _ => ⟨rfl, rfl, trivial⟩) (fun g54 => OT.call (us := [_]) (Pre := []) [.tmp 41] Try.call60 rfl rfl fun w F hs hF hp => laws_toBook_c (hb_0.pass hp) h56) (fun _ _ => ⟨rfl, rfl, ⟨rfl, rfl, rfl, trivial⟩⟩)
        refine HQ.keep [(2, _), (3, _), (4, _), (6, _), (7, _), (8, _), (9, _), (40, _), (42, _)] ⟨rfl, rfl, rfl, rfl, rfl, rfl, rfl, rfl, rfl, trivial⟩ ?_
        refine HQ.keepR [(1, _), (2, _), (3, _), (4, _), (5, _), (6, _), (7, _), (8, _), (9, _), (10, _), (11, _), (12, _), (13, _), (14, _), (15, _), (16, _), (17, _), (18, _), (19, _), (20, _), (21, _)] ⟨rfl, rfl, rfl, rfl, rfl, rfl, rfl, rfl, rfl, rfl, rfl, rfl, rfl, rfl, rfl, rfl, rfl, rfl, rfl, rfl, rfl, trivial⟩ rfl ?_
        obtain ⟨t59, h60, H⟩ := bnd H
        refine HQ.op [11, 21] [11, 21] (OT.call (us := [_, _]) (Pre := [OwnS kTPage a31 c32 t29.L, OwnS kTPage g54.1 g54.2 t55.L]) [.tmp 40, .tmp 42] Try.call63 rfl rfl fun w F hs hF hp => laws_eqBook_c (hs.lend hF 0 rfl) (hs.lend hF 1 rfl) h60) ⟨rfl, rfl, rfl, trivial⟩ ⟨rfl, rfl, trivial⟩ rfl rfl rfl rfl (fun _ => rfl) fun _ => ?_
        refine HQ.pu Pu.not ⟨rfl, trivial⟩ rfl rfl rfl ?_
        refine HQ.done ?_
        refine HQ.keep [(2, _), (3, _), (4, _), (6, _), (7, _), (8, _), (9, _), (44, _)] ⟨rfl, rfl, rfl, rfl, rfl, rfl, rfl, rfl, trivial⟩ ?_
        rcases brk H with ⟨hc, H⟩ | ⟨hc, H⟩
        · refine HQ.condT rfl hc ?_
          clear hc
          refine HQ.rseq ?_
          refine HQ.pu Pu.assign ⟨rfl, trivial⟩ rfl rfl rfl ?_
          refine HQ.done ?_
          refine HQ.keep [(2, _), (3, _), (4, _), (6, _), (7, _), (8, _), (9, _)] ⟨rfl, rfl, rfl, rfl, rfl, rfl, rfl, trivial⟩ ?_
          refine HQ.ret ?_
          refine HQ.thenR ?_
          obtain rfl := Option.some.inj H
          exact HQ.fin (vs := [_]) Try.results11 () ⟨rfl, trivial⟩ rfl [] trivial rfl
        · refine HQ.condF rfl hc ?_
          clear hc
          refine HQ.skipThen ?_
          refine HQ.seq ?_
          obtain ⟨t62, h63, H⟩ := bnd H
          refine HQ.drawS mixd [(2, BP b1 0), (3, BP b2 0), (4, .bool false), (6, BP g7.2.2.2 0), (7, BP b33 0), (8, BP b46 0), (9, BP b51 0)] 3 [⟨[0], [0], []⟩, ⟨[1], [1], []⟩, ⟨[], [2, 3, 4, 5, 6], [1]⟩] [⟨none, none⟩, ⟨none, none⟩, ⟨some 2, none⟩, ⟨some 2, none⟩, ⟨some 2, none⟩, ⟨some 2, none⟩, ⟨some 2, none⟩] (fun (g61 : ((Option Addr × Nat) × (Option Addr × Nat) × (Option Addr × Nat) × (Option Addr × Nat) × (Option Addr × Nat))) => [.agg #[.int .i64 t34.Phase, .slice a36 (List.length t34.Todo) c37, .slice a38 (List.length t34.Run) c39, .slice a40 (List.length t34.Row) c41, .slice a42 (List.length t34.Next) c43, .slice a44 (List.length t34.Made) c45], .agg #[.int .i64 p1.Phase, .slice a_1 (List.length p1.Todo) c_1, .slice a_2 (List.length p1.Run) c_2, .slice a_3 (List.length p1.Row) c_3, .slice a_4 (List.length p1.Next) c_4, .slice a_5 (List.length p1.Made) c_5], .agg #[.int .i64 t62.Phase, .slice g61.1.1 (List.length t62.Todo) g61.1.2, .slice g61.2.1.1 (List.length t62.Run) g61.2.1.2, .slice g61.2.2.1.1 (List.length t62.Row) g61.2.2.1.2, .slice g61.2.2.2.1.1 (List.length t62.Next) g61.2.2.2.1.2, .slice g61.2.2.2.2.1 (List.length t62.Made) g61.2.2.2.2.2]]) (fun (g61 : ((Option Addr × Nat) × (Option Addr × Nat) × (Option Addr × Nat) × (Option Addr × Nat) × (Option Addr × Nat))) => [Box b46 [.int .i64 t34.Phase, .slice a36 (List.length t34.Todo) c37, .slice a38 (List.length t34.Run) c39, .slice a40 (List.length t34.Row) c41, .slice a42 (List.length t34.Next) c43, .slice a44 (List.length t34.Made) c45], Box b2 [.int .i64 p1.Phase, .slice a_1 (List.length p1.Todo) c_1, .slice a_2 (List.length p1.Run) c_2, .slice a_3 (List.length p1.Row) c_3, .slice a_4 (List.length p1.Next) c_4, .slice a_5 (List.length p1.Made) c_5], OwnS kI g61.1.1 g61.1.2 t62.Todo, OwnS kTItem g61.2.1.1 g61.2.1.2 t62.Run, OwnS kTEntry g61.2.2.1.1 g61.2.2.1.2 t62.Row, OwnS kTEntry g61.2.2.2.1.1 g61.2.2.2.1.2 t62.Next, OwnS kI g61.2.2.2.2.1 g61.2.2.2.2.2 t62.Made]) ((none, 0), (none, 0), (none, 0), (none, 0), (none, 0)) [18, 2] [18, 2, 22, 23, 24, 25, 26] [] ⟨rfl, rfl, rfl, rfl, rfl, rfl, rfl, trivial⟩ ⟨rfl, rfl, trivial⟩ rfl (by kernel_rfl) (fun _ => rfl) (by kernel_rfl) (fun _ => rfl) ⟨?_, ?_, ?_, trivial⟩ fun g61 => ?_
          · exact OpOK.of (fun g61 => [(.tmp 8, BP b46 0)]) _ _ (fun g61 _ => g61) rfl rfl (fun _ => ⟨rfl, trivial⟩) (fun g61 => OT.loadBA (vs := [.int .i64 t34.Phase, .slice a36 (List.length t34.Todo) c37, .slice a38 (List.length t34.Run) c39, .slice a40 (List.length t34.Row) c41, .slice a42 (List.length t34.Next) c43, .slice a44 (List.length t34.Made) c45]) ag103 sz103 rfl rfl) (fun _ _ => ⟨rfl, rfl, ⟨rfl, rfl, rfl, rfl, rfl, rfl, rfl, trivial⟩⟩)
          · exact OpOK.of (fun g61 => [(.tmp 3, BP b2 0)]) _ _ (fun g61 _ => g61) rfl rfl (fun _ => ⟨rfl, trivial⟩) (fun g61 => OT.loadBA (vs := [.int .i64 p1.Phase, .slice a_1 (List.length p1.Todo) c_1, .slice a_2 (List.length p1.Run) c_2, .slice a_3 (List.length p1.Row) c_3, .slice a_4 (List.length p1.Next) c_4, .slice a_5 (List.length p1.Made) c_5]) ag93 sz93 rfl rfl) (fun _ _ => ⟨rfl, rfl, ⟨rfl, rfl, rfl, rfl, rfl, rfl, rfl, trivial⟩⟩)
          · exact OpOK.of (fun g61 => [(.func 61, .func (.func 61) #[] #[]), (.tmp 46, .agg #[.int .i64 p1.Phase, .slice a_1 (List.length p1.Todo) c_1, .slice a_2 (List.length p1.Run) c_2, .slice a_3 (List.length p1.Row) c_3, .slice a_4 (List.length p1.Next) c_4, .slice a_5 (List.length p1.Made) c_5])]) _ _ (fun g61 x => x) rfl rfl (fun _ => ⟨rfl, rfl, trivial⟩) (fun g61 => OT.call (us := [_]) (Pre := []) [.tmp 46] Try.call61 rfl rfl fun w F hs hF hp => laws_toVac_c (hb_1.pass hp) (hb_2.pass hp) (hb_3.pass hp) (hb_4.pass hp) (hb_5.pass hp) h63) (fun _ _ => ⟨rfl, rfl, ⟨rfl, rfl, rfl, rfl, rfl, rfl, rfl, trivial⟩⟩)
          refine HQ.keep [(2, _), (3, _), (4, _), (6, _), (7, _), (8, _), (9, _), (45, _), (47, _)] ⟨rfl, rfl, rfl, rfl, rfl, rfl, rfl, rfl, rfl, trivial⟩ ?_
          refine HQ.keepR [(1, _), (2, _), (3, _), (4, _), (5, _), (6, _), (7, _), (8, _), (9, _), (10, _), (11, _), (12, _), (13, _), (14, _), (15, _), (16, _), (17, _), (18, _), (19, _), (20, _), (21, _), (22, _), (23, _), (24, _), (25, _), (26, _)] ⟨rfl, rfl, rfl, rfl, rfl, rfl, rfl, rfl, rfl, rfl, rfl, rfl, rfl, rfl, rfl, rfl, rfl, rfl, rfl, rfl, rfl, rfl, rfl, rfl, rfl, rfl, trivial⟩ rfl ?_
          obtain ⟨t74, h75, H⟩ := bnd H
          refine HQ.op [13, 14, 15, 16, 17, 22, 23, 24, 25, 26] [13, 14, 15, 16, 17, 22, 23, 24, 25, 26] (OT.call (us := [_, _]) (Pre := [OwnS kI a36 c37 t34.Todo, OwnS kTItem a38 c39 t34.Run, OwnS kTEntry a40 c41 t34.Row, OwnS kTEntry a42 c43 t34.Next, OwnS kI a44 c45 t34.Made, OwnS kI g61.1.1 g61.1.2 t62.Todo, OwnS kTItem g61.2.1.1 g61.2.1.2 t62.Run, OwnS kTEntry g61.2.2.1.1 g61.2.2.1.2 t62.Row, OwnS kTEntry g61.2.2.2.1.1 g61.2.2.2.1.2 t62.Next, OwnS kI g61.2.2.2.2.1 g61.2.2.2.2.2 t62.Made]) [.tmp 45, .tmp 47] Try.call64 rfl rfl fun w F hs hF hp => laws_eqVac_c (hs.lend hF 0 rfl) (hs.lend hF 1 rfl) (hs.lend hF 2 rfl) (hs.lend hF 3 rfl) (hs.lend hF 4 rfl) (hs.lend hF 5 rfl) (hs.lend hF 6 rfl) (hs.lend hF 7 rfl) (hs.lend hF 8 rfl) (hs.lend hF 9 rfl) h75) ⟨rfl, rfl, rfl, trivial⟩ ⟨rfl, rfl, rfl, rfl, rfl, rfl, rfl, rfl, rfl, rfl, trivial⟩ rfl rfl rfl rfl (fun _ => rfl) fun _ => ?_
          refine HQ.pu Pu.not ⟨rfl, trivial⟩ rfl rfl rfl ?_
          refine HQ.done ?_
          refine HQ.keep [(2, _), (3, _), (4, _), (6, _), (7, _), (8, _), (9, _), (49, _)] ⟨rfl, rfl, rfl, rfl, rfl, rfl, rfl, rfl, trivial⟩ ?_
          rcases brk H with ⟨hc, H⟩ | ⟨hc, H⟩
          · refine HQ.condT rfl hc ?_
            clear hc
            refine HQ.rseq ?_
            refine HQ.pu Pu.assign ⟨rfl, trivial⟩ rfl rfl rfl ?_
            refine HQ.done ?_
            refine HQ.keep [(2, _), (3, _), (4, _), (6, _), (7, _), (8, _), (9, _)] ⟨rfl, rfl, rfl, rfl, rfl, rfl, rfl, trivial⟩ ?_
            refine HQ.ret ?_
            refine HQ.thenR ?_
            obtain rfl := Option.some.inj H
            exact HQ.fin (vs := [_]) Try.results11 () ⟨rfl, trivial⟩ rfl [] trivial rfl
          · refine HQ.condF rfl hc ?_
            clear hc
            refine HQ.skipThen ?_
            refine HQ.rseq ?_
            refine HQ.pu Pu.assign ⟨rfl, trivial⟩ rfl rfl rfl ?_
            refine HQ.done ?_
            refine HQ.keep [(2, _), (3, _), (4, _), (6, _), (7, _), (8, _), (9, _), (10, _)] ⟨rfl, rfl, rfl, rfl, rfl, rfl, rfl, rfl, trivial⟩ ?_
            refine HQ.rseq ?_
            refine HQ.op [12] [12] (OT.loadBA (vs := [.int .i64 t29.Root, .slice a31 (List.length t29.L) c32]) ag98 sz98 rfl rfl) ⟨rfl, trivial⟩ ⟨rfl, trivial⟩ rfl rfl rfl rfl (fun _ => rfl) fun _ => ?_
            refine HQ.pu Pu.move ⟨rfl, trivial⟩ rfl rfl rfl ?_
            obtain ⟨t76, h77, H⟩ := bnd H
            obtain ⟨h78, H⟩ := asr H
            refine HQ.op [11] [11] (OT.callM (us := [_, _]) (PreX := [OwnS kTPage a31 c32 t29.L]) (PreL := []) [.tmp 50, .tmp 51] Try.call65 rfl rfl fun w FX FL hs1 hF1 hs2 hF2 hp => laws_markBook_c (p0 := t29) (p1 := 1) hs1 hF1 h77) ⟨rfl, rfl, rfl, trivial⟩ ⟨rfl, trivial⟩ rfl rfl rfl rfl (fun _ => rfl) fun _ => ?_
            refine HQ.re (v' := .agg #[.int .i64 t29.Root, .slice a31 (List.length t76.2) c32]) 50 rfl (by simp [h78]) ?_
            refine HQ.reR (B := Box b33 [.int .i64 t29.Root, .slice a31 (List.length t76.2) c32]) 12 rfl (fun _ _ hb => by rw [show List.length t76.2 = List.length t29.L from (by simp [h78])]; exact hb) ?_
            refine HQ.pu Pu.assign ⟨rfl, trivial⟩ rfl rfl rfl ?_
            refine HQ.done ?_
            refine HQ.keep [(2, _), (3, _), (4, _), (6, _), (8, _), (9, _), (10, _)] ⟨rfl, rfl, rfl, rfl, rfl, rfl, rfl, trivial⟩ ?_
            refine HQ.rseq ?_
            refine HQ.op [18] [18] (OT.loadBA (vs := [.int .i64 t34.Phase, .slice a36 (List.length t34.Todo) c37, .slice a38 (List.length t34.Run) c39, .slice a40 (List.length t34.Row) c41, .slice a42 (List.length t34.Next) c43, .slice a44 (List.length t34.Made) c45]) ag103 sz103 rfl rfl) ⟨rfl, trivial⟩ ⟨rfl, trivial⟩ rfl rfl rfl rfl (fun _ => rfl) fun _ => ?_
            refine HQ.pu Pu.move ⟨rfl, trivial⟩ rfl rfl rfl ?_
            obtain ⟨t79, h80, H⟩ := bnd H
            obtain ⟨h81, H⟩ := asr H
            obtain ⟨h82, H⟩ := asr H
            obtain ⟨h83, H⟩ := asr H
            obtain ⟨h84, H⟩ := asr H
            obtain ⟨h85, H⟩ := asr H
            refine HQ.op [13, 14, 15, 16, 17] [13, 14, 15, 16, 17] (OT.callM (us := [_, _]) (PreX := [OwnS kI a36 c37 t34.Todo, OwnS kTItem a38 c39 t34.Run, OwnS kTEntry a40 c41 t34.Row, OwnS kTEntry a42 c43 t34.Next, OwnS kI a44 c45 t34.Made]) (PreL := []) [.tmp 53, .tmp 54] Try.call66 rfl rfl fun w FX FL hs1 hF1 hs2 hF2 hp => laws_markVac_c (p0 := t34) (p1 := t76.1) hs1 hF1 h80) ⟨rfl, rfl, rfl, trivial⟩ ⟨rfl, rfl, rfl, rfl, rfl, trivial⟩ rfl rfl rfl rfl (fun _ => rfl) fun _ => ?_
            refine HQ.re (v' := .agg #[.int .i64 t34.Phase, .slice a36 (List.length t79.2.1) c37, .slice a38 (List.length t79.2.2.1) c39, .slice a40 (List.length t79.2.2.2.1) c41, .slice a42 (List.length t79.2.2.2.2.1) c43, .slice a44 (List.length t79.2.2.2.2.2) c45]) 53 rfl (by simp [h78, h81, h82, h83, h84, h85]) ?_
            refine HQ.reR (B := Box b46 [.int .i64 t34.Phase, .slice a36 (List.length t79.2.1) c37, .slice a38 (List.length t79.2.2.1) c39, .slice a40 (List.length t79.2.2.2.1) c41, .slice a42 (List.length t79.2.2.2.2.1) c43, .slice a44 (List.length t79.2.2.2.2.2) c45]) 18 rfl (fun _ _ hb => by rw [show List.length t79.2.1 = List.length t34.Todo from (by simp [h78, h81, h82, h83, h84, h85]), show List.length t79.2.2.1 = List.length t34.Run from (by simp [h78, h81, h82, h83, h84, h85]), show List.length t79.2.2.2.1 = List.length t34.Row from (by simp [h78, h81, h82, h83, h84, h85]), show List.length t79.2.2.2.2.1 = List.length t34.Next from (by simp [h78, h81, h82, h83, h84, h85]), show List.length t79.2.2.2.2.2 = List.length t34.Made from (by simp [h78, h81, h82, h83, h84, h85])]; exact hb) ?_
            refine HQ.pu Pu.assign ⟨rfl, trivial⟩ rfl rfl rfl ?_
            refine HQ.done ?_
            refine HQ.keep [(2, _), (3, _), (4, _), (6, _), (9, _), (10, _)] ⟨rfl, rfl, rfl, rfl, rfl, rfl, trivial⟩ ?_
            refine HQ.seq ?_
            refine HQ.rseq ?_
            refine HQ.pu Pu.move ⟨rfl, trivial⟩ rfl rfl rfl ?_
            refine HQ.pu Pu.lss ⟨rfl, rfl, trivial⟩ rfl rfl rfl ?_
            refine HQ.pu Pu.move ⟨rfl, trivial⟩ rfl rfl rfl ?_
            obtain ⟨c89, h90, H⟩ := bnd H
            refine HQ.cutAt 5 [(63, .bool c89), (2, BP b1 0), (3, BP b2 0), (4, .bool false), (6, BP g7.2.2.2 0), (9, BP b51 0)] [(1, Box b1 [.int .i64 p0.Root, .slice a_0 (List.length p0.L) c_0]), (2, Box b2 [.int .i64 p1.Phase, .slice a_1 (List.length p1.Todo) c_1, .slice a_2 (List.length p1.Run) c_2, .slice a_3 (List.length p1.Row) c_3, .slice a_4 (List.length p1.Next) c_4, .slice a_5 (List.length p1.Made) c_5]), (3, OwnS kTPage g7.1.1 g7.1.2 t8.L), (4, OwnS kI g7.2.1.1.1 g7.2.1.1.2 t12.Todo), (5, OwnS kTItem g7.2.1.2.1.1 g7.2.1.2.1.2 t12.Run), (6, OwnS kTEntry g7.2.1.2.2.1.1 g7.2.1.2.2.1.2 t12.Row), (7, OwnS kTEntry g7.2.1.2.2.2.1.1 g7.2.1.2.2.2.1.2 t12.Next), (8, OwnS kI g7.2.1.2.2.2.2.1 g7.2.1.2.2.2.2.2 t12.Made), (9, OwnS kTPage g7.2.2.1.1 g7.2.2.1.2 t24.L), (10, Box g7.2.2.2 [.int .i64 t24.Root, .slice g7.2.2.1.1 (List.length t24.L) g7.2.2.1.2]), (11, OwnS kTPage a31 c32 t76.2), (12, Box b33 [.int .i64 t29.Root, .slice a31 (List.length t76.2) c32]), (13, OwnS kI a36 c37 t79.2.1), (14, OwnS kTItem a38 c39 t79.2.2.1), (15, OwnS kTEntry a40 c41 t79.2.2.2.1), (16, OwnS kTEntry a42 c43 t79.2.2.2.2.1), (17, OwnS kI a44 c45 t79.2.2.2.2.2), (18, Box b46 [.int .i64 t34.Phase, .slice a36 (List.length t79.2.1) c37, .slice a38 (List.length t79.2.2.1) c39, .slice a40 (List.length t79.2.2.2.1) c41, .slice a42 (List.length t79.2.2.2.2.1) c43, .slice a44 (List.length t79.2.2.2.2.2) c45]), (19, OwnS kTPage a49 c50 t47.L), (20, Box b51 [.int .i64 t47.Root, .slice a49 (List.length t47.L) c50]), (21, OwnS kTPage g54.1 g54.2 t55.L), (22, OwnS kI g61.1.1 g61.1.2 t62.Todo), (23, OwnS kTItem g61.2.1.1 g61.2.1.2 t62.Run), (24, OwnS kTEntry g61.2.2.1.1 g61.2.2.1.2 t62.Row), (25, OwnS kTEntry g61.2.2.2.1.1 g61.2.2.2.1.2 t62.Next), (26, OwnS kI g61.2.2.2.2.1 g61.2.2.2.2.2 t62.Made)] ?_ ?_
            · clear H
              have H := h90
              rcases brk H with ⟨hg86, H⟩ | ⟨hg86, H⟩
              · obtain rfl := Option.some.inj H
                refine HQ.off rfl rfl hg86 rfl ?_
                refine HQ.off rfl rfl hg86 rfl ?_
                refine HQ.off rfl rfl hg86 rfl ?_
                refine HQ.off rfl rfl hg86 rfl ?_
                refine HQ.pu (Pu.pickC1 hg86) ⟨rfl, rfl, trivial⟩ rfl rfl rfl ?_
                exact HQ.mid ⟨rfl, rfl, rfl, rfl, rfl, rfl, trivial⟩ ⟨rfl, rfl, rfl, rfl, rfl, rfl, rfl, rfl, rfl, rfl, rfl, rfl, rfl, rfl, rfl, rfl, rfl, rfl, rfl, rfl, rfl, rfl, rfl, rfl, rfl, rfl, trivial⟩ rfl
              · refine HQ.on rfl rfl hg86 ?_
                refine HQ.op [20] [20] (OT.loadBA (vs := [.int .i64 t47.Root, .slice a49 (List.length t47.L) c50]) ag98 sz98 rfl rfl) ⟨rfl, trivial⟩ ⟨rfl, trivial⟩ rfl rfl rfl rfl (fun _ => rfl) fun _ => ?_
                refine HQ.on rfl rfl hg86 ?_
                refine HQ.op [10] [10] (OT.loadBA (vs := [.int .i64 t24.Root, .slice g7.2.2.1.1 (List.length t24.L) g7.2.2.1.2]) ag98 sz98 rfl rfl) ⟨rfl, trivial⟩ ⟨rfl, trivial⟩ rfl rfl rfl rfl (fun _ => rfl) fun _ => ?_
                refine HQ.on rfl rfl hg86 ?_
                obtain ⟨t87, h88, H⟩ := bnd H
                refine HQ.op [19, 9] [19, 9] (OT.call (us := [_, _]) (Pre := [OwnS kTPage a49 c50 t47.L, OwnS kTPage g7.2.2.1.1 g7.2.2.1.2 t24.L]) [.tmp 59, .tmp 60] Try.call63 rfl rfl fun w F hs hF hp => laws_eqBook_c (hs.lend hF 0 rfl) (hs.lend hF 1 rfl) h88) ⟨rfl, rfl, rfl, trivial⟩ ⟨rfl, rfl, trivial⟩ rfl rfl rfl rfl (fun _ => rfl) fun _ => ?_
                refine HQ.on rfl rfl hg86 ?_
                refine HQ.pu Pu.not ⟨rfl, trivial⟩ rfl rfl rfl ?_
                obtain rfl := Option.some.inj H
                refine HQ.pu (Pu.pickC0 hg86) ⟨rfl, rfl, trivial⟩ rfl rfl rfl ?_
                exact HQ.mid ⟨rfl, rfl, rfl, rfl, rfl, rfl, trivial⟩ ⟨rfl, rfl, rfl, rfl, rfl, rfl, rfl, rfl, rfl, rfl, rfl, rfl, rfl, rfl, rfl, rfl, rfl, rfl, rfl, rfl, rfl, rfl, rfl, rfl, rfl, rfl, trivial⟩ rfl
            refine HQ.done ?_
            refine HQ.keep [(63, _), (2, _), (3, _), (4, _), (6, _), (9, _)] ⟨rfl, rfl, rfl, rfl, rfl, rfl, trivial⟩ ?_
            rcases brk H with ⟨hc, H⟩ | ⟨hc, H⟩
            · refine HQ.condT rfl hc ?_
              clear hc
              refine HQ.rseq ?_
              refine HQ.pu Pu.assign ⟨rfl, trivial⟩ rfl rfl rfl ?_
              refine HQ.done ?_
              refine HQ.keep [(2, _), (3, _), (4, _), (6, _), (9, _)] ⟨rfl, rfl, rfl, rfl, rfl, trivial⟩ ?_
              refine HQ.ret ?_
              refine HQ.thenR ?_
              obtain rfl := Option.some.inj H
              exact HQ.fin (vs := [_]) Try.results11 () ⟨rfl, trivial⟩ rfl [] trivial rfl
            · refine HQ.condF rfl hc ?_
              clear hc
              refine HQ.skipThen ?_
              refine HQ.rseq ?_
              refine HQ.pu Pu.assign ⟨rfl, trivial⟩ rfl rfl rfl ?_
              refine HQ.done ?_
              refine HQ.keep [(2, _), (3, _), (4, _), (6, _), (9, _), (11, _)] ⟨rfl, rfl, rfl, rfl, rfl, rfl, trivial⟩ ?_
              refine HQ.rseq ?_
              refine HQ.op [20] [20] (OT.loadBA (vs := [.int .i64 t47.Root, .slice a49 (List.length t47.L) c50]) ag98 sz98 rfl rfl) ⟨rfl, trivial⟩ ⟨rfl, trivial⟩ rfl rfl rfl rfl (fun _ => rfl) fun _ => ?_
              refine HQ.pu Pu.move ⟨rfl, trivial⟩ rfl rfl rfl ?_
              obtain ⟨t91, h92, H⟩ := bnd H
              obtain ⟨h93, H⟩ := asr H
              refine HQ.op [19] [19] (OT.callM (us := [_, _]) (PreX := [OwnS kTPage a49 c50 t47.L]) (PreL := []) [.tmp 64, .tmp 65] Try.call65 rfl rfl fun w FX FL hs1 hF1 hs2 hF2 hp => laws_markBook_c (p0 := t47) (p1 := 1) hs1 hF1 h92) ⟨rfl, rfl, rfl, trivial⟩ ⟨rfl, trivial⟩ rfl rfl rfl rfl (fun _ => rfl) fun _ => ?_
              refine HQ.re (v' := .agg #[.int .i64 t47.Root, .slice a49 (List.length t91.2) c50]) 64 rfl (by simp [h78, h81, h82, h83, h84, h85, h93]) ?_
              refine HQ.reR (B := Box b51 [.int .i64 t47.Root, .slice a49 (List.length t91.2) c50]) 20 rfl (fun _ _ hb => by rw [show List.length t91.2 = List.length t47.L from (by simp [h78, h81, h82, h83, h84, h85, h93])]; exact hb) ?_
              refine HQ.pu Pu.assign ⟨rfl, trivial⟩ rfl rfl rfl ?_
              refine HQ.done ?_
              refine HQ.keep [(2, _), (3, _), (4, _), (6, _), (9, _), (11, _)] ⟨rfl, rfl, rfl, rfl, rfl, rfl, trivial⟩ ?_
              refine HQ.rseq ?_
              refine HQ.pu Pu.assign ⟨rfl, trivial⟩ rfl rfl rfl ?_
              refine HQ.done ?_
              refine HQ.keep [(2, _), (3, _), (4, _), (6, _), (9, _), (11, _), (12, _)] ⟨rfl, rfl, rfl, rfl, rfl, rfl, rfl, trivial⟩ ?_
              refine HQ.rseq ?_
              refine HQ.op [20] [20] (OT.loadBA (vs := [.int .i64 t47.Root, .slice a49 (List.length t91.2) c50]) ag98 sz98 rfl rfl) ⟨rfl, trivial⟩ ⟨rfl, trivial⟩ rfl rfl rfl rfl (fun _ => rfl) fun _ => ?_
              refine HQ.pu Pu.move ⟨rfl, trivial⟩ rfl rfl rfl ?_
              obtain ⟨t94, h95, H⟩ := bnd H
              refine HQ.op [19] [19] (OT.call (us := [_, _]) (Pre := [OwnS kTPage a49 c50 t91.2]) [.tmp 67, .tmp 68] Try.call67 rfl rfl fun w F hs hF hp => laws_heldBook_c (hs.lend hF 0 rfl) h95) ⟨rfl, rfl, rfl, trivial⟩ ⟨rfl, trivial⟩ rfl rfl rfl rfl (fun _ => rfl) fun _ => ?_
              refine HQ.pu Pu.assign ⟨rfl, trivial⟩ rfl rfl rfl ?_
              refine HQ.done ?_
              refine HQ.keep [(2, _), (3, _), (4, _), (6, _), (9, _), (11, _), (12, _)] ⟨rfl, rfl, rfl, rfl, rfl, rfl, rfl, trivial⟩ ?_
              refine HQ.seq ?_
              refine HQ.rseq ?_
              refine HQ.pu Pu.move ⟨rfl, trivial⟩ rfl rfl rfl ?_
              refine HQ.pu Pu.lss ⟨rfl, rfl, trivial⟩ rfl rfl rfl ?_
              refine HQ.done ?_
              refine HQ.keep [(2, _), (3, _), (4, _), (6, _), (9, _), (11, _), (12, _), (71, _)] ⟨rfl, rfl, rfl, rfl, rfl, rfl, rfl, rfl, trivial⟩ ?_
              rcases brk H with ⟨hc, H⟩ | ⟨hc, H⟩
              · refine HQ.condT rfl hc ?_
                clear hc
                refine HQ.rseq ?_
                refine HQ.pu Pu.assign ⟨rfl, trivial⟩ rfl rfl rfl ?_
                refine HQ.done ?_
                refine HQ.keep [(2, _), (3, _), (4, _), (6, _), (9, _), (11, _), (12, _)] ⟨rfl, rfl, rfl, rfl, rfl, rfl, rfl, trivial⟩ ?_
                refine HQ.ret ?_
                refine HQ.thenR ?_
                obtain rfl := Option.some.inj H
                exact HQ.fin (vs := [_]) Try.results11 () ⟨rfl, trivial⟩ rfl [] trivial rfl
              · refine HQ.condF rfl hc ?_
                clear hc
                refine HQ.skipThen ?_
                refine HQ.seq ?_
                refine HQ.rseq ?_
                refine HQ.pu Pu.move ⟨rfl, trivial⟩ rfl rfl rfl ?_
                refine HQ.pu Pu.move ⟨rfl, trivial⟩ rfl rfl rfl ?_
                refine HQ.pu Pu.neq ⟨rfl, rfl, trivial⟩ rfl rfl rfl ?_
                refine HQ.done ?_
                refine HQ.keep [(2, _), (3, _), (4, _), (6, _), (9, _), (11, _), (74, _)] ⟨rfl, rfl, rfl, rfl, rfl, rfl, rfl, trivial⟩ ?_
                rcases brk H with ⟨hc, H⟩ | ⟨hc, H⟩
                · refine HQ.condT rfl hc ?_
                  clear hc
                  refine HQ.rseq ?_
                  refine HQ.pu Pu.assign ⟨rfl, trivial⟩ rfl rfl rfl ?_
                  refine HQ.done ?_
                  refine HQ.keep [(2, _), (3, _), (4, _), (6, _), (9, _), (11, _)] ⟨rfl, rfl, rfl, rfl, rfl, rfl, trivial⟩ ?_
                  refine HQ.ret ?_
                  refine HQ.thenR ?_
                  obtain rfl := Option.some.inj H
                  exact HQ.fin (vs := [_]) Try.results11 () ⟨rfl, trivial⟩ rfl [] trivial rfl
                · refine HQ.condF rfl hc ?_
                  clear hc
                  refine HQ.skipThen ?_
                  obtain ⟨t97, h98, H⟩ := bnd H
                  obtain ⟨t101, h102, H⟩ := bnd H
                  obtain ⟨t113, h114, H⟩ := bnd H
                  refine HQ.drawS mixd [(2, BP b1 0), (3, BP b2 0), (4, .bool false), (6, BP g7.2.2.2 0), (9, BP b51 0), (11, .int .i64 t91.1)] 6 [⟨[0], [0], []⟩, ⟨[], [1], [0]⟩, ⟨[2], [2], []⟩, ⟨[], [3, 4, 5, 6, 7], [2]⟩, ⟨[1, 7], [8, 1, 7], [1, 3]⟩, ⟨[], [9], []⟩] [⟨none, none⟩, ⟨some 1, none⟩, ⟨none, none⟩, ⟨some 3, none⟩, ⟨some 3, none⟩, ⟨some 3, none⟩, ⟨some 3, none⟩, ⟨some 3, none⟩, ⟨some 4, none⟩, ⟨some 5, none⟩] (fun (g96 : (Option Addr × Nat) × ((Option Addr × Nat) × (Option Addr × Nat) × (Option Addr × Nat) × (Option Addr × Nat) × (Option Addr × Nat)) × (Option Addr × Nat) × Nat) => [.agg #[.int .i64 p0.Root, .slice a_0 (List.length p0.L) c_0], .agg #[.int .i64 t97.Root, .slice g96.1.1 (List.length t97.L) g96.1.2], .agg #[.int .i64 p1.Phase, .slice a_1 (List.length p1.Todo) c_1, .slice a_2 (List.length p1.Run) c_2, .slice a_3 (List.length p1.Row) c_3, .slice a_4 (List.length p1.Next) c_4, .slice a_5 (List.length p1.Made) c_5], .agg #[.int .i64 t101.Phase, .slice g96.2.1.1.1 (List.length t101.Todo) g96.2.1.1.2, .slice g96.2.1.2.1.1 (List.length t101.Run) g96.2.1.2.1.2, .slice g96.2.1.2.2.1.1 (List.length t101.Row) g96.2.1.2.2.1.2, .slice g96.2.1.2.2.2.1.1 (List.length t101.Next) g96.2.1.2.2.2.1.2, .slice g96.2.1.2.2.2.2.1 (List.length t101.Made) g96.2.1.2.2.2.2.2], .agg #[.int .i64 t113.Root, .slice g96.2.2.1.1 (List.length t113.L) g96.2.2.1.2], BP g96.2.2.2 0]) (fun (g96 : (Option Addr × Nat) × ((Option Addr × Nat) × (Option Addr × Nat) × (Option Addr × Nat) × (Option Addr × Nat) × (Option Addr × Nat)) × (Option Addr × Nat) × Nat) => [Box b1 [.int .i64 p0.Root, .slice a_0 (List.length p0.L) c_0], OwnS kTPage g96.1.1 g96.1.2 t97.L, Box b2 [.int .i64 p1.Phase, .slice a_1 (List.length p1.Todo) c_1, .slice a_2 (List.length p1.Run) c_2, .slice a_3 (List.length p1.Row) c_3, .slice a_4 (List.length p1.Next) c_4, .slice a_5 (List.length p1.Made) c_5], OwnS kI g96.2.1.1.1 g96.2.1.1.2 t101.Todo, OwnS kTItem g96.2.1.2.1.1 g96.2.1.2.1.2 t101.Run, OwnS kTEntry g96.2.1.2.2.1.1 g96.2.1.2.2.1.2 t101.Row, OwnS kTEntry g96.2.1.2.2.2.1.1 g96.2.1.2.2.2.1.2 t101.Next, OwnS kI g96.2.1.2.2.2.2.1 g96.2.1.2.2.2.2.2 t101.Made, OwnS kTPage g96.2.2.1.1 g96.2.2.1.2 t113.L, Box g96.2.2.2 [.int .i64 0, .slice none 0 0]]) ((none, 0), ((none, 0), (none, 0), (none, 0), (none, 0), (none, 0)), (none, 0), 0) [1, 2] [1, 27, 2, 28, 29, 30, 31, 32, 33, 34] [] ⟨rfl, rfl, rfl, rfl, rfl, rfl, trivial⟩ ⟨rfl, rfl, trivial⟩ rfl (by kernel_rfl) (fun _ => rfl) (by kernel_rfl) (fun _ => rfl) ⟨?_, ?_, ?_, ?_, ?_, ?_, trivial⟩ fun g96 => ?_
                  · exact OpOK.of (fun g96 => [(.tmp 2, BP b1 0)]) _ _ (fun g96 _ => g96) rfl rfl (fun _ => ⟨rfl, trivial⟩) (fun g96 => OT.loadBA (vs := [.int .i64 p0.Root, .slice a_0 (List.length p0.L) c_0]) ag89 sz89 rfl rfl) (fun _ _ => ⟨rfl, rfl, ⟨rfl, rfl, rfl, rfl, rfl, rfl, rfl, rfl, rfl, rfl, trivial⟩⟩)
                  · exact OpOK.of (fun g96 => [(.func 60, .func (.func 60) #[] #[]), (.tmp 75, .agg #[.int .i64 p0.Root, .slice a_0 (List.length p0.L) c_0])]) _ _ (fun g96 x => (x, g96.2.1, g96.2.2.1, g96.2.2.2)) rfl rfl (fun _ => ⟨rfl, rfl, trivial⟩) (fun g96 => OT.call (us := [_]) (Pre := []) [.tmp 75] Try.call60 rfl rfl fun w F hs hF hp => laws_toBook_c (hb_0.pass hp) h98) (fun _ _ => ⟨rfl, rfl, ⟨rfl, rfl, rfl, rfl, rfl, rfl, rfl, rfl, rfl, rfl, trivial⟩⟩)
                  · exact OpOK.of (fun g96 => [(.tmp 3, BP b2 0)]) _ _ (fun g96 _ => g96) rfl rfl (fun _ => ⟨rfl, trivial⟩) (fun g96 => OT.loadBA (vs := [.int .i64 p1.Phase, .slice a_1 (List.length p1.Todo) c_1, .slice a_2 (List.length p1.Run) c_2, .slice a_3 (List.length p1.Row) c_3, .slice a_4 (List.length p1.Next) c_4, .slice a_5 (List.length p1.Made) c_5]) ag93 sz93 rfl rfl) (fun _ _ => ⟨rfl, rfl, ⟨rfl, rfl, rfl, rfl, rfl, rfl, rfl, rfl, rfl, rfl, trivial⟩⟩)
                  · exact OpOK.of (fun g96 => [(.func 61, .func (.func 61) #[] #[]), (.tmp 77, .agg #[.int .i64 p1.Phase, .slice a_1 (List.length p1.Todo) c_1, .slice a_2 (List.length p1.Run) c_2, .slice a_3 (List.length p1.Row) c_3, .slice a_4 (List.length p1.Next) c_4, .slice a_5 (List.length p1.Made) c_5])]) _ _ (fun g96 x => (g96.1, x, g96.2.2.1, g96.2.2.2)) rfl rfl (fun _ => ⟨rfl, rfl, trivial⟩) (fun g96 => OT.call (us := [_]) (Pre := []) [.tmp 77] Try.call61 rfl rfl fun w F hs hF hp => laws_toVac_c (hb_1.pass hp) (hb_2.pass hp) (hb_3.pass hp) (hb_4.pass hp) (hb_5.pass hp) h102) (fun _ _ => ⟨rfl, rfl, ⟨rfl, rfl, rfl, rfl, rfl, rfl, rfl, rfl, rfl, rfl, trivial⟩⟩)
                  · exact OpOK.of (fun g96 => [(.func 62, .func (.func 62) #[] #[]), (.tmp 76, .agg #[.int .i64 t97.Root, .slice g96.1.1 (List.length t97.L) g96.1.2]), (.tmp 78, .agg #[.int .i64 t101.Phase, .slice g96.2.1.1.1 (List.length t101.Todo) g96.2.1.1.2, .slice g96.2.1.2.1.1 (List.length t101.Run) g96.2.1.2.1.2, .slice g96.2.1.2.2.1.1 (List.length t101.Row) g96.2.1.2.2.1.2, .slice g96.2.1.2.2.2.1.1 (List.length t101.Next) g96.2.1.2.2.2.1.2, .slice g96.2.1.2.2.2.2.1 (List.length t101.Made) g96.2.1.2.2.2.2.2])]) _ _ (fun g96 x => (g96.1, g96.2.1, x, g96.2.2.2)) rfl rfl (fun _ => ⟨rfl, rfl, rfl, trivial⟩) (fun g96 => OT.call (us := [_, _]) (Pre := [OwnS kTPage g96.1.1 g96.1.2 t97.L, OwnS kI g96.2.1.2.2.2.2.1 g96.2.1.2.2.2.2.2 t101.Made]) [.tmp 76, .tmp 78] Try.call62 rfl rfl fun w F hs hF hp => impl_VacDrop_c (hs.lend hF 0 rfl) (hs.lend hF 1 rfl) h114) (fun _ _ => ⟨rfl, rfl, ⟨rfl, rfl, rfl, rfl, rfl, rfl, rfl, rfl, rfl, rfl, trivial⟩⟩)
                  · exact OpOK.of (fun g96 => []) _ _ (fun g96 x => (g96.1, g96.2.1, g96.2.2.1, x)) rfl rfl (fun _ => trivial) (fun g96 => OT.alloc zc98) (fun _ _ => ⟨rfl, rfl, ⟨rfl, rfl, rfl, rfl, rfl, rfl, rfl, rfl, rfl, rfl, trivial⟩⟩)
                  refine HQ.keep [(4, _), (6, _), (9, _), (11, _), (79, _), (13, _)] ⟨rfl, rfl, rfl, rfl, rfl, rfl, trivial⟩ ?_
                  refine HQ.keepR [(1, _), (2, _), (3, _), (4, _), (5, _), (6, _), (7, _), (8, _), (9, _), (10, _), (11, _), (12, _), (13, _), (14, _), (15, _), (16, _), (17, _), (18, _), (19, _), (20, _), (21, _), (22, _), (23, _), (24, _), (25, _), (26, _), (27, _), (28, _), (29, _), (30, _), (31, _), (32, _), (33, _), (34, _)] ⟨rfl, rfl, rfl, rfl, rfl, rfl, rfl, rfl, rfl, rfl, rfl, rfl, rfl, rfl, rfl, rfl, rfl, rfl, rfl, rfl, rfl, rfl, rfl, rfl, rfl, rfl, rfl, rfl, rfl, rfl, rfl, rfl, rfl, rfl, trivial⟩ rfl ?_
                  refine HQ.opN [34] [34] [] (OT.storeC (cs' := [.int .i64 t113.Root, .slice g96.2.2.1.1 (List.length t113.L) g96.2.2.1.2]) sz98 rfl rfl rfl rfl rfl) ⟨rfl, rfl, trivial⟩ ⟨rfl, trivial⟩ rfl rfl rfl (fun _ => rfl) fun _ => ?_
                  refine HQ.done ?_
                  refine HQ.keep [(4, _), (6, _), (9, _), (11, _), (13, _)] ⟨rfl, rfl, rfl, rfl, rfl, trivial⟩ ?_
                  refine HQ.seq ?_
                  refine HQ.rseq ?_
                  refine HQ.op [34] [34] (OT.loadBA (vs := [.int .i64 t113.Root, .slice g96.2.2.1.1 (List.length t113.L) g96.2.2.1.2]) ag98 sz98 rfl rfl) ⟨rfl, trivial⟩ ⟨rfl, trivial⟩ rfl rfl rfl rfl (fun _ => rfl) fun _ => ?_
                  refine HQ.op [10] [10] (OT.loadBA (vs := [.int .i64 t24.Root, .slice g7.2.2.1.1 (List.length t24.L) g7.2.2.1.2]) ag98 sz98 rfl rfl) ⟨rfl, trivial⟩ ⟨rfl, trivial⟩ rfl rfl rfl rfl (fun _ => rfl) fun _ => ?_
                  obtain ⟨t118, h119, H⟩ := bnd H
                  refine HQ.op [33, 9] [33, 9] (OT.call (us := [_, _]) (Pre := [OwnS kTPage g96.2.2.1.1 g96.2.2.1.2 t113.L, OwnS kTPage g7.2.2.1.1 g7.2.2.1.2 t24.L]) [.tmp 80, .tmp 81] Try.call63 rfl rfl fun w F hs hF hp => laws_eqBook_c (hs.lend hF 0 rfl) (hs.lend hF 1 rfl) h119) ⟨rfl, rfl, rfl, trivial⟩ ⟨rfl, rfl, trivial⟩ rfl rfl rfl rfl (fun _ => rfl) fun _ => ?_
                  refine HQ.pu Pu.not ⟨rfl, trivial⟩ rfl rfl rfl ?_
                  refine HQ.done ?_
                  refine HQ.keep [(4, _), (9, _), (11, _), (83, _)] ⟨rfl, rfl, rfl, rfl, trivial⟩ ?_
                  rcases brk H with ⟨hc, H⟩ | ⟨hc, H⟩
                  · refine HQ.condT rfl hc ?_
                    clear hc
                    refine HQ.rseq ?_
                    refine HQ.pu Pu.assign ⟨rfl, trivial⟩ rfl rfl rfl ?_
                    refine HQ.done ?_
                    refine HQ.keep [(4, _), (9, _), (11, _)] ⟨rfl, rfl, rfl, trivial⟩ ?_
                    refine HQ.ret ?_
                    refine HQ.thenR ?_
                    obtain rfl := Option.some.inj H
                    exact HQ.fin (vs := [_]) Try.results11 () ⟨rfl, trivial⟩ rfl [] trivial rfl
                  · refine HQ.condF rfl hc ?_
                    clear hc
                    refine HQ.skipThen ?_
                    refine HQ.rseq ?_
                    refine HQ.pu Pu.assign ⟨rfl, trivial⟩ rfl rfl rfl ?_
                    refine HQ.done ?_
                    refine HQ.keep [(4, _), (9, _), (11, _), (12, _)] ⟨rfl, rfl, rfl, rfl, trivial⟩ ?_
                    refine HQ.rseq ?_
                    refine HQ.op [20] [20] (OT.loadBA (vs := [.int .i64 t47.Root, .slice a49 (List.length t91.2) c50]) ag98 sz98 rfl rfl) ⟨rfl, trivial⟩ ⟨rfl, trivial⟩ rfl rfl rfl rfl (fun _ => rfl) fun _ => ?_
                    refine HQ.pu Pu.move ⟨rfl, trivial⟩ rfl rfl rfl ?_
                    obtain ⟨t120, h121, H⟩ := bnd H
                    refine HQ.op [19] [19] (OT.call (us := [_, _]) (Pre := [OwnS kTPage a49 c50 t91.2]) [.tmp 84, .tmp 85] Try.call67 rfl rfl fun w F hs hF hp => laws_heldBook_c (hs.lend hF 0 rfl) h121) ⟨rfl, rfl, rfl, trivial⟩ ⟨rfl, trivial⟩ rfl rfl rfl rfl (fun _ => rfl) fun _ => ?_
                    refine HQ.pu Pu.assign ⟨rfl, trivial⟩ rfl rfl rfl ?_
                    refine HQ.done ?_
                    refine HQ.keep [(4, _), (11, _), (12, _)] ⟨rfl, rfl, rfl, trivial⟩ ?_
                    refine HQ.seq ?_
                    refine HQ.rseq ?_
                    refine HQ.pu Pu.move ⟨rfl, trivial⟩ rfl rfl rfl ?_
                    refine HQ.pu Pu.lss ⟨rfl, rfl, trivial⟩ rfl rfl rfl ?_
                    refine HQ.done ?_
                    refine HQ.keep [(4, _), (11, _), (12, _), (88, _)] ⟨rfl, rfl, rfl, rfl, trivial⟩ ?_
                    rcases brk H with ⟨hc, H⟩ | ⟨hc, H⟩
                    · refine HQ.condT rfl hc ?_
                      clear hc
                      refine HQ.rseq ?_
                      refine HQ.pu Pu.assign ⟨rfl, trivial⟩ rfl rfl rfl ?_
                      refine HQ.done ?_
                      refine HQ.keep [(4, _), (11, _), (12, _)] ⟨rfl, rfl, rfl, trivial⟩ ?_
                      refine HQ.ret ?_
                      refine HQ.thenR ?_
                      obtain rfl := Option.some.inj H
                      exact HQ.fin (vs := [_]) Try.results11 () ⟨rfl, trivial⟩ rfl [] trivial rfl
                    · refine HQ.condF rfl hc ?_
                      clear hc
                      refine HQ.skipThen ?_
                      refine HQ.seq ?_
                      refine HQ.rseq ?_
                      refine HQ.pu Pu.move ⟨rfl, trivial⟩ rfl rfl rfl ?_
                      refine HQ.pu Pu.move ⟨rfl, trivial⟩ rfl rfl rfl ?_
                      refine HQ.pu Pu.neq ⟨rfl, rfl, trivial⟩ rfl rfl rfl ?_
                      refine HQ.done ?_
                      refine HQ.keep [(4, _), (91, _)] ⟨rfl, rfl, trivial⟩ ?_
                      rcases brk H with ⟨hc, H⟩ | ⟨hc, H⟩
                      · refine HQ.condT rfl hc ?_
                        clear hc
                        refine HQ.rseq ?_
                        refine HQ.pu Pu.assign ⟨rfl, trivial⟩ rfl rfl rfl ?_
                        refine HQ.done ?_
                        refine HQ.keep [(4, _)] ⟨rfl, trivial⟩ ?_
                        refine HQ.ret ?_
                        refine HQ.thenR ?_
                        obtain rfl := Option.some.inj H
                        exact HQ.fin (vs := [_]) Try.results11 () ⟨rfl, trivial⟩ rfl [] trivial rfl
                      · refine HQ.condF rfl hc ?_
                        clear hc
                        refine HQ.skipThen ?_
                        refine HQ.rseq ?_
                        refine HQ.pu Pu.assign ⟨rfl, trivial⟩ rfl rfl rfl ?_
                        refine HQ.done ?_
                        refine HQ.keep [(4, _)] ⟨rfl, trivial⟩ ?_
                        refine HQ.ret ?_
                        obtain rfl := Option.some.inj H
                        exact HQ.fin (vs := [_]) Try.results11 () ⟨rfl, trivial⟩ rfl [] trivial rfl

end Go.Proofs.Sx
