import Derived.Test.YtjajoekfofjeiaaBF2
import Derived.KernelRfl
namespace Go.Proofs.Sx
open Go.RowKit
set_option linter.unusedVariables false
set_option linter.unusedSimpArgs false
set_option maxRecDepth 20000
set_option maxHeartbeats 1000000
/-! laws.FnExactBusy -/
theorem laws_FnExactBusy_c {w : World} {k : Nat} {p0 : TVac} {a_0 : Option Addr} {c_0 : Nat} {a_1 : Option Addr} {c_1 : Nat} {a_2 : Option Addr} {c_2 : Nat} {a_3 : Option Addr} {c_3 : Nat} {a_4 : Option Addr} {c_4 : Nat} (hb_0 : BorS kI a_0 c_0 p0.Todo w.heap (Lt w Nil)) (hb_1 : BorS kTItem a_1 c_1 p0.Run w.heap (Lt w Nil)) (hb_2 : BorS kTEntry a_2 c_2 p0.Row w.heap (Lt w Nil)) (hb_3 : BorS kTEntry a_3 c_3 p0.Next w.heap (Lt w Nil)) (hb_4 : BorS kI a_4 c_4 p0.Made w.heap (Lt w Nil)) {r : Bool} (H : laws_FnExactBusy k p0 = some r) :
    Calls Try.prog 7 #[.agg #[.int .i64 p0.Phase, .slice a_0 (List.length p0.Todo) c_0, .slice a_1 (List.length p0.Run) c_1, .slice a_2 (List.length p0.Row) c_2, .slice a_3 (List.length p0.Next) c_3, .slice a_4 (List.length p0.Made) c_4]] w (Rt w Nil (fun _ : Unit => .bool r) (fun _ => [])) := by
  rw [laws_FnExactBusy] at H
  refine Calls.enter0 (N := 27) (us := [_]) Try.func7 rfl rfl rfl ?_
  refine HQ.rseq ?_
  refine HQ.op [] [1] (OT.box rfl) ⟨rfl, trivial⟩ trivial rfl rfl rfl rfl (fun _ => rfl) fun b1 => ?_
  refine HQ.pu Pu.assign ⟨rfl, trivial⟩ rfl rfl rfl ?_
  refine HQ.done ?_
  refine HQ.keep [(1, _), (2, _)] ⟨rfl, rfl, trivial⟩ ?_
  refine HQ.rseq ?_
  refine HQ.pu Pu.assign ⟨rfl, trivial⟩ rfl rfl rfl ?_
  refine HQ.done ?_
  refine HQ.keep [(1, _), (2, _), (3, _)] ⟨rfl, rfl, rfl, trivial⟩ ?_
  refine HQ.rseq ?_
  refine HQ.op [1] [1] (OT.loadBA ag49 sz49 rfl rfl) ⟨rfl, trivial⟩ ⟨rfl, trivial⟩ rfl rfl rfl rfl (fun _ => rfl) fun _ => ?_
  refine HQ.pu Pu.move ⟨rfl, trivial⟩ rfl rfl rfl ?_
  obtain ⟨t2, h3, H⟩ := bnd H
  refine HQ.op [] [] (OT.call (us := [_, _]) (Pre := []) [.tmp 7, .tmp 8] Try.call25 rfl rfl fun w F hs hF hp => laws_szVac_c (hb_0.pass hp) (hb_1.pass hp) (hb_2.pass hp) (hb_3.pass hp) (hb_4.pass hp) h3) ⟨rfl, rfl, rfl, trivial⟩ trivial rfl rfl rfl rfl (fun _ => rfl) fun _ => ?_
  refine HQ.pu Pu.assign ⟨rfl, trivial⟩ rfl rfl rfl ?_
  refine HQ.done ?_
  refine HQ.keep [(1, _), (2, _), (3, _)] ⟨rfl, rfl, rfl, trivial⟩ ?_
  refine HQ.seq ?_
  refine HQ.rseq ?_
  refine HQ.pu Pu.move ⟨rfl, trivial⟩ rfl rfl rfl ?_
  refine HQ.pu Pu.lss ⟨rfl, rfl, trivial⟩ rfl rfl rfl ?_
  refine HQ.done ?_
  refine HQ.keep [(1, _), (2, _), (11, _)] ⟨rfl, rfl, rfl, trivial⟩ ?_
  rcases brk H with ⟨hc, H⟩ | ⟨hc, H⟩
  · refine HQ.condT rfl hc ?_
    clear hc
    refine HQ.rseq ?_
    refine HQ.pu Pu.assign ⟨rfl, trivial⟩ rfl rfl rfl ?_
    refine HQ.done ?_
    refine HQ.keep [(1, _), (2, _)] ⟨rfl, rfl, trivial⟩ ?_
    refine HQ.ret ?_
    refine HQ.thenR ?_
    obtain rfl := Option.some.inj H
    exact HQ.fin (vs := [_]) Try.results7 () ⟨rfl, trivial⟩ rfl [] trivial rfl
  · refine HQ.condF rfl hc ?_
    clear hc
    refine HQ.skipThen ?_
    refine HQ.rseq ?_
    refine HQ.op [1] [1] (OT.loadBA ag49 sz49 rfl rfl) ⟨rfl, trivial⟩ ⟨rfl, trivial⟩ rfl rfl rfl rfl (fun _ => rfl) fun _ => ?_
    obtain ⟨t4, h5, H⟩ := bnd H
    refine HQ.op [] [2, 3, 4, 5, 6] (OT.call (us := [_]) (Pre := []) [.tmp 12] Try.call27 rfl rfl fun w F hs hF hp => laws_toVac_c (hb_0.pass hp) (hb_1.pass hp) (hb_2.pass hp) (hb_3.pass hp) (hb_4.pass hp) h5) ⟨rfl, rfl, trivial⟩ trivial rfl rfl rfl rfl (fun _ => rfl) fun ⟨⟨a6, c7⟩, ⟨a8, c9⟩, ⟨a10, c11⟩, ⟨a12, c13⟩, ⟨a14, c15⟩⟩ => ?_
    obtain ⟨t16, h17, H⟩ := bnd H
    refine HQ.op [2, 3, 4, 5, 6] [2, 3, 4, 5, 6] (OT.call (us := [_]) (Pre := [OwnS kI a6 c7 t4.Todo, OwnS kTItem a8 c9 t4.Run, OwnS kTEntry a10 c11 t4.Row, OwnS kTEntry a12 c13 t4.Next, OwnS kI a14 c15 t4.Made]) [.tmp 13] Try.call26 rfl rfl fun w F hs hF hp => spec_Busy_c (hs.lend hF 0 rfl) (hs.lend hF 1 rfl) (hs.lend hF 2 rfl) (hs.lend hF 3 rfl) (hs.lend hF 4 rfl) h17) ⟨rfl, rfl, trivial⟩ ⟨rfl, rfl, rfl, rfl, rfl, trivial⟩ rfl rfl rfl rfl (fun _ => rfl) fun _ => ?_
    refine HQ.pu Pu.assign ⟨rfl, trivial⟩ rfl rfl rfl ?_
    refine HQ.done ?_
    refine HQ.keep [(1, _), (2, _), (4, _)] ⟨rfl, rfl, rfl, trivial⟩ ?_
    refine HQ.rseq ?_
    refine HQ.op [1] [1] (OT.loadBA ag49 sz49 rfl rfl) ⟨rfl, trivial⟩ ⟨rfl, trivial⟩ rfl rfl rfl rfl (fun _ => rfl) fun _ => ?_
    obtain ⟨t18, h19, H⟩ := bnd H
    refine HQ.op [] [7, 8, 9, 10, 11] (OT.call (us := [_]) (Pre := []) [.tmp 15] Try.call27 rfl rfl fun w F hs hF hp => laws_toVac_c (hb_0.pass hp) (hb_1.pass hp) (hb_2.pass hp) (hb_3.pass hp) (hb_4.pass hp) h19) ⟨rfl, rfl, trivial⟩ trivial rfl rfl rfl rfl (fun _ => rfl) fun ⟨⟨a20, c21⟩, ⟨a22, c23⟩, ⟨a24, c25⟩, ⟨a26, c27⟩, ⟨a28, c29⟩⟩ => ?_
    refine HQ.op [] [12] (OT.alloc zc55) trivial trivial rfl rfl rfl rfl (fun _ => rfl) fun b30 => ?_
    refine HQ.opN [12] [12] [] (OT.storeB sz55 rfl rfl rfl rfl) ⟨rfl, rfl, trivial⟩ ⟨rfl, trivial⟩ rfl rfl rfl (fun _ => rfl) fun _ => ?_
    refine HQ.done ?_
    refine HQ.keep [(1, _), (2, _), (4, _), (5, _)] ⟨rfl, rfl, rfl, rfl, trivial⟩ ?_
    refine HQ.rseq ?_
    refine HQ.op [12] [12] (OT.loadBA ag55 sz55 rfl rfl) ⟨rfl, trivial⟩ ⟨rfl, trivial⟩ rfl rfl rfl rfl (fun _ => rfl) fun _ => ?_
    obtain ⟨t31, h32, H⟩ := bnd H
    refine HQ.op [7, 8, 9, 10, 11] [7, 8, 9, 10, 11] (OT.call (us := [_]) (Pre := [OwnS kI a20 c21 t18.Todo, OwnS kTItem a22 c23 t18.Run, OwnS kTEntry a24 c25 t18.Row, OwnS kTEntry a26 c27 t18.Next, OwnS kI a28 c29 t18.Made]) [.tmp 17] Try.call28 rfl rfl fun w F hs hF hp => impl_Busy_c (hs.lend hF 0 rfl) (hs.lend hF 1 rfl) (hs.lend hF 2 rfl) (hs.lend hF 3 rfl) (hs.lend hF 4 rfl) h32) ⟨rfl, rfl, trivial⟩ ⟨rfl, rfl, rfl, rfl, rfl, trivial⟩ rfl rfl rfl rfl (fun _ => rfl) fun _ => ?_
    refine HQ.pu Pu.assign ⟨rfl, trivial⟩ rfl rfl rfl ?_
    refine HQ.done ?_
    refine HQ.keep [(1, _), (2, _), (4, _), (5, _), (6, _)] ⟨rfl, rfl, rfl, rfl, rfl, trivial⟩ ?_
    refine HQ.seq ?_
    refine HQ.rseq ?_
    refine HQ.pu Pu.move ⟨rfl, trivial⟩ rfl rfl rfl ?_
    refine HQ.pu Pu.move ⟨rfl, trivial⟩ rfl rfl rfl ?_
    refine HQ.pu (Pu.neqB ul4) ⟨rfl, rfl, trivial⟩ rfl rfl rfl ?_
    refine HQ.done ?_
    refine HQ.keep [(1, _), (2, _), (5, _), (21, _)] ⟨rfl, rfl, rfl, rfl, trivial⟩ ?_
    rcases brk H with ⟨hc, H⟩ | ⟨hc, H⟩
    · refine HQ.condT rfl hc ?_
      clear hc
      refine HQ.rseq ?_
      refine HQ.pu Pu.assign ⟨rfl, trivial⟩ rfl rfl rfl ?_
      refine HQ.done ?_
      refine HQ.keep [(1, _), (2, _), (5, _)] ⟨rfl, rfl, rfl, trivial⟩ ?_
      refine HQ.ret ?_
      refine HQ.thenR ?_
      obtain rfl := Option.some.inj H
      exact HQ.fin (vs := [_]) Try.results7 () ⟨rfl, trivial⟩ rfl [] trivial rfl
    · refine HQ.condF rfl hc ?_
      clear hc
      refine HQ.skipThen ?_
      refine HQ.seq ?_
      obtain ⟨t34, h35, H⟩ := bnd H
      refine HQ.drawS mixd [(1, BP b1 0), (2, .bool false), (5, BP b30 0)] 3 [⟨[0], [0], []⟩, ⟨[1], [1], []⟩, ⟨[], [2, 3, 4, 5, 6], [1]⟩] [⟨none, none⟩, ⟨none, none⟩, ⟨some 2, none⟩, ⟨some 2, none⟩, ⟨some 2, none⟩, ⟨some 2, none⟩, ⟨some 2, none⟩] (fun (g33 : ((Option Addr × Nat) × (Option Addr × Nat) × (Option Addr × Nat) × (Option Addr × Nat) × (Option Addr × Nat))) => [.agg #[.int .i64 t18.Phase, .slice a20 (List.length t18.Todo) c21, .slice a22 (List.length t18.Run) c23, .slice a24 (List.length t18.Row) c25, .slice a26 (List.length t18.Next) c27, .slice a28 (List.length t18.Made) c29], .agg #[.int .i64 p0.Phase, .slice a_0 (List.length p0.Todo) c_0, .slice a_1 (List.length p0.Run) c_1, .slice a_2 (List.length p0.Row) c_2, .slice a_3 (List.length p0.Next) c_3, .slice a_4 (List.length p0.Made) c_4], .agg #[.int .i64 t34.Phase, .slice g33.1.1 (List.length t34.Todo) g33.1.2, .slice g33.2.1.1 (List.length t34.Run) g33.2.1.2, .slice g33.2.2.1.1 (List.length t34.Row) g33.2.2.1.2, .slice g33.2.2.2.1.1 (List.length t34.Next) g33.2.2.2.1.2, .slice g33.2.2.2.2.1 (List.length t34.Made) g33.2.2.2.2.2]]) (fun (g33 : ((Option Addr × Nat) × (Option Addr × Nat) × (Option Addr × Nat) × (Option Addr × Nat) × (Option Addr × Nat))) => [Box b30 [.int .i64 t18.Phase, .slice a20 (List.length t18.Todo) c21, .slice a22 (List.length t18.Run) c23, .slice a24 (List.length t18.Row) c25, .slice a26 (List.length t18.Next) c27, .slice a28 (List.length t18.Made) c29], Box b1 [.int .i64 p0.Phase, .slice a_0 (List.length p0.Todo) c_0, .slice a_1 (List.length p0.Run) c_1, .slice a_2 (List.length p0.Row) c_2, .slice a_3 (List.length p0.Next) c_3, .slice a_4 (List.length p0.Made) c_4], OwnS kI g33.1.1 g33.1.2 t34.Todo, OwnS kTItem g33.2.1.1 g33.2.1.2 t34.Run, OwnS kTEntry g33.2.2.1.1 g33.2.2.1.2 t34.Row, OwnS kTEntry g33.2.2.2.1.1 g33.2.2.2.1.2 t34.Next, OwnS kI g33.2.2.2.2.1 g33.2.2.2.2.2 t34.Made]) ((none, 0), (none, 0), (none, 0), (none, 0), (none, 0)) [12, 1] [12, 1, 13, 14, 15, 16, 17] [] ⟨rfl, rfl, rfl, trivial⟩ ⟨rfl, rfl, trivial⟩ rfl (by kernel_rfl) (fun _ => rfl) (by kernel_rfl) (fun _ => rfl) ⟨?_, ?_, ?_, trivial⟩ fun g33 => ?_
      · exact OpOK.of (fun g33 => [(.tmp 5, BP b30 0)]) _ _ (fun g33 _ => g33) rfl rfl (fun _ => ⟨rfl, trivial⟩) (fun g33 => OT.loadBA ag55 sz55 rfl rfl) (fun _ _ => ⟨rfl, rfl, ⟨rfl, rfl, rfl, rfl, rfl, rfl, rfl, trivial⟩⟩)
      · exact OpOK.of (fun g33 => [(.tmp 1, BP b1 0)]) _ _ (fun g33 _ => g33) rfl rfl (fun _ => ⟨rfl, trivial⟩) (fun g33 => OT.loadBA ag49 sz49 rfl rfl) (fun _ _ => ⟨rfl, rfl, ⟨rfl, rfl, rfl, rfl, rfl, rfl, rfl, trivial⟩⟩)
      · exact OpOK.of (fun g33 => [(.func 27, .func (.func 27) #[] #[]), (.tmp 23, .agg #[.int .i64 p0.Phase, .slice a_0 (List.length p0.Todo) c_0, .slice a_1 (List.length p0.Run) c_1, .slice a_2 (List.length p0.Row) c_2, .slice a_3 (List.length p0.Next) c_3, .slice a_4 (List.length p0.Made) c_4])]) _ _ (fun g33 x => x) rfl rfl (fun _ => ⟨rfl, rfl, trivial⟩) (fun g33 => OT.call (us := [_]) (Pre := []) [.tmp 23] Try.call27 rfl rfl fun w F hs hF hp => laws_toVac_c (hb_0.pass hp) (hb_1.pass hp) (hb_2.pass hp) (hb_3.pass hp) (hb_4.pass hp) h35) (fun _ _ => ⟨rfl, rfl, ⟨rfl, rfl, rfl, rfl, rfl, rfl, rfl, trivial⟩⟩)
      refine HQ.keep [(2, _), (22, _), (24, _)] ⟨rfl, rfl, rfl, trivial⟩ ?_
      refine HQ.keepR [(1, _), (2, _), (3, _), (4, _), (5, _), (6, _), (7, _), (8, _), (9, _), (10, _), (11, _), (12, _), (13, _), (14, _), (15, _), (16, _), (17, _)] ⟨rfl, rfl, rfl, rfl, rfl, rfl, rfl, rfl, rfl, rfl, rfl, rfl, rfl, rfl, rfl, rfl, rfl, trivial⟩ rfl ?_
      obtain ⟨t46, h47, H⟩ := bnd H
      refine HQ.op [7, 8, 9, 10, 11, 13, 14, 15, 16, 17] [7, 8, 9, 10, 11, 13, 14, 15, 16, 17] (OT.call (us := [_, _]) (Pre := [OwnS kI a20 c21 t18.Todo, OwnS kTItem a22 c23 t18.Run, OwnS kTEntry a24 c25 t18.Row, OwnS kTEntry a26 c27 t18.Next, OwnS kI a28 c29 t18.Made, OwnS kI g33.1.1 g33.1.2 t34.Todo, OwnS kTItem g33.2.1.1 g33.2.1.2 t34.Run, OwnS kTEntry g33.2.2.1.1 g33.2.2.1.2 t34.Row, OwnS kTEntry g33.2.2.2.1.1 g33.2.2.2.1.2 t34.Next, OwnS kI g33.2.2.2.2.1 g33.2.2.2.2.2 t34.Made]) [.tmp 22, .tmp 24] Try.call29 rfl rfl fun w F hs hF hp => laws_eqVac_c (hs.lend hF 0 rfl) (hs.lend hF 1 rfl) (hs.lend hF 2 rfl) (hs.lend hF 3 rfl) (hs.lend hF 4 rfl) (hs.lend hF 5 rfl) (hs.lend hF 6 rfl) (hs.lend hF 7 rfl) (hs.lend hF 8 rfl) (hs.lend hF 9 rfl) h47) ⟨rfl, rfl, rfl, trivial⟩ ⟨rfl, rfl, rfl, rfl, rfl, rfl, rfl, rfl, rfl, rfl, trivial⟩ rfl rfl rfl rfl (fun _ => rfl) fun _ => ?_
      refine HQ.pu Pu.not ⟨rfl, trivial⟩ rfl rfl rfl ?_
      refine HQ.done ?_
      refine HQ.keep [(2, _), (26, _)] ⟨rfl, rfl, trivial⟩ ?_
      rcases brk H with ⟨hc, H⟩ | ⟨hc, H⟩
      · refine HQ.condT rfl hc ?_
        clear hc
        refine HQ.rseq ?_
        refine HQ.pu Pu.assign ⟨rfl, trivial⟩ rfl rfl rfl ?_
        refine HQ.done ?_
        refine HQ.keep [(2, _)] ⟨rfl, trivial⟩ ?_
        refine HQ.ret ?_
        refine HQ.thenR ?_
        obtain rfl := Option.some.inj H
        exact HQ.fin (vs := [_]) Try.results7 () ⟨rfl, trivial⟩ rfl [] trivial rfl
      · refine HQ.condF rfl hc ?_
        clear hc
        refine HQ.skipThen ?_
        refine HQ.rseq ?_
        refine HQ.pu Pu.assign ⟨rfl, trivial⟩ rfl rfl rfl ?_
        refine HQ.done ?_
        refine HQ.keep [(2, _)] ⟨rfl, trivial⟩ ?_
        refine HQ.ret ?_
        obtain rfl := Option.some.inj H
        exact HQ.fin (vs := [_]) Try.results7 () ⟨rfl, trivial⟩ rfl [] trivial rfl

end Go.Proofs.Sx
