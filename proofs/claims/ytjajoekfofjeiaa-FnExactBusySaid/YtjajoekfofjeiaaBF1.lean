import Derived.Test.YtjajoekfofjeiaaBF0
import Derived.KernelRfl
namespace Go.Proofs.Sx
open Go.RowKit
set_option linter.unusedVariables false
set_option linter.unusedSimpArgs false
set_option maxRecDepth 20000
set_option maxHeartbeats 1000000
/-! laws.szIntS -/
theorem laws_szIntS_c {w : World} {p0 : (List Int)} {p1 : Int} {a_0 : Option Addr} {c_0 : Nat} (hb_0 : BorS kI a_0 c_0 p0 w.heap (Lt w Nil)) {r : Int} (H : laws_szIntS p0 p1 = some r) :
    Calls Try.prog 46 #[.slice a_0 (List.length p0) c_0, .int .i64 p1] w (Rt w Nil (fun _ : Unit => .int .i64 r) (fun _ => [])) := by
  rw [laws_szIntS] at H
  refine Calls.enter0 (N := 12) (us := [_, _]) Try.func46 rfl rfl rfl ?_
  refine HQ.rseq ?_
  refine HQ.pu Pu.assign ⟨rfl, trivial⟩ rfl rfl rfl ?_
  refine HQ.done ?_
  refine HQ.keep [(0, _), (1, _), (4, _)] ⟨rfl, rfl, rfl, trivial⟩ ?_
  refine HQ.rseq ?_
  refine HQ.pu Pu.move ⟨rfl, trivial⟩ rfl rfl rfl ?_
  refine HQ.pu Pu.move ⟨rfl, trivial⟩ rfl rfl rfl ?_
  refine HQ.pu (Pu.len ul45) ⟨rfl, trivial⟩ rfl rfl rfl ?_
  refine HQ.pu Pu.sub ⟨rfl, rfl, trivial⟩ rfl rfl rfl ?_
  refine HQ.pu Pu.assign ⟨rfl, trivial⟩ rfl rfl rfl ?_
  refine HQ.done ?_
  refine HQ.keep [(1, _), (4, _)] ⟨rfl, rfl, trivial⟩ ?_
  refine HQ.seq ?_
  refine HQ.rseq ?_
  refine HQ.pu Pu.move ⟨rfl, trivial⟩ rfl rfl rfl ?_
  refine HQ.pu Pu.lss ⟨rfl, rfl, trivial⟩ rfl rfl rfl ?_
  refine HQ.done ?_
  refine HQ.keep [(1, _), (4, _), (10, _)] ⟨rfl, rfl, rfl, trivial⟩ ?_
  rcases brk H with ⟨hc, H⟩ | ⟨hc, H⟩
  · refine HQ.condT rfl hc ?_
    clear hc
    refine HQ.rseq ?_
    refine HQ.pu Pu.assign ⟨rfl, trivial⟩ rfl rfl rfl ?_
    refine HQ.done ?_
    refine HQ.keep [(1, _), (4, _)] ⟨rfl, rfl, trivial⟩ ?_
    refine HQ.ret ?_
    refine HQ.thenR ?_
    obtain rfl := Option.some.inj H
    exact HQ.fin (vs := [_]) Try.results46 () ⟨rfl, trivial⟩ rfl [] trivial rfl
  · refine HQ.condF rfl hc ?_
    clear hc
    refine HQ.skipThen ?_
    refine HQ.rseq ?_
    refine HQ.pu Pu.move ⟨rfl, trivial⟩ rfl rfl rfl ?_
    refine HQ.pu Pu.assign ⟨rfl, trivial⟩ rfl rfl rfl ?_
    refine HQ.done ?_
    refine HQ.keep [(4, _)] ⟨rfl, trivial⟩ ?_
    refine HQ.ret ?_
    obtain rfl := Option.some.inj H
    exact HQ.fin (vs := [_]) Try.results46 () ⟨rfl, trivial⟩ rfl [] trivial rfl

/-! laws.szItemS -/
theorem laws_szItemS_c {w : World} {p0 : (List TItem)} {p1 : Int} {a_0 : Option Addr} {c_0 : Nat} (hb_0 : BorS kTItem a_0 c_0 p0 w.heap (Lt w Nil)) {r : Int} (H : laws_szItemS p0 p1 = some r) :
    Calls Try.prog 47 #[.slice a_0 (List.length p0) c_0, .int .i64 p1] w (Rt w Nil (fun _ : Unit => .int .i64 r) (fun _ => [])) := by
  rw [laws_szItemS] at H
  refine Calls.enter0 (N := 12) (us := [_, _]) Try.func47 rfl rfl rfl ?_
  refine HQ.rseq ?_
  refine HQ.pu Pu.assign ⟨rfl, trivial⟩ rfl rfl rfl ?_
  refine HQ.done ?_
  refine HQ.keep [(0, _), (1, _), (4, _)] ⟨rfl, rfl, rfl, trivial⟩ ?_
  refine HQ.rseq ?_
  refine HQ.pu Pu.move ⟨rfl, trivial⟩ rfl rfl rfl ?_
  refine HQ.pu Pu.move ⟨rfl, trivial⟩ rfl rfl rfl ?_
  refine HQ.pu (Pu.len ul46) ⟨rfl, trivial⟩ rfl rfl rfl ?_
  refine HQ.pu Pu.sub ⟨rfl, rfl, trivial⟩ rfl rfl rfl ?_
  refine HQ.pu Pu.assign ⟨rfl, trivial⟩ rfl rfl rfl ?_
  refine HQ.done ?_
  refine HQ.keep [(1, _), (4, _)] ⟨rfl, rfl, trivial⟩ ?_
  refine HQ.seq ?_
  refine HQ.rseq ?_
  refine HQ.pu Pu.move ⟨rfl, trivial⟩ rfl rfl rfl ?_
  refine HQ.pu Pu.lss ⟨rfl, rfl, trivial⟩ rfl rfl rfl ?_
  refine HQ.done ?_
  refine HQ.keep [(1, _), (4, _), (10, _)] ⟨rfl, rfl, rfl, trivial⟩ ?_
  rcases brk H with ⟨hc, H⟩ | ⟨hc, H⟩
  · refine HQ.condT rfl hc ?_
    clear hc
    refine HQ.rseq ?_
    refine HQ.pu Pu.assign ⟨rfl, trivial⟩ rfl rfl rfl ?_
    refine HQ.done ?_
    refine HQ.keep [(1, _), (4, _)] ⟨rfl, rfl, trivial⟩ ?_
    refine HQ.ret ?_
    refine HQ.thenR ?_
    obtain rfl := Option.some.inj H
    exact HQ.fin (vs := [_]) Try.results47 () ⟨rfl, trivial⟩ rfl [] trivial rfl
  · refine HQ.condF rfl hc ?_
    clear hc
    refine HQ.skipThen ?_
    refine HQ.rseq ?_
    refine HQ.pu Pu.move ⟨rfl, trivial⟩ rfl rfl rfl ?_
    refine HQ.pu Pu.assign ⟨rfl, trivial⟩ rfl rfl rfl ?_
    refine HQ.done ?_
    refine HQ.keep [(4, _)] ⟨rfl, trivial⟩ ?_
    refine HQ.ret ?_
    obtain rfl := Option.some.inj H
    exact HQ.fin (vs := [_]) Try.results47 () ⟨rfl, trivial⟩ rfl [] trivial rfl

/-! laws.szEntryS -/
theorem laws_szEntryS_c {w : World} {p0 : (List TEntry)} {p1 : Int} {a_0 : Option Addr} {c_0 : Nat} (hb_0 : BorS kTEntry a_0 c_0 p0 w.heap (Lt w Nil)) {r : Int} (H : laws_szEntryS p0 p1 = some r) :
    Calls Try.prog 48 #[.slice a_0 (List.length p0) c_0, .int .i64 p1] w (Rt w Nil (fun _ : Unit => .int .i64 r) (fun _ => [])) := by
  rw [laws_szEntryS] at H
  refine Calls.enter0 (N := 12) (us := [_, _]) Try.func48 rfl rfl rfl ?_
  refine HQ.rseq ?_
  refine HQ.pu Pu.assign ⟨rfl, trivial⟩ rfl rfl rfl ?_
  refine HQ.done ?_
  refine HQ.keep [(0, _), (1, _), (4, _)] ⟨rfl, rfl, rfl, trivial⟩ ?_
  refine HQ.rseq ?_
  refine HQ.pu Pu.move ⟨rfl, trivial⟩ rfl rfl rfl ?_
  refine HQ.pu Pu.move ⟨rfl, trivial⟩ rfl rfl rfl ?_
  refine HQ.pu (Pu.len ul47) ⟨rfl, trivial⟩ rfl rfl rfl ?_
  refine HQ.pu Pu.sub ⟨rfl, rfl, trivial⟩ rfl rfl rfl ?_
  refine HQ.pu Pu.assign ⟨rfl, trivial⟩ rfl rfl rfl ?_
  refine HQ.done ?_
  refine HQ.keep [(1, _), (4, _)] ⟨rfl, rfl, trivial⟩ ?_
  refine HQ.seq ?_
  refine HQ.rseq ?_
  refine HQ.pu Pu.move ⟨rfl, trivial⟩ rfl rfl rfl ?_
  refine HQ.pu Pu.lss ⟨rfl, rfl, trivial⟩ rfl rfl rfl ?_
  refine HQ.done ?_
  refine HQ.keep [(1, _), (4, _), (10, _)] ⟨rfl, rfl, rfl, trivial⟩ ?_
  rcases brk H with ⟨hc, H⟩ | ⟨hc, H⟩
  · refine HQ.condT rfl hc ?_
    clear hc
    refine HQ.rseq ?_
    refine HQ.pu Pu.assign ⟨rfl, trivial⟩ rfl rfl rfl ?_
    refine HQ.done ?_
    refine HQ.keep [(1, _), (4, _)] ⟨rfl, rfl, trivial⟩ ?_
    refine HQ.ret ?_
    refine HQ.thenR ?_
    obtain rfl := Option.some.inj H
    exact HQ.fin (vs := [_]) Try.results48 () ⟨rfl, trivial⟩ rfl [] trivial rfl
  · refine HQ.condF rfl hc ?_
    clear hc
    refine HQ.skipThen ?_
    refine HQ.rseq ?_
    refine HQ.pu Pu.move ⟨rfl, trivial⟩ rfl rfl rfl ?_
    refine HQ.pu Pu.assign ⟨rfl, trivial⟩ rfl rfl rfl ?_
    refine HQ.done ?_
    refine HQ.keep [(4, _)] ⟨rfl, trivial⟩ ?_
    refine HQ.ret ?_
    obtain rfl := Option.some.inj H
    exact HQ.fin (vs := [_]) Try.results48 () ⟨rfl, trivial⟩ rfl [] trivial rfl

/-! laws.szVac -/
theorem laws_szVac_c {w : World} {p0 : TVac} {p1 : Int} {a_0 : Option Addr} {c_0 : Nat} {a_1 : Option Addr} {c_1 : Nat} {a_2 : Option Addr} {c_2 : Nat} {a_3 : Option Addr} {c_3 : Nat} {a_4 : Option Addr} {c_4 : Nat} (hb_0 : BorS kI a_0 c_0 p0.Todo w.heap (Lt w Nil)) (hb_1 : BorS kTItem a_1 c_1 p0.Run w.heap (Lt w Nil)) (hb_2 : BorS kTEntry a_2 c_2 p0.Row w.heap (Lt w Nil)) (hb_3 : BorS kTEntry a_3 c_3 p0.Next w.heap (Lt w Nil)) (hb_4 : BorS kI a_4 c_4 p0.Made w.heap (Lt w Nil)) {r : Int} (H : laws_szVac p0 p1 = some r) :
    Calls Try.prog 25 #[.agg #[.int .i64 p0.Phase, .slice a_0 (List.length p0.Todo) c_0, .slice a_1 (List.length p0.Run) c_1, .slice a_2 (List.length p0.Row) c_2, .slice a_3 (List.length p0.Next) c_3, .slice a_4 (List.length p0.Made) c_4], .int .i64 p1] w (Rt w Nil (fun _ : Unit => .int .i64 r) (fun _ => [])) := by
  rw [laws_szVac] at H
  refine Calls.enter0 (N := 36) (us := [_, _]) Try.func25 rfl rfl rfl ?_
  refine HQ.rseq ?_
  refine HQ.op [] [1] (OT.box rfl) ⟨rfl, trivial⟩ trivial rfl rfl rfl rfl (fun _ => rfl) fun b1 => ?_
  refine HQ.pu Pu.assign ⟨rfl, trivial⟩ rfl rfl rfl ?_
  refine HQ.done ?_
  refine HQ.keep [(1, _), (2, _), (4, _)] ⟨rfl, rfl, rfl, trivial⟩ ?_
  refine HQ.rseq ?_
  refine HQ.pu (Pu.fieldB fo49_1 rfl) ⟨rfl, trivial⟩ rfl rfl rfl ?_
  refine HQ.op [1] [1] (OT.loadB sc45 rfl) ⟨rfl, trivial⟩ ⟨rfl, trivial⟩ rfl rfl rfl rfl (fun _ => rfl) fun _ => ?_
  refine HQ.pu Pu.move ⟨rfl, trivial⟩ rfl rfl rfl ?_
  obtain ⟨t2, h3, H⟩ := bnd H
  refine HQ.op [] [] (OT.call (us := [_, _]) (Pre := []) [.tmp 6, .tmp 7] Try.call46 rfl rfl fun w F hs hF hp => laws_szIntS_c (hb_0.pass hp) h3) ⟨rfl, rfl, rfl, trivial⟩ trivial rfl rfl rfl rfl (fun _ => rfl) fun _ => ?_
  refine HQ.pu Pu.assign ⟨rfl, trivial⟩ rfl rfl rfl ?_
  refine HQ.done ?_
  refine HQ.keep [(1, _), (2, _), (4, _)] ⟨rfl, rfl, rfl, trivial⟩ ?_
  refine HQ.seq ?_
  refine HQ.rseq ?_
  refine HQ.pu Pu.move ⟨rfl, trivial⟩ rfl rfl rfl ?_
  refine HQ.pu Pu.lss ⟨rfl, rfl, trivial⟩ rfl rfl rfl ?_
  refine HQ.done ?_
  refine HQ.keep [(1, _), (2, _), (4, _), (10, _)] ⟨rfl, rfl, rfl, rfl, trivial⟩ ?_
  rcases brk H with ⟨hc, H⟩ | ⟨hc, H⟩
  · refine HQ.condT rfl hc ?_
    clear hc
    refine HQ.rseq ?_
    refine HQ.pu Pu.assign ⟨rfl, trivial⟩ rfl rfl rfl ?_
    refine HQ.done ?_
    refine HQ.keep [(1, _), (2, _), (4, _)] ⟨rfl, rfl, rfl, trivial⟩ ?_
    refine HQ.ret ?_
    refine HQ.thenR ?_
    obtain rfl := Option.some.inj H
    exact HQ.fin (vs := [_]) Try.results25 () ⟨rfl, trivial⟩ rfl [] trivial rfl
  · refine HQ.condF rfl hc ?_
    clear hc
    refine HQ.skipThen ?_
    refine HQ.rseq ?_
    refine HQ.pu (Pu.fieldB fo49_2 rfl) ⟨rfl, trivial⟩ rfl rfl rfl ?_
    refine HQ.op [1] [1] (OT.loadB sc46 rfl) ⟨rfl, trivial⟩ ⟨rfl, trivial⟩ rfl rfl rfl rfl (fun _ => rfl) fun _ => ?_
    refine HQ.pu Pu.move ⟨rfl, trivial⟩ rfl rfl rfl ?_
    obtain ⟨t4, h5, H⟩ := bnd H
    refine HQ.op [] [] (OT.call (us := [_, _]) (Pre := []) [.tmp 12, .tmp 13] Try.call47 rfl rfl fun w F hs hF hp => laws_szItemS_c (hb_1.pass hp) h5) ⟨rfl, rfl, rfl, trivial⟩ trivial rfl rfl rfl rfl (fun _ => rfl) fun _ => ?_
    refine HQ.pu Pu.assign ⟨rfl, trivial⟩ rfl rfl rfl ?_
    refine HQ.done ?_
    refine HQ.keep [(1, _), (2, _), (4, _)] ⟨rfl, rfl, rfl, trivial⟩ ?_
    refine HQ.seq ?_
    refine HQ.rseq ?_
    refine HQ.pu Pu.move ⟨rfl, trivial⟩ rfl rfl rfl ?_
    refine HQ.pu Pu.lss ⟨rfl, rfl, trivial⟩ rfl rfl rfl ?_
    refine HQ.done ?_
    refine HQ.keep [(1, _), (2, _), (4, _), (16, _)] ⟨rfl, rfl, rfl, rfl, trivial⟩ ?_
    rcases brk H with ⟨hc, H⟩ | ⟨hc, H⟩
    · refine HQ.condT rfl hc ?_
      clear hc
      refine HQ.rseq ?_
      refine HQ.pu Pu.assign ⟨rfl, trivial⟩ rfl rfl rfl ?_
      refine HQ.done ?_
      refine HQ.keep [(1, _), (2, _), (4, _)] ⟨rfl, rfl, rfl, trivial⟩ ?_
      refine HQ.ret ?_
      refine HQ.thenR ?_
      obtain rfl := Option.some.inj H
      exact HQ.fin (vs := [_]) Try.results25 () ⟨rfl, trivial⟩ rfl [] trivial rfl
    · refine HQ.condF rfl hc ?_
      clear hc
      refine HQ.skipThen ?_
      refine HQ.rseq ?_
      refine HQ.pu (Pu.fieldB fo49_3 rfl) ⟨rfl, trivial⟩ rfl rfl rfl ?_
      refine HQ.op [1] [1] (OT.loadB sc47 rfl) ⟨rfl, trivial⟩ ⟨rfl, trivial⟩ rfl rfl rfl rfl (fun _ => rfl) fun _ => ?_
      refine HQ.pu Pu.move ⟨rfl, trivial⟩ rfl rfl rfl ?_
      obtain ⟨t6, h7, H⟩ := bnd H
      refine HQ.op [] [] (OT.call (us := [_, _]) (Pre := []) [.tmp 18, .tmp 19] Try.call48 rfl rfl fun w F hs hF hp => laws_szEntryS_c (hb_2.pass hp) h7) ⟨rfl, rfl, rfl, trivial⟩ trivial rfl rfl rfl rfl (fun _ => rfl) fun _ => ?_
      refine HQ.pu Pu.assign ⟨rfl, trivial⟩ rfl rfl rfl ?_
      refine HQ.done ?_
      refine HQ.keep [(1, _), (2, _), (4, _)] ⟨rfl, rfl, rfl, trivial⟩ ?_
      refine HQ.seq ?_
      refine HQ.rseq ?_
      refine HQ.pu Pu.move ⟨rfl, trivial⟩ rfl rfl rfl ?_
      refine HQ.pu Pu.lss ⟨rfl, rfl, trivial⟩ rfl rfl rfl ?_
      refine HQ.done ?_
      refine HQ.keep [(1, _), (2, _), (4, _), (22, _)] ⟨rfl, rfl, rfl, rfl, trivial⟩ ?_
      rcases brk H with ⟨hc, H⟩ | ⟨hc, H⟩
      · refine HQ.condT rfl hc ?_
        clear hc
        refine HQ.rseq ?_
        refine HQ.pu Pu.assign ⟨rfl, trivial⟩ rfl rfl rfl ?_
        refine HQ.done ?_
        refine HQ.keep [(1, _), (2, _), (4, _)] ⟨rfl, rfl, rfl, trivial⟩ ?_
        refine HQ.ret ?_
        refine HQ.thenR ?_
        obtain rfl := Option.some.inj H
        exact HQ.fin (vs := [_]) Try.results25 () ⟨rfl, trivial⟩ rfl [] trivial rfl
      · refine HQ.condF rfl hc ?_
        clear hc
        refine HQ.skipThen ?_
        refine HQ.rseq ?_
        refine HQ.pu (Pu.fieldB fo49_4 rfl) ⟨rfl, trivial⟩ rfl rfl rfl ?_
        refine HQ.op [1] [1] (OT.loadB sc47 rfl) ⟨rfl, trivial⟩ ⟨rfl, trivial⟩ rfl rfl rfl rfl (fun _ => rfl) fun _ => ?_
        refine HQ.pu Pu.move ⟨rfl, trivial⟩ rfl rfl rfl ?_
        obtain ⟨t8, h9, H⟩ := bnd H
        refine HQ.op [] [] (OT.call (us := [_, _]) (Pre := []) [.tmp 24, .tmp 25] Try.call48 rfl rfl fun w F hs hF hp => laws_szEntryS_c (hb_3.pass hp) h9) ⟨rfl, rfl, rfl, trivial⟩ trivial rfl rfl rfl rfl (fun _ => rfl) fun _ => ?_
        refine HQ.pu Pu.assign ⟨rfl, trivial⟩ rfl rfl rfl ?_
        refine HQ.done ?_
        refine HQ.keep [(1, _), (2, _), (4, _)] ⟨rfl, rfl, rfl, trivial⟩ ?_
        refine HQ.seq ?_
        refine HQ.rseq ?_
        refine HQ.pu Pu.move ⟨rfl, trivial⟩ rfl rfl rfl ?_
        refine HQ.pu Pu.lss ⟨rfl, rfl, trivial⟩ rfl rfl rfl ?_
        refine HQ.done ?_
        refine HQ.keep [(1, _), (2, _), (4, _), (28, _)] ⟨rfl, rfl, rfl, rfl, trivial⟩ ?_
        rcases brk H with ⟨hc, H⟩ | ⟨hc, H⟩
        · refine HQ.condT rfl hc ?_
          clear hc
          refine HQ.rseq ?_
          refine HQ.pu Pu.assign ⟨rfl, trivial⟩ rfl rfl rfl ?_
          refine HQ.done ?_
          refine HQ.keep [(1, _), (2, _), (4, _)] ⟨rfl, rfl, rfl, trivial⟩ ?_
          refine HQ.ret ?_
          refine HQ.thenR ?_
          obtain rfl := Option.some.inj H
          exact HQ.fin (vs := [_]) Try.results25 () ⟨rfl, trivial⟩ rfl [] trivial rfl
        · refine HQ.condF rfl hc ?_
          clear hc
          refine HQ.skipThen ?_
          refine HQ.rseq ?_
          refine HQ.pu (Pu.fieldB fo49_5 rfl) ⟨rfl, trivial⟩ rfl rfl rfl ?_
          refine HQ.op [1] [1] (OT.loadB sc45 rfl) ⟨rfl, trivial⟩ ⟨rfl, trivial⟩ rfl rfl rfl rfl (fun _ => rfl) fun _ => ?_
          refine HQ.pu Pu.move ⟨rfl, trivial⟩ rfl rfl rfl ?_
          obtain ⟨t10, h11, H⟩ := bnd H
          refine HQ.op [] [] (OT.call (us := [_, _]) (Pre := []) [.tmp 30, .tmp 31] Try.call46 rfl rfl fun w F hs hF hp => laws_szIntS_c (hb_4.pass hp) h11) ⟨rfl, rfl, rfl, trivial⟩ trivial rfl rfl rfl rfl (fun _ => rfl) fun _ => ?_
          refine HQ.pu Pu.assign ⟨rfl, trivial⟩ rfl rfl rfl ?_
          refine HQ.done ?_
          refine HQ.keep [(1, _), (4, _)] ⟨rfl, rfl, trivial⟩ ?_
          refine HQ.seq ?_
          refine HQ.rseq ?_
          refine HQ.pu Pu.move ⟨rfl, trivial⟩ rfl rfl rfl ?_
          refine HQ.pu Pu.lss ⟨rfl, rfl, trivial⟩ rfl rfl rfl ?_
          refine HQ.done ?_
          refine HQ.keep [(1, _), (4, _), (34, _)] ⟨rfl, rfl, rfl, trivial⟩ ?_
          rcases brk H with ⟨hc, H⟩ | ⟨hc, H⟩
          · refine HQ.condT rfl hc ?_
            clear hc
            refine HQ.rseq ?_
            refine HQ.pu Pu.assign ⟨rfl, trivial⟩ rfl rfl rfl ?_
            refine HQ.done ?_
            refine HQ.keep [(1, _), (4, _)] ⟨rfl, rfl, trivial⟩ ?_
            refine HQ.ret ?_
            refine HQ.thenR ?_
            obtain rfl := Option.some.inj H
            exact HQ.fin (vs := [_]) Try.results25 () ⟨rfl, trivial⟩ rfl [] trivial rfl
          · refine HQ.condF rfl hc ?_
            clear hc
            refine HQ.skipThen ?_
            refine HQ.rseq ?_
            refine HQ.pu Pu.move ⟨rfl, trivial⟩ rfl rfl rfl ?_
            refine HQ.pu Pu.assign ⟨rfl, trivial⟩ rfl rfl rfl ?_
            refine HQ.done ?_
            refine HQ.keep [(4, _)] ⟨rfl, trivial⟩ ?_
            refine HQ.ret ?_
            obtain rfl := Option.some.inj H
            exact HQ.fin (vs := [_]) Try.results25 () ⟨rfl, trivial⟩ rfl [] trivial rfl

/-! laws.toIntS -/
theorem laws_toIntS_c {w : World} {k : Nat} {p0 : (List Int)} {a_0 : Option Addr} {c_0 : Nat} (hb_0 : BorS kI a_0 c_0 p0 w.heap (Lt w Nil)) {r : (List Int)} (H : laws_toIntS k p0 = some r) :
    Calls Try.prog 49 #[.slice a_0 (List.length p0) c_0] w (Rt w Nil (fun g : Option Addr × Nat => .slice g.1 (List.length r) g.2) (fun g => [OwnS kI g.1 g.2 r])) := by
  rw [laws_toIntS] at H
  refine Calls.enter0 (N := 22) (us := [_]) Try.func49 rfl rfl rfl ?_
  refine HQ.rseq ?_
  refine HQ.pu Pu.assign ⟨rfl, trivial⟩ rfl rfl rfl ?_
  refine HQ.done ?_
  refine HQ.keep [(0, _), (2, _)] ⟨rfl, rfl, trivial⟩ ?_
  refine HQ.rseq ?_
  refine HQ.pu Pu.move ⟨rfl, trivial⟩ rfl rfl rfl ?_
  refine HQ.pu (Pu.len ul45) ⟨rfl, trivial⟩ rfl rfl rfl ?_
  obtain ⟨h3, H⟩ := asr H
  refine HQ.op [] [1] (OT.make (K := kI) (z := (0 : Int)) sl45 h3 (fun _ => ⟨rfl, fun _ h => h⟩)) ⟨rfl, rfl, trivial⟩ trivial rfl rfl rfl rfl (fun _ => rfl) fun ⟨a1, c2⟩ => ?_
  refine HQ.pu Pu.assign ⟨rfl, trivial⟩ rfl rfl rfl ?_
  refine HQ.done ?_
  refine HQ.keep [(0, _), (2, _), (3, _)] ⟨rfl, rfl, rfl, trivial⟩ ?_
  refine HQ.seq ?_
  refine HQ.rseq ?_
  refine HQ.pu Pu.assign ⟨rfl, trivial⟩ rfl rfl rfl ?_
  refine HQ.done ?_
  refine HQ.keep [(0, _), (2, _), (3, _), (4, _)] ⟨rfl, rfl, rfl, rfl, trivial⟩ ?_
  refine HQ.block ?_
  obtain ⟨o14, h19, H⟩ := bnd H
  refine HQ.loop h19 0 (fun (s : (List Int) × Int) (g : Option Addr × Nat) => match s, g with | (l6, i9), (a7, c8) => [(0, .slice a_0 (List.length p0) c_0), (2, .slice none 0 0), (3, .slice a7 (List.length l6) c8), (4, .int .i64 i9)]) (fun (s : (List Int) × Int) (g : Option Addr × Nat) => match s, g with | (l6, i9), (a7, c8) => [(1, OwnS kI a7 c8 l6)]) (fun _ _ _ => False) (a1, c2) ⟨rfl, rfl, rfl, rfl, trivial⟩ ⟨rfl, trivial⟩ rfl ?_ ?_ ?_
  · clear H h19
    rintro ⟨l6, i9⟩ ⟨a7, c8⟩ o H
    rw [laws_toIntS_b0] at H
    refine HQ.keep [(0, _), (2, _), (3, _), (4, _)] ⟨rfl, rfl, rfl, rfl, trivial⟩ ?_
    refine HQ.keepR [(1, _)] ⟨rfl, trivial⟩ rfl ?_
    refine HQ.seq ?_
    refine HQ.rseq ?_
    refine HQ.pu Pu.move ⟨rfl, trivial⟩ rfl rfl rfl ?_
    refine HQ.pu Pu.move ⟨rfl, trivial⟩ rfl rfl rfl ?_
    refine HQ.pu (Pu.len ul45) ⟨rfl, trivial⟩ rfl rfl rfl ?_
    refine HQ.pu Pu.lss ⟨rfl, rfl, trivial⟩ rfl rfl rfl ?_
    refine HQ.done ?_
    refine HQ.keep [(0, _), (2, _), (3, _), (4, _), (8, _), (9, _), (10, _), (11, _)] ⟨rfl, rfl, rfl, rfl, rfl, rfl, rfl, rfl, trivial⟩ ?_
    rcases brk H with ⟨hc, H⟩ | ⟨hc, H⟩
    · refine HQ.condT rfl hc ?_
      clear hc
      refine HQ.skipThen ?_
      refine HQ.seq ?_
      refine HQ.block ?_
      refine HQ.regionQ ?_
      refine HQ.pu Pu.move ⟨rfl, trivial⟩ rfl rfl rfl ?_
      refine HQ.pu Pu.move ⟨rfl, trivial⟩ rfl rfl rfl ?_
      refine HQ.pu Pu.move ⟨rfl, trivial⟩ rfl rfl rfl ?_
      refine HQ.pu Pu.move ⟨rfl, trivial⟩ rfl rfl rfl ?_
      obtain ⟨h12, H⟩ := asr H
      refine HQ.op [] [] (OT.indexB ul45 sz3 hb_0 h12) ⟨rfl, rfl, trivial⟩ trivial rfl rfl rfl rfl (fun _ => rfl) fun _ => ?_
      refine HQ.op [] [] (OT.loadF sc3 hb_0 h12 rfl) ⟨rfl, trivial⟩ trivial rfl rfl rfl rfl (fun _ => rfl) fun _ => ?_
      obtain ⟨h13, H⟩ := asr H
      refine HQ.op [1] [1] (OT.indexO ul45 sz3 h13) ⟨rfl, rfl, trivial⟩ ⟨rfl, trivial⟩ rfl rfl rfl rfl (fun _ => rfl) fun _ => ?_
      refine HQ.opN [1] [1] [] (OT.storeF (gt p0 i9) sz3 rfl rfl rfl h13 rfl rfl) ⟨rfl, rfl, trivial⟩ ⟨rfl, trivial⟩ rfl rfl rfl (fun _ => rfl) fun _ => ?_
      refine HQ.done ?_
      refine HQ.keep [(0, _), (2, _), (3, _), (4, _), (8, _), (9, _), (10, _), (11, _), (14, _), (15, _), (16, _), (17, _), (18, _), (19, _), (20, _)] ⟨rfl, rfl, rfl, rfl, rfl, rfl, rfl, rfl, rfl, rfl, rfl, rfl, rfl, rfl, rfl, trivial⟩ ?_
      refine HQ.blkN ?_
      refine HQ.thenN ?_
      refine HQ.regionQ ?_
      refine HQ.pu Pu.move ⟨rfl, trivial⟩ rfl rfl rfl ?_
      refine HQ.pu Pu.add ⟨rfl, rfl, trivial⟩ rfl rfl rfl ?_
      refine HQ.pu Pu.assign ⟨rfl, trivial⟩ rfl rfl rfl ?_
      refine HQ.done ?_
      refine HQ.keep [(0, _), (2, _), (3, _), (4, _), (8, _), (9, _), (10, _), (11, _), (14, _), (15, _), (16, _), (17, _), (18, _), (19, _), (20, _), (12, _), (13, _)] ⟨rfl, rfl, rfl, rfl, rfl, rfl, rfl, rfl, rfl, rfl, rfl, rfl, rfl, rfl, rfl, rfl, rfl, trivial⟩ ?_
      refine HQ.re (v' := .slice a7 (List.length (List.set l6 (Int.toNat i9) (gt p0 i9))) c8) 3 rfl (by simp) ?_
      refine HQ.re (v' := .slice a7 (List.length (List.set l6 (Int.toNat i9) (gt p0 i9))) c8) 14 rfl (by simp) ?_
      obtain rfl := Option.some.inj H
      exact HQ.next (a7, c8) ⟨rfl, rfl, rfl, rfl, trivial⟩ ⟨rfl, trivial⟩ rfl
    · refine HQ.condF rfl hc ?_
      clear hc
      refine HQ.exit ?_
      refine HQ.thenE ?_
      obtain rfl := Option.some.inj H
      exact HQ.out (a7, c8) ⟨rfl, rfl, rfl, rfl, trivial⟩ ⟨rfl, trivial⟩ rfl
  · rintro ⟨l15, i18⟩ rfl ⟨a16, c17⟩
    clear h19
    replace H := H
    refine HQ.keep [(0, _), (2, _), (3, _), (4, _)] ⟨rfl, rfl, rfl, rfl, trivial⟩ ?_
    refine HQ.keepR [(1, _)] ⟨rfl, trivial⟩ rfl ?_
    refine HQ.blkE ?_
    refine HQ.thenN ?_
    refine HQ.rseq ?_
    refine HQ.pu Pu.move ⟨rfl, trivial⟩ rfl rfl rfl ?_
    refine HQ.pu Pu.assign ⟨rfl, trivial⟩ rfl rfl rfl ?_
    refine HQ.done ?_
    refine HQ.keep [(2, _)] ⟨rfl, trivial⟩ ?_
    refine HQ.ret ?_
    obtain rfl := Option.some.inj H
    exact HQ.fin (vs := [_]) Try.results49 (a16, c17) ⟨rfl, trivial⟩ rfl [1] ⟨rfl, trivial⟩ rfl
  · exact fun r h a w hf => hf.elim

/-! laws.toBox -/
theorem laws_toBox_c {w : World} {p0 : TBox}   {r : TBox} (H : laws_toBox p0 = some r) :
    Calls Try.prog 62 #[.agg #[.int .i64 p0.X0, .int .i64 p0.Y0, .int .i64 p0.X1, .int .i64 p0.Y1]] w (Rt w Nil (fun _ : Unit => .agg #[.int .i64 r.X0, .int .i64 r.Y0, .int .i64 r.X1, .int .i64 r.Y1]) (fun _ => [])) := by
  rw [laws_toBox] at H
  refine Calls.enter0 (N := 17) (us := [_]) Try.func62 rfl rfl rfl ?_
  refine HQ.rseq ?_
  refine HQ.op [] [1] (OT.box rfl) ⟨rfl, trivial⟩ trivial rfl rfl rfl rfl (fun _ => rfl) fun b1 => ?_
  refine HQ.op [] [2] (OT.alloc zc84) trivial trivial rfl rfl rfl rfl (fun _ => rfl) fun b2 => ?_
  refine HQ.done ?_
  refine HQ.keep [(1, _), (2, _)] ⟨rfl, rfl, trivial⟩ ?_
  refine HQ.rseq ?_
  refine HQ.op [] [3] (OT.alloc zc84) trivial trivial rfl rfl rfl rfl (fun _ => rfl) fun b3 => ?_
  refine HQ.done ?_
  refine HQ.keep [(1, _), (2, _), (3, _)] ⟨rfl, rfl, rfl, trivial⟩ ?_
  refine HQ.rseq ?_
  refine HQ.pu (Pu.fieldB fo88_0 rfl) ⟨rfl, trivial⟩ rfl rfl rfl ?_
  refine HQ.op [1] [1] (OT.loadB sc3 rfl) ⟨rfl, trivial⟩ ⟨rfl, trivial⟩ rfl rfl rfl rfl (fun _ => rfl) fun _ => ?_
  refine HQ.pu (Pu.fieldB fo84_0 rfl) ⟨rfl, trivial⟩ rfl rfl rfl ?_
  refine HQ.opN [3] [3] [] (OT.storeB sz3 rfl rfl rfl rfl) ⟨rfl, rfl, trivial⟩ ⟨rfl, trivial⟩ rfl rfl rfl (fun _ => rfl) fun _ => ?_
  refine HQ.done ?_
  refine HQ.keep [(1, _), (2, _), (3, _)] ⟨rfl, rfl, rfl, trivial⟩ ?_
  refine HQ.rseq ?_
  refine HQ.pu (Pu.fieldB fo88_1 rfl) ⟨rfl, trivial⟩ rfl rfl rfl ?_
  refine HQ.op [1] [1] (OT.loadB sc3 rfl) ⟨rfl, trivial⟩ ⟨rfl, trivial⟩ rfl rfl rfl rfl (fun _ => rfl) fun _ => ?_
  refine HQ.pu (Pu.fieldB fo84_1 rfl) ⟨rfl, trivial⟩ rfl rfl rfl ?_
  refine HQ.opN [3] [3] [] (OT.storeB sz3 rfl rfl rfl rfl) ⟨rfl, rfl, trivial⟩ ⟨rfl, trivial⟩ rfl rfl rfl (fun _ => rfl) fun _ => ?_
  refine HQ.done ?_
  refine HQ.keep [(1, _), (2, _), (3, _)] ⟨rfl, rfl, rfl, trivial⟩ ?_
  refine HQ.rseq ?_
  refine HQ.pu (Pu.fieldB fo88_2 rfl) ⟨rfl, trivial⟩ rfl rfl rfl ?_
  refine HQ.op [1] [1] (OT.loadB sc3 rfl) ⟨rfl, trivial⟩ ⟨rfl, trivial⟩ rfl rfl rfl rfl (fun _ => rfl) fun _ => ?_
  refine HQ.pu (Pu.fieldB fo84_2 rfl) ⟨rfl, trivial⟩ rfl rfl rfl ?_
  refine HQ.opN [3] [3] [] (OT.storeB sz3 rfl rfl rfl rfl) ⟨rfl, rfl, trivial⟩ ⟨rfl, trivial⟩ rfl rfl rfl (fun _ => rfl) fun _ => ?_
  refine HQ.done ?_
  refine HQ.keep [(1, _), (2, _), (3, _)] ⟨rfl, rfl, rfl, trivial⟩ ?_
  refine HQ.rseq ?_
  refine HQ.pu (Pu.fieldB fo88_3 rfl) ⟨rfl, trivial⟩ rfl rfl rfl ?_
  refine HQ.op [1] [1] (OT.loadB sc3 rfl) ⟨rfl, trivial⟩ ⟨rfl, trivial⟩ rfl rfl rfl rfl (fun _ => rfl) fun _ => ?_
  refine HQ.pu (Pu.fieldB fo84_3 rfl) ⟨rfl, trivial⟩ rfl rfl rfl ?_
  refine HQ.opN [3] [3] [] (OT.storeB sz3 rfl rfl rfl rfl) ⟨rfl, rfl, trivial⟩ ⟨rfl, trivial⟩ rfl rfl rfl (fun _ => rfl) fun _ => ?_
  refine HQ.done ?_
  refine HQ.keep [(2, _), (3, _)] ⟨rfl, rfl, trivial⟩ ?_
  refine HQ.rseq ?_
  refine HQ.op [3] [3] (OT.loadBA ag84 sz84 rfl rfl) ⟨rfl, trivial⟩ ⟨rfl, trivial⟩ rfl rfl rfl rfl (fun _ => rfl) fun _ => ?_
  refine HQ.opN [2] [2] [] (OT.storeB sz84 rfl rfl rfl rfl) ⟨rfl, rfl, trivial⟩ ⟨rfl, trivial⟩ rfl rfl rfl (fun _ => rfl) fun _ => ?_
  refine HQ.done ?_
  refine HQ.keep [(2, _)] ⟨rfl, trivial⟩ ?_
  refine HQ.ret ?_
  obtain rfl := Option.some.inj H
  exact HQ.fin (vs := [_]) Try.results62 () ⟨⟨_, _, 2, rfl, rfl, ag84, sz84, rfl⟩, trivial⟩ rfl [] trivial rfl

/-! laws.toItem -/
theorem laws_toItem_c {w : World} {p0 : TItem}   {r : TItem} (H : laws_toItem p0 = some r) :
    Calls Try.prog 58 #[.agg #[.int .i64 p0.Id, .int .i64 p0.R.X0, .int .i64 p0.R.Y0, .int .i64 p0.R.X1, .int .i64 p0.R.Y1]] w (Rt w Nil (fun _ : Unit => .agg #[.int .i64 r.Id, .int .i64 r.R.X0, .int .i64 r.R.Y0, .int .i64 r.R.X1, .int .i64 r.R.Y1]) (fun _ => [])) := by
  rw [laws_toItem] at H
  refine Calls.enter0 (N := 12) (us := [_]) Try.func58 rfl rfl rfl ?_
  refine HQ.rseq ?_
  refine HQ.op [] [1] (OT.box rfl) ⟨rfl, trivial⟩ trivial rfl rfl rfl rfl (fun _ => rfl) fun b1 => ?_
  refine HQ.op [] [2] (OT.alloc zc86) trivial trivial rfl rfl rfl rfl (fun _ => rfl) fun b2 => ?_
  refine HQ.done ?_
  refine HQ.keep [(1, _), (2, _)] ⟨rfl, rfl, trivial⟩ ?_
  refine HQ.rseq ?_
  refine HQ.op [] [3] (OT.alloc zc86) trivial trivial rfl rfl rfl rfl (fun _ => rfl) fun b3 => ?_
  refine HQ.done ?_
  refine HQ.keep [(1, _), (2, _), (3, _)] ⟨rfl, rfl, rfl, trivial⟩ ?_
  refine HQ.rseq ?_
  refine HQ.pu (Pu.fieldB fo90_0 rfl) ⟨rfl, trivial⟩ rfl rfl rfl ?_
  refine HQ.op [1] [1] (OT.loadB sc3 rfl) ⟨rfl, trivial⟩ ⟨rfl, trivial⟩ rfl rfl rfl rfl (fun _ => rfl) fun _ => ?_
  refine HQ.pu (Pu.fieldB fo86_0 rfl) ⟨rfl, trivial⟩ rfl rfl rfl ?_
  refine HQ.opN [3] [3] [] (OT.storeB sz3 rfl rfl rfl rfl) ⟨rfl, rfl, trivial⟩ ⟨rfl, trivial⟩ rfl rfl rfl (fun _ => rfl) fun _ => ?_
  refine HQ.done ?_
  refine HQ.keep [(1, _), (2, _), (3, _)] ⟨rfl, rfl, rfl, trivial⟩ ?_
  refine HQ.rseq ?_
  refine HQ.pu (Pu.fieldB fo90_1 rfl) ⟨rfl, trivial⟩ rfl rfl rfl ?_
  refine HQ.op [1] [1] (OT.loadBA ag88 sz88 rfl rfl) ⟨rfl, trivial⟩ ⟨rfl, trivial⟩ rfl rfl rfl rfl (fun _ => rfl) fun _ => ?_
  obtain ⟨t4, h5, H⟩ := bnd H
  refine HQ.op [] [] (OT.call (us := [_]) (Pre := []) [.tmp 8] Try.call62 rfl rfl fun w F hs hF hp => laws_toBox_c h5) ⟨rfl, rfl, trivial⟩ trivial rfl rfl rfl rfl (fun _ => rfl) fun _ => ?_
  refine HQ.pu (Pu.fieldB fo86_1 rfl) ⟨rfl, trivial⟩ rfl rfl rfl ?_
  refine HQ.opN [3] [3] [] (OT.storeB sz84 rfl rfl rfl rfl) ⟨rfl, rfl, trivial⟩ ⟨rfl, trivial⟩ rfl rfl rfl (fun _ => rfl) fun _ => ?_
  refine HQ.done ?_
  refine HQ.keep [(2, _), (3, _)] ⟨rfl, rfl, trivial⟩ ?_
  refine HQ.rseq ?_
  refine HQ.op [3] [3] (OT.loadBA ag86 sz86 rfl rfl) ⟨rfl, trivial⟩ ⟨rfl, trivial⟩ rfl rfl rfl rfl (fun _ => rfl) fun _ => ?_
  refine HQ.opN [2] [2] [] (OT.storeB sz86 rfl rfl rfl rfl) ⟨rfl, rfl, trivial⟩ ⟨rfl, trivial⟩ rfl rfl rfl (fun _ => rfl) fun _ => ?_
  refine HQ.done ?_
  refine HQ.keep [(2, _)] ⟨rfl, trivial⟩ ?_
  refine HQ.ret ?_
  obtain rfl := Option.some.inj H
  exact HQ.fin (vs := [_]) Try.results58 () ⟨⟨_, _, 2, rfl, rfl, ag86, sz86, rfl⟩, trivial⟩ rfl [] trivial rfl

/-! laws.toItemS -/
theorem laws_toItemS_c {w : World} {k : Nat} {p0 : (List TItem)} {a_0 : Option Addr} {c_0 : Nat} (hb_0 : BorS kTItem a_0 c_0 p0 w.heap (Lt w Nil)) {r : (List TItem)} (H : laws_toItemS k p0 = some r) :
    Calls Try.prog 50 #[.slice a_0 (List.length p0) c_0] w (Rt w Nil (fun g : Option Addr × Nat => .slice g.1 (List.length r) g.2) (fun g => [OwnS kTItem g.1 g.2 r])) := by
  rw [laws_toItemS] at H
  refine Calls.enter0 (N := 23) (us := [_]) Try.func50 rfl rfl rfl ?_
  refine HQ.rseq ?_
  refine HQ.pu Pu.assign ⟨rfl, trivial⟩ rfl rfl rfl ?_
  refine HQ.done ?_
  refine HQ.keep [(0, _), (2, _)] ⟨rfl, rfl, trivial⟩ ?_
  refine HQ.rseq ?_
  refine HQ.pu Pu.move ⟨rfl, trivial⟩ rfl rfl rfl ?_
  refine HQ.pu (Pu.len ul46) ⟨rfl, trivial⟩ rfl rfl rfl ?_
  obtain ⟨h3, H⟩ := asr H
  refine HQ.op [] [1] (OT.make (K := kTItem) (z := (⟨(0 : Int), (⟨(0 : Int), (0 : Int), (0 : Int), (0 : Int)⟩ : TBox)⟩ : TItem)) sl52 h3 (fun _ => ⟨rfl, fun _ h => h⟩)) ⟨rfl, rfl, trivial⟩ trivial rfl rfl rfl rfl (fun _ => rfl) fun ⟨a1, c2⟩ => ?_
  refine HQ.pu Pu.assign ⟨rfl, trivial⟩ rfl rfl rfl ?_
  refine HQ.done ?_
  refine HQ.keep [(0, _), (2, _), (3, _)] ⟨rfl, rfl, rfl, trivial⟩ ?_
  refine HQ.seq ?_
  refine HQ.rseq ?_
  refine HQ.pu Pu.assign ⟨rfl, trivial⟩ rfl rfl rfl ?_
  refine HQ.done ?_
  refine HQ.keep [(0, _), (2, _), (3, _), (4, _)] ⟨rfl, rfl, rfl, rfl, trivial⟩ ?_
  refine HQ.block ?_
  obtain ⟨o20, h25, H⟩ := bnd H
  refine HQ.loop h25 0 (fun (s : (List TItem) × Int) (g : Option Addr × Nat) => match s, g with | (l8, i11), (a9, c10) => [(0, .slice a_0 (List.length p0) c_0), (2, .slice none 0 0), (3, .slice a9 (List.length l8) c10), (4, .int .i64 i11)]) (fun (s : (List TItem) × Int) (g : Option Addr × Nat) => match s, g with | (l8, i11), (a9, c10) => [(1, OwnS kTItem a9 c10 l8)]) (fun _ _ _ => False) (a1, c2) ⟨rfl, rfl, rfl, rfl, trivial⟩ ⟨rfl, trivial⟩ rfl ?_ ?_ ?_
  · clear H h25
    rintro ⟨l8, i11⟩ ⟨a9, c10⟩ o H
    rw [laws_toItemS_b0] at H
    refine HQ.keep [(0, _), (2, _), (3, _), (4, _)] ⟨rfl, rfl, rfl, rfl, trivial⟩ ?_
    refine HQ.keepR [(1, _)] ⟨rfl, trivial⟩ rfl ?_
    refine HQ.seq ?_
    refine HQ.rseq ?_
    refine HQ.pu Pu.move ⟨rfl, trivial⟩ rfl rfl rfl ?_
    refine HQ.pu Pu.move ⟨rfl, trivial⟩ rfl rfl rfl ?_
    refine HQ.pu (Pu.len ul46) ⟨rfl, trivial⟩ rfl rfl rfl ?_
    refine HQ.pu Pu.lss ⟨rfl, rfl, trivial⟩ rfl rfl rfl ?_
    refine HQ.done ?_
    refine HQ.keep [(0, _), (2, _), (3, _), (4, _), (8, _), (9, _), (10, _), (11, _)] ⟨rfl, rfl, rfl, rfl, rfl, rfl, rfl, rfl, trivial⟩ ?_
    rcases brk H with ⟨hc, H⟩ | ⟨hc, H⟩
    · refine HQ.condT rfl hc ?_
      clear hc
      refine HQ.skipThen ?_
      refine HQ.seq ?_
      refine HQ.block ?_
      refine HQ.regionQ ?_
      refine HQ.pu Pu.move ⟨rfl, trivial⟩ rfl rfl rfl ?_
      refine HQ.pu Pu.move ⟨rfl, trivial⟩ rfl rfl rfl ?_
      refine HQ.pu Pu.move ⟨rfl, trivial⟩ rfl rfl rfl ?_
      refine HQ.pu Pu.move ⟨rfl, trivial⟩ rfl rfl rfl ?_
      obtain ⟨h16, H⟩ := asr H
      refine HQ.op [] [] (OT.indexB ul46 sz90 hb_0 h16) ⟨rfl, rfl, trivial⟩ trivial rfl rfl rfl rfl (fun _ => rfl) fun _ => ?_
      refine HQ.op [] [] (OT.loadFA ag90 sz90 hb_0 h16 rfl rfl) ⟨rfl, trivial⟩ trivial rfl rfl rfl rfl (fun _ => rfl) fun _ => ?_
      obtain ⟨t17, h18, H⟩ := bnd H
      refine HQ.op [] [] (OT.call (us := [_]) (Pre := []) [.tmp 19] Try.call58 rfl rfl fun w F hs hF hp => laws_toItem_c h18) ⟨rfl, rfl, trivial⟩ trivial rfl rfl rfl rfl (fun _ => rfl) fun _ => ?_
      obtain ⟨h19, H⟩ := asr H
      refine HQ.op [1] [1] (OT.indexO ul52 sz86 h19) ⟨rfl, rfl, trivial⟩ ⟨rfl, trivial⟩ rfl rfl rfl rfl (fun _ => rfl) fun _ => ?_
      refine HQ.opN [1] [1] [] (OT.storeF t17 sz86 rfl rfl rfl h19 rfl rfl) ⟨rfl, rfl, trivial⟩ ⟨rfl, trivial⟩ rfl rfl rfl (fun _ => rfl) fun _ => ?_
      refine HQ.done ?_
      refine HQ.keep [(0, _), (2, _), (3, _), (4, _), (8, _), (9, _), (10, _), (11, _), (14, _), (15, _), (16, _), (17, _), (18, _), (19, _), (20, _), (21, _)] ⟨rfl, rfl, rfl, rfl, rfl, rfl, rfl, rfl, rfl, rfl, rfl, rfl, rfl, rfl, rfl, rfl, trivial⟩ ?_
      refine HQ.blkN ?_
      refine HQ.thenN ?_
      refine HQ.regionQ ?_
      refine HQ.pu Pu.move ⟨rfl, trivial⟩ rfl rfl rfl ?_
      refine HQ.pu Pu.add ⟨rfl, rfl, trivial⟩ rfl rfl rfl ?_
      refine HQ.pu Pu.assign ⟨rfl, trivial⟩ rfl rfl rfl ?_
      refine HQ.done ?_
      refine HQ.keep [(0, _), (2, _), (3, _), (4, _), (8, _), (9, _), (10, _), (11, _), (14, _), (15, _), (16, _), (17, _), (18, _), (19, _), (20, _), (21, _), (12, _), (13, _)] ⟨rfl, rfl, rfl, rfl, rfl, rfl, rfl, rfl, rfl, rfl, rfl, rfl, rfl, rfl, rfl, rfl, rfl, rfl, trivial⟩ ?_
      refine HQ.re (v' := .slice a9 (List.length (List.set l8 (Int.toNat i11) t17)) c10) 3 rfl (by simp) ?_
      refine HQ.re (v' := .slice a9 (List.length (List.set l8 (Int.toNat i11) t17)) c10) 14 rfl (by simp) ?_
      obtain rfl := Option.some.inj H
      exact HQ.next (a9, c10) ⟨rfl, rfl, rfl, rfl, trivial⟩ ⟨rfl, trivial⟩ rfl
    · refine HQ.condF rfl hc ?_
      clear hc
      refine HQ.exit ?_
      refine HQ.thenE ?_
      obtain rfl := Option.some.inj H
      exact HQ.out (a9, c10) ⟨rfl, rfl, rfl, rfl, trivial⟩ ⟨rfl, trivial⟩ rfl
  · rintro ⟨l21, i24⟩ rfl ⟨a22, c23⟩
    clear h25
    replace H := H
    refine HQ.keep [(0, _), (2, _), (3, _), (4, _)] ⟨rfl, rfl, rfl, rfl, trivial⟩ ?_
    refine HQ.keepR [(1, _)] ⟨rfl, trivial⟩ rfl ?_
    refine HQ.blkE ?_
    refine HQ.thenN ?_
    refine HQ.rseq ?_
    refine HQ.pu Pu.move ⟨rfl, trivial⟩ rfl rfl rfl ?_
    refine HQ.pu Pu.assign ⟨rfl, trivial⟩ rfl rfl rfl ?_
    refine HQ.done ?_
    refine HQ.keep [(2, _)] ⟨rfl, trivial⟩ ?_
    refine HQ.ret ?_
    obtain rfl := Option.some.inj H
    exact HQ.fin (vs := [_]) Try.results50 (a22, c23) ⟨rfl, trivial⟩ rfl [1] ⟨rfl, trivial⟩ rfl
  · exact fun r h a w hf => hf.elim

/-! laws.toEntry -/
theorem laws_toEntry_c {w : World} {p0 : TEntry}   {r : TEntry} (H : laws_toEntry p0 = some r) :
    Calls Try.prog 59 #[.agg #[.int .i64 p0.N, .int .i64 p0.R.X0, .int .i64 p0.R.Y0, .int .i64 p0.R.X1, .int .i64 p0.R.Y1]] w (Rt w Nil (fun _ : Unit => .agg #[.int .i64 r.N, .int .i64 r.R.X0, .int .i64 r.R.Y0, .int .i64 r.R.X1, .int .i64 r.R.Y1]) (fun _ => [])) := by
  rw [laws_toEntry] at H
  refine Calls.enter0 (N := 12) (us := [_]) Try.func59 rfl rfl rfl ?_
  refine HQ.rseq ?_
  refine HQ.op [] [1] (OT.box rfl) ⟨rfl, trivial⟩ trivial rfl rfl rfl rfl (fun _ => rfl) fun b1 => ?_
  refine HQ.op [] [2] (OT.alloc zc92) trivial trivial rfl rfl rfl rfl (fun _ => rfl) fun b2 => ?_
  refine HQ.done ?_
  refine HQ.keep [(1, _), (2, _)] ⟨rfl, rfl, trivial⟩ ?_
  refine HQ.rseq ?_
  refine HQ.op [] [3] (OT.alloc zc92) trivial trivial rfl rfl rfl rfl (fun _ => rfl) fun b3 => ?_
  refine HQ.done ?_
  refine HQ.keep [(1, _), (2, _), (3, _)] ⟨rfl, rfl, rfl, trivial⟩ ?_
  refine HQ.rseq ?_
  refine HQ.pu (Pu.fieldB fo95_0 rfl) ⟨rfl, trivial⟩ rfl rfl rfl ?_
  refine HQ.op [1] [1] (OT.loadB sc3 rfl) ⟨rfl, trivial⟩ ⟨rfl, trivial⟩ rfl rfl rfl rfl (fun _ => rfl) fun _ => ?_
  refine HQ.pu (Pu.fieldB fo92_0 rfl) ⟨rfl, trivial⟩ rfl rfl rfl ?_
  refine HQ.opN [3] [3] [] (OT.storeB sz3 rfl rfl rfl rfl) ⟨rfl, rfl, trivial⟩ ⟨rfl, trivial⟩ rfl rfl rfl (fun _ => rfl) fun _ => ?_
  refine HQ.done ?_
  refine HQ.keep [(1, _), (2, _), (3, _)] ⟨rfl, rfl, rfl, trivial⟩ ?_
  refine HQ.rseq ?_
  refine HQ.pu (Pu.fieldB fo95_1 rfl) ⟨rfl, trivial⟩ rfl rfl rfl ?_
  refine HQ.op [1] [1] (OT.loadBA ag88 sz88 rfl rfl) ⟨rfl, trivial⟩ ⟨rfl, trivial⟩ rfl rfl rfl rfl (fun _ => rfl) fun _ => ?_
  obtain ⟨t4, h5, H⟩ := bnd H
  refine HQ.op [] [] (OT.call (us := [_]) (Pre := []) [.tmp 8] Try.call62 rfl rfl fun w F hs hF hp => laws_toBox_c h5) ⟨rfl, rfl, trivial⟩ trivial rfl rfl rfl rfl (fun _ => rfl) fun _ => ?_
  refine HQ.pu (Pu.fieldB fo92_1 rfl) ⟨rfl, trivial⟩ rfl rfl rfl ?_
  refine HQ.opN [3] [3] [] (OT.storeB sz84 rfl rfl rfl rfl) ⟨rfl, rfl, trivial⟩ ⟨rfl, trivial⟩ rfl rfl rfl (fun _ => rfl) fun _ => ?_
  refine HQ.done ?_
  refine HQ.keep [(2, _), (3, _)] ⟨rfl, rfl, trivial⟩ ?_
  refine HQ.rseq ?_
  refine HQ.op [3] [3] (OT.loadBA ag92 sz92 rfl rfl) ⟨rfl, trivial⟩ ⟨rfl, trivial⟩ rfl rfl rfl rfl (fun _ => rfl) fun _ => ?_
  refine HQ.opN [2] [2] [] (OT.storeB sz92 rfl rfl rfl rfl) ⟨rfl, rfl, trivial⟩ ⟨rfl, trivial⟩ rfl rfl rfl (fun _ => rfl) fun _ => ?_
  refine HQ.done ?_
  refine HQ.keep [(2, _)] ⟨rfl, trivial⟩ ?_
  refine HQ.ret ?_
  obtain rfl := Option.some.inj H
  exact HQ.fin (vs := [_]) Try.results59 () ⟨⟨_, _, 2, rfl, rfl, ag92, sz92, rfl⟩, trivial⟩ rfl [] trivial rfl

/-! laws.toEntryS -/
theorem laws_toEntryS_c {w : World} {k : Nat} {p0 : (List TEntry)} {a_0 : Option Addr} {c_0 : Nat} (hb_0 : BorS kTEntry a_0 c_0 p0 w.heap (Lt w Nil)) {r : (List TEntry)} (H : laws_toEntryS k p0 = some r) :
    Calls Try.prog 51 #[.slice a_0 (List.length p0) c_0] w (Rt w Nil (fun g : Option Addr × Nat => .slice g.1 (List.length r) g.2) (fun g => [OwnS kTEntry g.1 g.2 r])) := by
  rw [laws_toEntryS] at H
  refine Calls.enter0 (N := 23) (us := [_]) Try.func51 rfl rfl rfl ?_
  refine HQ.rseq ?_
  refine HQ.pu Pu.assign ⟨rfl, trivial⟩ rfl rfl rfl ?_
  refine HQ.done ?_
  refine HQ.keep [(0, _), (2, _)] ⟨rfl, rfl, trivial⟩ ?_
  refine HQ.rseq ?_
  refine HQ.pu Pu.move ⟨rfl, trivial⟩ rfl rfl rfl ?_
  refine HQ.pu (Pu.len ul47) ⟨rfl, trivial⟩ rfl rfl rfl ?_
  obtain ⟨h3, H⟩ := asr H
  refine HQ.op [] [1] (OT.make (K := kTEntry) (z := (⟨(0 : Int), (⟨(0 : Int), (0 : Int), (0 : Int), (0 : Int)⟩ : TBox)⟩ : TEntry)) sl53 h3 (fun _ => ⟨rfl, fun _ h => h⟩)) ⟨rfl, rfl, trivial⟩ trivial rfl rfl rfl rfl (fun _ => rfl) fun ⟨a1, c2⟩ => ?_
  refine HQ.pu Pu.assign ⟨rfl, trivial⟩ rfl rfl rfl ?_
  refine HQ.done ?_
  refine HQ.keep [(0, _), (2, _), (3, _)] ⟨rfl, rfl, rfl, trivial⟩ ?_
  refine HQ.seq ?_
  refine HQ.rseq ?_
  refine HQ.pu Pu.assign ⟨rfl, trivial⟩ rfl rfl rfl ?_
  refine HQ.done ?_
  refine HQ.keep [(0, _), (2, _), (3, _), (4, _)] ⟨rfl, rfl, rfl, rfl, trivial⟩ ?_
  refine HQ.block ?_
  obtain ⟨o20, h25, H⟩ := bnd H
  refine HQ.loop h25 0 (fun (s : (List TEntry) × Int) (g : Option Addr × Nat) => match s, g with | (l8, i11), (a9, c10) => [(0, .slice a_0 (List.length p0) c_0), (2, .slice none 0 0), (3, .slice a9 (List.length l8) c10), (4, .int .i64 i11)]) (fun (s : (List TEntry) × Int) (g : Option Addr × Nat) => match s, g with | (l8, i11), (a9, c10) => [(1, OwnS kTEntry a9 c10 l8)]) (fun _ _ _ => False) (a1, c2) ⟨rfl, rfl, rfl, rfl, trivial⟩ ⟨rfl, trivial⟩ rfl ?_ ?_ ?_
  · clear H h25
    rintro ⟨l8, i11⟩ ⟨a9, c10⟩ o H
    rw [laws_toEntryS_b0] at H
    refine HQ.keep [(0, _), (2, _), (3, _), (4, _)] ⟨rfl, rfl, rfl, rfl, trivial⟩ ?_
    refine HQ.keepR [(1, _)] ⟨rfl, trivial⟩ rfl ?_
    refine HQ.seq ?_
    refine HQ.rseq ?_
    refine HQ.pu Pu.move ⟨rfl, trivial⟩ rfl rfl rfl ?_
    refine HQ.pu Pu.move ⟨rfl, trivial⟩ rfl rfl rfl ?_
    refine HQ.pu (Pu.len ul47) ⟨rfl, trivial⟩ rfl rfl rfl ?_
    refine HQ.pu Pu.lss ⟨rfl, rfl, trivial⟩ rfl rfl rfl ?_
    refine HQ.done ?_
    refine HQ.keep [(0, _), (2, _), (3, _), (4, _), (8, _), (9, _), (10, _), (11, _)] ⟨rfl, rfl, rfl, rfl, rfl, rfl, rfl, rfl, trivial⟩ ?_
    rcases brk H with ⟨hc, H⟩ | ⟨hc, H⟩
    · refine HQ.condT rfl hc ?_
      clear hc
      refine HQ.skipThen ?_
      refine HQ.seq ?_
      refine HQ.block ?_
      refine HQ.regionQ ?_
      refine HQ.pu Pu.move ⟨rfl, trivial⟩ rfl rfl rfl ?_
      refine HQ.pu Pu.move ⟨rfl, trivial⟩ rfl rfl rfl ?_
      refine HQ.pu Pu.move ⟨rfl, trivial⟩ rfl rfl rfl ?_
      refine HQ.pu Pu.move ⟨rfl, trivial⟩ rfl rfl rfl ?_
      obtain ⟨h16, H⟩ := asr H
      refine HQ.op [] [] (OT.indexB ul47 sz95 hb_0 h16) ⟨rfl, rfl, trivial⟩ trivial rfl rfl rfl rfl (fun _ => rfl) fun _ => ?_
      refine HQ.op [] [] (OT.loadFA ag95 sz95 hb_0 h16 rfl rfl) ⟨rfl, trivial⟩ trivial rfl rfl rfl rfl (fun _ => rfl) fun _ => ?_
      obtain ⟨t17, h18, H⟩ := bnd H
      refine HQ.op [] [] (OT.call (us := [_]) (Pre := []) [.tmp 19] Try.call59 rfl rfl fun w F hs hF hp => laws_toEntry_c h18) ⟨rfl, rfl, trivial⟩ trivial rfl rfl rfl rfl (fun _ => rfl) fun _ => ?_
      obtain ⟨h19, H⟩ := asr H
      refine HQ.op [1] [1] (OT.indexO ul53 sz92 h19) ⟨rfl, rfl, trivial⟩ ⟨rfl, trivial⟩ rfl rfl rfl rfl (fun _ => rfl) fun _ => ?_
      refine HQ.opN [1] [1] [] (OT.storeF t17 sz92 rfl rfl rfl h19 rfl rfl) ⟨rfl, rfl, trivial⟩ ⟨rfl, trivial⟩ rfl rfl rfl (fun _ => rfl) fun _ => ?_
      refine HQ.done ?_
      refine HQ.keep [(0, _), (2, _), (3, _), (4, _), (8, _), (9, _), (10, _), (11, _), (14, _), (15, _), (16, _), (17, _), (18, _), (19, _), (20, _), (21, _)] ⟨rfl, rfl, rfl, rfl, rfl, rfl, rfl, rfl, rfl, rfl, rfl, rfl, rfl, rfl, rfl, rfl, trivial⟩ ?_
      refine HQ.blkN ?_
      refine HQ.thenN ?_
      refine HQ.regionQ ?_
      refine HQ.pu Pu.move ⟨rfl, trivial⟩ rfl rfl rfl ?_
      refine HQ.pu Pu.add ⟨rfl, rfl, trivial⟩ rfl rfl rfl ?_
      refine HQ.pu Pu.assign ⟨rfl, trivial⟩ rfl rfl rfl ?_
      refine HQ.done ?_
      refine HQ.keep [(0, _), (2, _), (3, _), (4, _), (8, _), (9, _), (10, _), (11, _), (14, _), (15, _), (16, _), (17, _), (18, _), (19, _), (20, _), (21, _), (12, _), (13, _)] ⟨rfl, rfl, rfl, rfl, rfl, rfl, rfl, rfl, rfl, rfl, rfl, rfl, rfl, rfl, rfl, rfl, rfl, rfl, trivial⟩ ?_
      refine HQ.re (v' := .slice a9 (List.length (List.set l8 (Int.toNat i11) t17)) c10) 3 rfl (by simp) ?_
      refine HQ.re (v' := .slice a9 (List.length (List.set l8 (Int.toNat i11) t17)) c10) 14 rfl (by simp) ?_
      obtain rfl := Option.some.inj H
      exact HQ.next (a9, c10) ⟨rfl, rfl, rfl, rfl, trivial⟩ ⟨rfl, trivial⟩ rfl
    · refine HQ.condF rfl hc ?_
      clear hc
      refine HQ.exit ?_
      refine HQ.thenE ?_
      obtain rfl := Option.some.inj H
      exact HQ.out (a9, c10) ⟨rfl, rfl, rfl, rfl, trivial⟩ ⟨rfl, trivial⟩ rfl
  · rintro ⟨l21, i24⟩ rfl ⟨a22, c23⟩
    clear h25
    replace H := H
    refine HQ.keep [(0, _), (2, _), (3, _), (4, _)] ⟨rfl, rfl, rfl, rfl, trivial⟩ ?_
    refine HQ.keepR [(1, _)] ⟨rfl, trivial⟩ rfl ?_
    refine HQ.blkE ?_
    refine HQ.thenN ?_
    refine HQ.rseq ?_
    refine HQ.pu Pu.move ⟨rfl, trivial⟩ rfl rfl rfl ?_
    refine HQ.pu Pu.assign ⟨rfl, trivial⟩ rfl rfl rfl ?_
    refine HQ.done ?_
    refine HQ.keep [(2, _)] ⟨rfl, trivial⟩ ?_
    refine HQ.ret ?_
    obtain rfl := Option.some.inj H
    exact HQ.fin (vs := [_]) Try.results51 (a22, c23) ⟨rfl, trivial⟩ rfl [1] ⟨rfl, trivial⟩ rfl
  · exact fun r h a w hf => hf.elim

/-! laws.toVac -/
theorem laws_toVac_c {w : World} {k : Nat} {p0 : TVac} {a_0 : Option Addr} {c_0 : Nat} {a_1 : Option Addr} {c_1 : Nat} {a_2 : Option Addr} {c_2 : Nat} {a_3 : Option Addr} {c_3 : Nat} {a_4 : Option Addr} {c_4 : Nat} (hb_0 : BorS kI a_0 c_0 p0.Todo w.heap (Lt w Nil)) (hb_1 : BorS kTItem a_1 c_1 p0.Run w.heap (Lt w Nil)) (hb_2 : BorS kTEntry a_2 c_2 p0.Row w.heap (Lt w Nil)) (hb_3 : BorS kTEntry a_3 c_3 p0.Next w.heap (Lt w Nil)) (hb_4 : BorS kI a_4 c_4 p0.Made w.heap (Lt w Nil)) {r : TVac} (H : laws_toVac k p0 = some r) :
    Calls Try.prog 27 #[.agg #[.int .i64 p0.Phase, .slice a_0 (List.length p0.Todo) c_0, .slice a_1 (List.length p0.Run) c_1, .slice a_2 (List.length p0.Row) c_2, .slice a_3 (List.length p0.Next) c_3, .slice a_4 (List.length p0.Made) c_4]] w (Rt w Nil (fun g : (Option Addr × Nat) × (Option Addr × Nat) × (Option Addr × Nat) × (Option Addr × Nat) × (Option Addr × Nat) => .agg #[.int .i64 r.Phase, .slice g.1.1 (List.length r.Todo) g.1.2, .slice g.2.1.1 (List.length r.Run) g.2.1.2, .slice g.2.2.1.1 (List.length r.Row) g.2.2.1.2, .slice g.2.2.2.1.1 (List.length r.Next) g.2.2.2.1.2, .slice g.2.2.2.2.1 (List.length r.Made) g.2.2.2.2.2]) (fun g => [OwnS kI g.1.1 g.1.2 r.Todo, OwnS kTItem g.2.1.1 g.2.1.2 r.Run, OwnS kTEntry g.2.2.1.1 g.2.2.1.2 r.Row, OwnS kTEntry g.2.2.2.1.1 g.2.2.2.1.2 r.Next, OwnS kI g.2.2.2.2.1 g.2.2.2.2.2 r.Made])) := by
  rw [laws_toVac] at H
  refine Calls.enter0 (N := 28) (us := [_]) Try.func27 rfl rfl rfl ?_
  refine HQ.rseq ?_
  refine HQ.op [] [1] (OT.box rfl) ⟨rfl, trivial⟩ trivial rfl rfl rfl rfl (fun _ => rfl) fun b1 => ?_
  refine HQ.op [] [2] (OT.alloc zc55) trivial trivial rfl rfl rfl rfl (fun _ => rfl) fun b2 => ?_
  refine HQ.done ?_
  refine HQ.keep [(1, _), (2, _)] ⟨rfl, rfl, trivial⟩ ?_
  refine HQ.rseq ?_
  refine HQ.op [] [3] (OT.alloc zc55) trivial trivial rfl rfl rfl rfl (fun _ => rfl) fun b3 => ?_
  refine HQ.done ?_
  refine HQ.keep [(1, _), (2, _), (3, _)] ⟨rfl, rfl, rfl, trivial⟩ ?_
  refine HQ.rseq ?_
  refine HQ.pu (Pu.fieldB fo49_0 rfl) ⟨rfl, trivial⟩ rfl rfl rfl ?_
  refine HQ.op [1] [1] (OT.loadB sc3 rfl) ⟨rfl, trivial⟩ ⟨rfl, trivial⟩ rfl rfl rfl rfl (fun _ => rfl) fun _ => ?_
  refine HQ.pu (Pu.fieldB fo55_0 rfl) ⟨rfl, trivial⟩ rfl rfl rfl ?_
  refine HQ.opN [3] [3] [] (OT.storeB sz3 rfl rfl rfl rfl) ⟨rfl, rfl, trivial⟩ ⟨rfl, trivial⟩ rfl rfl rfl (fun _ => rfl) fun _ => ?_
  refine HQ.done ?_
  refine HQ.keep [(1, _), (2, _), (3, _)] ⟨rfl, rfl, rfl, trivial⟩ ?_
  refine HQ.rseq ?_
  refine HQ.pu (Pu.fieldB fo49_1 rfl) ⟨rfl, trivial⟩ rfl rfl rfl ?_
  refine HQ.op [1] [1] (OT.loadB sc45 rfl) ⟨rfl, trivial⟩ ⟨rfl, trivial⟩ rfl rfl rfl rfl (fun _ => rfl) fun _ => ?_
  obtain ⟨t4, h5, H⟩ := bnd H
  refine HQ.op [] [4] (OT.call (us := [_]) (Pre := []) [.tmp 8] Try.call49 rfl rfl fun w F hs hF hp => laws_toIntS_c (hb_0.pass hp) h5) ⟨rfl, rfl, trivial⟩ trivial rfl rfl rfl rfl (fun _ => rfl) fun ⟨a6, c7⟩ => ?_
  refine HQ.pu (Pu.fieldB fo55_1 rfl) ⟨rfl, trivial⟩ rfl rfl rfl ?_
  refine HQ.opN [3] [3] [] (OT.storeB sz45 rfl rfl rfl rfl) ⟨rfl, rfl, trivial⟩ ⟨rfl, trivial⟩ rfl rfl rfl (fun _ => rfl) fun _ => ?_
  refine HQ.done ?_
  refine HQ.keep [(1, _), (2, _), (3, _)] ⟨rfl, rfl, rfl, trivial⟩ ?_
  refine HQ.rseq ?_
  refine HQ.pu (Pu.fieldB fo49_2 rfl) ⟨rfl, trivial⟩ rfl rfl rfl ?_
  refine HQ.op [1] [1] (OT.loadB sc46 rfl) ⟨rfl, trivial⟩ ⟨rfl, trivial⟩ rfl rfl rfl rfl (fun _ => rfl) fun _ => ?_
  obtain ⟨t8, h9, H⟩ := bnd H
  refine HQ.op [] [5] (OT.call (us := [_]) (Pre := []) [.tmp 12] Try.call50 rfl rfl fun w F hs hF hp => laws_toItemS_c (hb_1.pass hp) h9) ⟨rfl, rfl, trivial⟩ trivial rfl rfl rfl rfl (fun _ => rfl) fun ⟨a10, c11⟩ => ?_
  refine HQ.pu (Pu.fieldB fo55_2 rfl) ⟨rfl, trivial⟩ rfl rfl rfl ?_
  refine HQ.opN [3] [3] [] (OT.storeB sz52 rfl rfl rfl rfl) ⟨rfl, rfl, trivial⟩ ⟨rfl, trivial⟩ rfl rfl rfl (fun _ => rfl) fun _ => ?_
  refine HQ.done ?_
  refine HQ.keep [(1, _), (2, _), (3, _)] ⟨rfl, rfl, rfl, trivial⟩ ?_
  refine HQ.rseq ?_
  refine HQ.pu (Pu.fieldB fo49_3 rfl) ⟨rfl, trivial⟩ rfl rfl rfl ?_
  refine HQ.op [1] [1] (OT.loadB sc47 rfl) ⟨rfl, trivial⟩ ⟨rfl, trivial⟩ rfl rfl rfl rfl (fun _ => rfl) fun _ => ?_
  obtain ⟨t12, h13, H⟩ := bnd H
  refine HQ.op [] [6] (OT.call (us := [_]) (Pre := []) [.tmp 16] Try.call51 rfl rfl fun w F hs hF hp => laws_toEntryS_c (hb_2.pass hp) h13) ⟨rfl, rfl, trivial⟩ trivial rfl rfl rfl rfl (fun _ => rfl) fun ⟨a14, c15⟩ => ?_
  refine HQ.pu (Pu.fieldB fo55_3 rfl) ⟨rfl, trivial⟩ rfl rfl rfl ?_
  refine HQ.opN [3] [3] [] (OT.storeB sz53 rfl rfl rfl rfl) ⟨rfl, rfl, trivial⟩ ⟨rfl, trivial⟩ rfl rfl rfl (fun _ => rfl) fun _ => ?_
  refine HQ.done ?_
  refine HQ.keep [(1, _), (2, _), (3, _)] ⟨rfl, rfl, rfl, trivial⟩ ?_
  refine HQ.rseq ?_
  refine HQ.pu (Pu.fieldB fo49_4 rfl) ⟨rfl, trivial⟩ rfl rfl rfl ?_
  refine HQ.op [1] [1] (OT.loadB sc47 rfl) ⟨rfl, trivial⟩ ⟨rfl, trivial⟩ rfl rfl rfl rfl (fun _ => rfl) fun _ => ?_
  obtain ⟨t16, h17, H⟩ := bnd H
  refine HQ.op [] [7] (OT.call (us := [_]) (Pre := []) [.tmp 20] Try.call51 rfl rfl fun w F hs hF hp => laws_toEntryS_c (hb_3.pass hp) h17) ⟨rfl, rfl, trivial⟩ trivial rfl rfl rfl rfl (fun _ => rfl) fun ⟨a18, c19⟩ => ?_
  refine HQ.pu (Pu.fieldB fo55_4 rfl) ⟨rfl, trivial⟩ rfl rfl rfl ?_
  refine HQ.opN [3] [3] [] (OT.storeB sz53 rfl rfl rfl rfl) ⟨rfl, rfl, trivial⟩ ⟨rfl, trivial⟩ rfl rfl rfl (fun _ => rfl) fun _ => ?_
  refine HQ.done ?_
  refine HQ.keep [(1, _), (2, _), (3, _)] ⟨rfl, rfl, rfl, trivial⟩ ?_
  refine HQ.rseq ?_
  refine HQ.pu (Pu.fieldB fo49_5 rfl) ⟨rfl, trivial⟩ rfl rfl rfl ?_
  refine HQ.op [1] [1] (OT.loadB sc45 rfl) ⟨rfl, trivial⟩ ⟨rfl, trivial⟩ rfl rfl rfl rfl (fun _ => rfl) fun _ => ?_
  obtain ⟨t20, h21, H⟩ := bnd H
  refine HQ.op [] [8] (OT.call (us := [_]) (Pre := []) [.tmp 24] Try.call49 rfl rfl fun w F hs hF hp => laws_toIntS_c (hb_4.pass hp) h21) ⟨rfl, rfl, trivial⟩ trivial rfl rfl rfl rfl (fun _ => rfl) fun ⟨a22, c23⟩ => ?_
  refine HQ.pu (Pu.fieldB fo55_5 rfl) ⟨rfl, trivial⟩ rfl rfl rfl ?_
  refine HQ.opN [3] [3] [] (OT.storeB sz45 rfl rfl rfl rfl) ⟨rfl, rfl, trivial⟩ ⟨rfl, trivial⟩ rfl rfl rfl (fun _ => rfl) fun _ => ?_
  refine HQ.done ?_
  refine HQ.keep [(2, _), (3, _)] ⟨rfl, rfl, trivial⟩ ?_
  refine HQ.rseq ?_
  refine HQ.op [3] [3] (OT.loadBA ag55 sz55 rfl rfl) ⟨rfl, trivial⟩ ⟨rfl, trivial⟩ rfl rfl rfl rfl (fun _ => rfl) fun _ => ?_
  refine HQ.opN [2] [2] [] (OT.storeB sz55 rfl rfl rfl rfl) ⟨rfl, rfl, trivial⟩ ⟨rfl, trivial⟩ rfl rfl rfl (fun _ => rfl) fun _ => ?_
  refine HQ.done ?_
  refine HQ.keep [(2, _)] ⟨rfl, trivial⟩ ?_
  refine HQ.ret ?_
  obtain rfl := Option.some.inj H
  exact HQ.fin (vs := [_]) Try.results27 ((a6, c7), (a10, c11), (a14, c15), (a18, c19), (a22, c23)) ⟨⟨_, _, 2, rfl, rfl, ag55, sz55, rfl⟩, trivial⟩ rfl [4, 5, 6, 7, 8] ⟨rfl, rfl, rfl, rfl, rfl, trivial⟩ rfl

/-! spec.l1In -/
theorem spec_l1In_c {w : World} {p0 : Int} {p1 : Int} {p2 : Int}   {r : Bool} (H : spec_l1In p0 p1 p2 = some r) :
    Calls Try.prog 30 #[.int .i64 p0, .int .i64 p1, .int .i64 p2] w (Rt w Nil (fun _ : Unit => .bool r) (fun _ => [])) := by
  rw [spec_l1In] at H
  refine Calls.enter0 (N := 15) (us := [_, _, _]) Try.func30 rfl rfl rfl ?_
  refine HQ.rseq ?_
  refine HQ.pu Pu.assign ⟨rfl, trivial⟩ rfl rfl rfl ?_
  refine HQ.done ?_
  refine HQ.keep [(0, _), (1, _), (2, _), (6, _)] ⟨rfl, rfl, rfl, rfl, trivial⟩ ?_
  refine HQ.rseq ?_
  refine HQ.pu Pu.move ⟨rfl, trivial⟩ rfl rfl rfl ?_
  refine HQ.pu Pu.move ⟨rfl, trivial⟩ rfl rfl rfl ?_
  refine HQ.pu Pu.geq ⟨rfl, rfl, trivial⟩ rfl rfl rfl ?_
  refine HQ.pu Pu.move ⟨rfl, trivial⟩ rfl rfl rfl ?_
  refine HQ.cutAt 4 [(14, .bool ((decide (p0 ≥ p1)) && (decide (p0 ≤ p2)))), (6, .bool false)] [] ?_ ?_
  rcases Bool.eq_false_or_eq_true (decide (p0 ≥ p1)) with hg | hg
  · refine HQ.on rfl rfl hg ?_
    refine HQ.pu Pu.move ⟨rfl, trivial⟩ rfl rfl rfl ?_
    refine HQ.on rfl rfl hg ?_
    refine HQ.pu Pu.move ⟨rfl, trivial⟩ rfl rfl rfl ?_
    refine HQ.on rfl rfl hg ?_
    refine HQ.pu Pu.leq ⟨rfl, rfl, trivial⟩ rfl rfl rfl ?_
    refine HQ.pu (Pu.pickAT hg) ⟨rfl, rfl, trivial⟩ rfl rfl rfl ?_
    exact HQ.mid ⟨rfl, rfl, trivial⟩ trivial rfl
  · refine HQ.off rfl rfl hg rfl ?_
    refine HQ.off rfl rfl hg rfl ?_
    refine HQ.off rfl rfl hg rfl ?_
    refine HQ.pu (Pu.pickAF (u := (decide (p0 ≤ p2))) hg) ⟨rfl, rfl, trivial⟩ rfl rfl rfl ?_
    exact HQ.mid ⟨rfl, rfl, trivial⟩ trivial rfl
  refine HQ.pu Pu.assign ⟨rfl, trivial⟩ rfl rfl rfl ?_
  refine HQ.done ?_
  refine HQ.keep [(6, _)] ⟨rfl, trivial⟩ ?_
  refine HQ.ret ?_
  obtain rfl := Option.some.inj H
  exact HQ.fin (vs := [_]) Try.results30 () ⟨rfl, trivial⟩ rfl [] trivial rfl

/-! spec.Busy -/
theorem spec_Busy_c {w : World} {p0 : TVac} {a_0 : Option Addr} {c_0 : Nat} {a_1 : Option Addr} {c_1 : Nat} {a_2 : Option Addr} {c_2 : Nat} {a_3 : Option Addr} {c_3 : Nat} {a_4 : Option Addr} {c_4 : Nat} (hb_0 : BorS kI a_0 c_0 p0.Todo w.heap (Lt w Nil)) (hb_1 : BorS kTItem a_1 c_1 p0.Run w.heap (Lt w Nil)) (hb_2 : BorS kTEntry a_2 c_2 p0.Row w.heap (Lt w Nil)) (hb_3 : BorS kTEntry a_3 c_3 p0.Next w.heap (Lt w Nil)) (hb_4 : BorS kI a_4 c_4 p0.Made w.heap (Lt w Nil)) {r : Bool} (H : spec_Busy p0 = some r) :
    Calls Try.prog 26 #[.agg #[.int .i64 p0.Phase, .slice a_0 (List.length p0.Todo) c_0, .slice a_1 (List.length p0.Run) c_1, .slice a_2 (List.length p0.Row) c_2, .slice a_3 (List.length p0.Next) c_3, .slice a_4 (List.length p0.Made) c_4]] w (Rt w Nil (fun _ : Unit => .bool r) (fun _ => [])) := by
  rw [spec_Busy] at H
  refine Calls.enter0 (N := 6) (us := [_]) Try.func26 rfl rfl rfl ?_
  refine HQ.rseq ?_
  refine HQ.op [] [1] (OT.box rfl) ⟨rfl, trivial⟩ trivial rfl rfl rfl rfl (fun _ => rfl) fun b1 => ?_
  refine HQ.pu Pu.assign ⟨rfl, trivial⟩ rfl rfl rfl ?_
  refine HQ.done ?_
  refine HQ.keep [(1, _), (2, _)] ⟨rfl, rfl, trivial⟩ ?_
  refine HQ.rseq ?_
  refine HQ.pu (Pu.fieldB fo55_0 rfl) ⟨rfl, trivial⟩ rfl rfl rfl ?_
  refine HQ.op [1] [1] (OT.loadB sc3 rfl) ⟨rfl, trivial⟩ ⟨rfl, trivial⟩ rfl rfl rfl rfl (fun _ => rfl) fun _ => ?_
  obtain ⟨t2, h3, H⟩ := bnd H
  refine HQ.op [] [] (OT.call (us := [_, _, _]) (Pre := []) [.tmp 4, .const (.int .i64 1), .const (.int .i64 6)] Try.call30 rfl rfl fun w F hs hF hp => spec_l1In_c h3) ⟨rfl, rfl, rfl, rfl, trivial⟩ trivial rfl rfl rfl rfl (fun _ => rfl) fun _ => ?_
  refine HQ.pu Pu.assign ⟨rfl, trivial⟩ rfl rfl rfl ?_
  refine HQ.done ?_
  refine HQ.keep [(2, _)] ⟨rfl, trivial⟩ ?_
  refine HQ.ret ?_
  obtain rfl := Option.some.inj H
  exact HQ.fin (vs := [_]) Try.results26 () ⟨rfl, trivial⟩ rfl [] trivial rfl

/-! impl.in -/
theorem impl_in_c {w : World} {p0 : Int} {p1 : Int} {p2 : Int}   {r : Bool} (H : impl_in p0 p1 p2 = some r) :
    Calls Try.prog 31 #[.int .i64 p0, .int .i64 p1, .int .i64 p2] w (Rt w Nil (fun _ : Unit => .bool r) (fun _ => [])) := by
  rw [impl_in] at H
  refine Calls.enter0 (N := 15) (us := [_, _, _]) Try.func31 rfl rfl rfl ?_
  refine HQ.rseq ?_
  refine HQ.pu Pu.assign ⟨rfl, trivial⟩ rfl rfl rfl ?_
  refine HQ.done ?_
  refine HQ.keep [(0, _), (1, _), (2, _), (6, _)] ⟨rfl, rfl, rfl, rfl, trivial⟩ ?_
  refine HQ.rseq ?_
  refine HQ.pu Pu.move ⟨rfl, trivial⟩ rfl rfl rfl ?_
  refine HQ.pu Pu.move ⟨rfl, trivial⟩ rfl rfl rfl ?_
  refine HQ.pu Pu.leq ⟨rfl, rfl, trivial⟩ rfl rfl rfl ?_
  refine HQ.pu Pu.move ⟨rfl, trivial⟩ rfl rfl rfl ?_
  refine HQ.cutAt 4 [(14, .bool ((decide (p1 ≤ p0)) && (decide (p0 ≤ p2)))), (6, .bool false)] [] ?_ ?_
  rcases Bool.eq_false_or_eq_true (decide (p1 ≤ p0)) with hg | hg
  · refine HQ.on rfl rfl hg ?_
    refine HQ.pu Pu.move ⟨rfl, trivial⟩ rfl rfl rfl ?_
    refine HQ.on rfl rfl hg ?_
    refine HQ.pu Pu.move ⟨rfl, trivial⟩ rfl rfl rfl ?_
    refine HQ.on rfl rfl hg ?_
    refine HQ.pu Pu.leq ⟨rfl, rfl, trivial⟩ rfl rfl rfl ?_
    refine HQ.pu (Pu.pickAT hg) ⟨rfl, rfl, trivial⟩ rfl rfl rfl ?_
    exact HQ.mid ⟨rfl, rfl, trivial⟩ trivial rfl
  · refine HQ.off rfl rfl hg rfl ?_
    refine HQ.off rfl rfl hg rfl ?_
    refine HQ.off rfl rfl hg rfl ?_
    refine HQ.pu (Pu.pickAF (u := (decide (p0 ≤ p2))) hg) ⟨rfl, rfl, trivial⟩ rfl rfl rfl ?_
    exact HQ.mid ⟨rfl, rfl, trivial⟩ trivial rfl
  refine HQ.pu Pu.assign ⟨rfl, trivial⟩ rfl rfl rfl ?_
  refine HQ.done ?_
  refine HQ.keep [(6, _)] ⟨rfl, trivial⟩ ?_
  refine HQ.ret ?_
  obtain rfl := Option.some.inj H
  exact HQ.fin (vs := [_]) Try.results31 () ⟨rfl, trivial⟩ rfl [] trivial rfl

/-! impl.Busy -/
theorem impl_Busy_c {w : World} {p0 : TVac} {a_0 : Option Addr} {c_0 : Nat} {a_1 : Option Addr} {c_1 : Nat} {a_2 : Option Addr} {c_2 : Nat} {a_3 : Option Addr} {c_3 : Nat} {a_4 : Option Addr} {c_4 : Nat} (hb_0 : BorS kI a_0 c_0 p0.Todo w.heap (Lt w Nil)) (hb_1 : BorS kTItem a_1 c_1 p0.Run w.heap (Lt w Nil)) (hb_2 : BorS kTEntry a_2 c_2 p0.Row w.heap (Lt w Nil)) (hb_3 : BorS kTEntry a_3 c_3 p0.Next w.heap (Lt w Nil)) (hb_4 : BorS kI a_4 c_4 p0.Made w.heap (Lt w Nil)) {r : Bool} (H : impl_Busy p0 = some r) :
    Calls Try.prog 28 #[.agg #[.int .i64 p0.Phase, .slice a_0 (List.length p0.Todo) c_0, .slice a_1 (List.length p0.Run) c_1, .slice a_2 (List.length p0.Row) c_2, .slice a_3 (List.length p0.Next) c_3, .slice a_4 (List.length p0.Made) c_4]] w (Rt w Nil (fun _ : Unit => .bool r) (fun _ => [])) := by
  rw [impl_Busy] at H
  refine Calls.enter0 (N := 6) (us := [_]) Try.func28 rfl rfl rfl ?_
  refine HQ.rseq ?_
  refine HQ.op [] [1] (OT.box rfl) ⟨rfl, trivial⟩ trivial rfl rfl rfl rfl (fun _ => rfl) fun b1 => ?_
  refine HQ.pu Pu.assign ⟨rfl, trivial⟩ rfl rfl rfl ?_
  refine HQ.done ?_
  refine HQ.keep [(1, _), (2, _)] ⟨rfl, rfl, trivial⟩ ?_
  refine HQ.rseq ?_
  refine HQ.pu (Pu.fieldB fo55_0 rfl) ⟨rfl, trivial⟩ rfl rfl rfl ?_
  refine HQ.op [1] [1] (OT.loadB sc3 rfl) ⟨rfl, trivial⟩ ⟨rfl, trivial⟩ rfl rfl rfl rfl (fun _ => rfl) fun _ => ?_
  obtain ⟨t2, h3, H⟩ := bnd H
  refine HQ.op [] [] (OT.call (us := [_, _, _]) (Pre := []) [.tmp 4, .const (.int .i64 1), .const (.int .i64 6)] Try.call31 rfl rfl fun w F hs hF hp => impl_in_c h3) ⟨rfl, rfl, rfl, rfl, trivial⟩ trivial rfl rfl rfl rfl (fun _ => rfl) fun _ => ?_
  refine HQ.pu Pu.assign ⟨rfl, trivial⟩ rfl rfl rfl ?_
  refine HQ.done ?_
  refine HQ.keep [(2, _)] ⟨rfl, trivial⟩ ?_
  refine HQ.ret ?_
  obtain rfl := Option.some.inj H
  exact HQ.fin (vs := [_]) Try.results28 () ⟨rfl, trivial⟩ rfl [] trivial rfl

end Go.Proofs.Sx
