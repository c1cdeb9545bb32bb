import Derived.Test.YtgfhnepkpbmbcaaTF6
import Derived.KernelRfl
namespace Go.Proofs.Sx
open Go.RowKit
set_option linter.unusedVariables false
set_option linter.unusedSimpArgs false
set_option maxRecDepth 20000
set_option maxHeartbeats 1000000
/-! laws.eqChangeS -/
theorem laws_eqChangeS_c {w : World} {k : Nat} {p0 : (List TChange)} {p1 : (List TChange)} {a_0 : Option Addr} {c_0 : Nat} {a_1 : Option Addr} {c_1 : Nat} (hb_0 : BorS kTChange a_0 c_0 p0 w.heap (Lt w Nil)) (hb_1 : BorS kTChange a_1 c_1 p1 w.heap (Lt w Nil)) {r : Bool} (H : laws_eqChangeS k p0 p1 = some r) :
    Calls Try.prog 107 #[.slice a_0 (List.length p0) c_0, .slice a_1 (List.length p1) c_1] w (Rt w Nil (fun _ : Unit => .bool r) (fun _ => [])) := by
  rw [laws_eqChangeS] at H
  refine Calls.enter0 (N := 27) (us := [_, _]) Try.func107 rfl rfl rfl ?_
  refine HQ.rseq ?_
  refine HQ.pu Pu.assign ⟨rfl, trivial⟩ rfl rfl rfl ?_
  refine HQ.done ?_
  refine HQ.keep [(0, _), (1, _), (4, _)] ⟨rfl, rfl, rfl, trivial⟩ ?_
  refine HQ.seq ?_
  refine HQ.rseq ?_
  refine HQ.pu Pu.move ⟨rfl, trivial⟩ rfl rfl rfl ?_
  refine HQ.pu (Pu.len ul58) ⟨rfl, trivial⟩ rfl rfl rfl ?_
  refine HQ.pu Pu.move ⟨rfl, trivial⟩ rfl rfl rfl ?_
  refine HQ.pu (Pu.len ul58) ⟨rfl, trivial⟩ rfl rfl rfl ?_
  refine HQ.pu Pu.neq ⟨rfl, rfl, trivial⟩ rfl rfl rfl ?_
  refine HQ.done ?_
  refine HQ.keep [(0, _), (1, _), (4, _), (10, _)] ⟨rfl, rfl, rfl, rfl, trivial⟩ ?_
  rcases brk H with ⟨hc, H⟩ | ⟨hc, H⟩
  · refine HQ.condT rfl hc ?_
    clear hc
    refine HQ.rseq ?_
    refine HQ.pu Pu.assign ⟨rfl, trivial⟩ rfl rfl rfl ?_
    refine HQ.done ?_
    refine HQ.keep [(0, _), (1, _), (4, _)] ⟨rfl, rfl, rfl, trivial⟩ ?_
    refine HQ.ret ?_
    refine HQ.thenR ?_
    obtain rfl := Option.some.inj H
    exact HQ.fin (vs := [_]) Try.results107 () ⟨rfl, trivial⟩ rfl [] trivial rfl
  · refine HQ.condF rfl hc ?_
    clear hc
    refine HQ.skipThen ?_
    refine HQ.seq ?_
    refine HQ.rseq ?_
    refine HQ.pu Pu.assign ⟨rfl, trivial⟩ rfl rfl rfl ?_
    refine HQ.done ?_
    refine HQ.keep [(0, _), (1, _), (4, _), (5, _)] ⟨rfl, rfl, rfl, rfl, trivial⟩ ?_
    refine HQ.block ?_
    obtain ⟨o41, h43, H⟩ := bnd H
    refine HQ.loop h43 0 (fun (s : Int) (g : Unit) => match s, g with | i14, () => [(0, .slice a_0 (List.length p0) c_0), (1, .slice a_1 (List.length p1) c_1), (4, .bool false), (5, .int .i64 i14)]) (fun (s : Int) (g : Unit) => match s, g with | i14, () => []) (fun r => bodyPost Try.prog Try.f107 (Rt w Nil (fun _ : Unit => .bool r) (fun _ => [])) .ret) () ⟨rfl, rfl, rfl, rfl, trivial⟩ trivial rfl ?_ ?_ ?_
    · clear H h43
      rintro i14 _ o H
      rw [laws_eqChangeS_b0] at H
      refine HQ.keep [(0, _), (1, _), (4, _), (5, _)] ⟨rfl, rfl, rfl, rfl, trivial⟩ ?_
      refine HQ.keepR [] trivial rfl ?_
      refine HQ.seq ?_
      refine HQ.rseq ?_
      refine HQ.pu Pu.move ⟨rfl, trivial⟩ rfl rfl rfl ?_
      refine HQ.pu Pu.move ⟨rfl, trivial⟩ rfl rfl rfl ?_
      refine HQ.pu (Pu.len ul58) ⟨rfl, trivial⟩ rfl rfl rfl ?_
      refine HQ.pu Pu.lss ⟨rfl, rfl, trivial⟩ rfl rfl rfl ?_
      refine HQ.done ?_
      refine HQ.keep [(0, _), (1, _), (4, _), (5, _), (14, _)] ⟨rfl, rfl, rfl, rfl, rfl, trivial⟩ ?_
      rcases brk H with ⟨hc, H⟩ | ⟨hc, H⟩
      · refine HQ.condT rfl hc ?_
        clear hc
        refine HQ.skipThen ?_
        refine HQ.seq ?_
        refine HQ.block ?_
        obtain ⟨h29, H⟩ := asr H
        obtain ⟨h34, H⟩ := asr H
        obtain ⟨⟨a30, c31⟩, hb32, hn33⟩ := BorS.nest hb_0 h29
        obtain ⟨⟨a35, c36⟩, hb37, hn38⟩ := BorS.nest hb_1 h34
        refine HQ.drawS mixd [(0, .slice a_0 (List.length p0) c_0), (1, .slice a_1 (List.length p1) c_1), (4, .bool false), (5, .int .i64 i14)] 8 [⟨[], [], []⟩, ⟨[], [], []⟩, ⟨[], [], [0, 1]⟩, ⟨[], [], [2]⟩, ⟨[], [], []⟩, ⟨[], [], []⟩, ⟨[], [], [4, 5]⟩, ⟨[], [], [6]⟩] [] (fun (g28 : Unit) => [.slice a_0 (List.length p0) c_0, .int .i64 i14, EP a_0 i14 3 0, .agg #[.int .i64 ((gt p0 i14).Page), .bool ((gt p0 i14).N.Leaf), .slice a30 (List.length ((gt p0 i14).N.L)) c31], .slice a_1 (List.length p1) c_1, .int .i64 i14, EP a_1 i14 3 0, .agg #[.int .i64 ((gt p1 i14).Page), .bool ((gt p1 i14).N.Leaf), .slice a35 (List.length ((gt p1 i14).N.L)) c36]]) (fun (g28 : Unit) => []) () [] [] [] ⟨rfl, rfl, rfl, rfl, trivial⟩ trivial rfl (by kernel_rfl) (fun _ => rfl) (by kernel_rfl) (fun _ => rfl) ⟨?_, ?_, ?_, ?_, ?_, ?_, ?_, ?_, trivial⟩ fun g28 => ?_
        · exact OpOK.of (fun g28 => [(.tmp 0, .slice a_0 (List.length p0) c_0)]) _ _ (fun g28 _ => g28) rfl rfl (fun _ => ⟨rfl, trivial⟩) (fun g28 => Pu.toOT Pu.move) (fun _ _ => ⟨rfl, rfl, trivial⟩)
        · exact OpOK.of (fun g28 => [(.tmp 5, .int .i64 i14)]) _ _ (fun g28 _ => g28) rfl rfl (fun _ => ⟨rfl, trivial⟩) (fun g28 => Pu.toOT Pu.move) (fun _ _ => ⟨rfl, rfl, trivial⟩)
        · exact OpOK.of (fun g28 => [(.tmp 17, .slice a_0 (List.length p0) c_0), (.tmp 18, .int .i64 i14)]) _ _ (fun g28 _ => g28) rfl rfl (fun _ => ⟨rfl, rfl, trivial⟩) (fun g28 => OT.indexB ul58 sz81 hb_0 h29) (fun _ _ => ⟨rfl, rfl, trivial⟩)
        · exact OpOK.of (fun g28 => [(.tmp 19, EP a_0 i14 3 0)]) _ _ (fun g28 _ => g28) rfl rfl (fun _ => ⟨rfl, trivial⟩) (fun g28 => OT.loadNA (vs := [.int .i64 ((gt p0 i14).Page), .bool ((gt p0 i14).N.Leaf), .slice a30 (List.length ((gt p0 i14).N.L)) c31]) ag81 sz81 hn33 hlTChange rfl rfl) (fun _ _ => ⟨rfl, rfl, trivial⟩)
        · exact OpOK.of (fun g28 => [(.tmp 1, .slice a_1 (List.length p1) c_1)]) _ _ (fun g28 _ => g28) rfl rfl (fun _ => ⟨rfl, trivial⟩) (fun g28 => Pu.toOT Pu.move) (fun _ _ => ⟨rfl, rfl, trivial⟩)
        · exact OpOK.of (fun g28 => [(.tmp 5, .int .i64 i14)]) _ _ (fun g28 _ => g28) rfl rfl (fun _ => ⟨rfl, trivial⟩) (fun g28 => Pu.toOT Pu.move) (fun _ _ => ⟨rfl, rfl, trivial⟩)
        · exact OpOK.of (fun g28 => [(.tmp 21, .slice a_1 (List.length p1) c_1), (.tmp 22, .int .i64 i14)]) _ _ (fun g28 _ => g28) rfl rfl (fun _ => ⟨rfl, rfl, trivial⟩) (fun g28 => OT.indexB ul58 sz81 hb_1 h34) (fun _ _ => ⟨rfl, rfl, trivial⟩)
        · exact OpOK.of (fun g28 => [(.tmp 23, EP a_1 i14 3 0)]) _ _ (fun g28 _ => g28) rfl rfl (fun _ => ⟨rfl, trivial⟩) (fun g28 => OT.loadNA (vs := [.int .i64 ((gt p1 i14).Page), .bool ((gt p1 i14).N.Leaf), .slice a35 (List.length ((gt p1 i14).N.L)) c36]) ag81 sz81 hn38 hlTChange rfl rfl) (fun _ _ => ⟨rfl, rfl, trivial⟩)
        refine HQ.keep [(0, _), (1, _), (4, _), (5, _), (20, _), (24, _)] ⟨rfl, rfl, rfl, rfl, rfl, rfl, trivial⟩ ?_
        refine HQ.keepR [] trivial rfl ?_
        obtain ⟨t39, h40, H⟩ := bnd H
        refine HQ.op [] [] (OT.call (us := [_, _]) (Pre := []) [.tmp 20, .tmp 24] Try.call54 rfl rfl fun w F hs hF hp => laws_eqChange_c (hb32.pass hp) (hb37.pass hp) h40) ⟨rfl, rfl, rfl, trivial⟩ trivial rfl rfl rfl rfl (fun _ => rfl) fun _ => ?_
        refine HQ.pu Pu.not ⟨rfl, trivial⟩ rfl rfl rfl ?_
        refine HQ.done ?_
        refine HQ.keep [(0, _), (1, _), (4, _), (5, _), (26, _)] ⟨rfl, rfl, rfl, rfl, rfl, trivial⟩ ?_
        rcases brk H with ⟨hc, H⟩ | ⟨hc, H⟩
        · refine HQ.condT rfl hc ?_
          clear hc
          refine HQ.rseq ?_
          refine HQ.pu Pu.assign ⟨rfl, trivial⟩ rfl rfl rfl ?_
          refine HQ.done ?_
          refine HQ.keep [(0, _), (1, _), (4, _), (5, _)] ⟨rfl, rfl, rfl, rfl, trivial⟩ ?_
          refine HQ.ret ?_
          refine HQ.blkR ?_
          refine HQ.thenR ?_
          obtain rfl := Option.some.inj H
          refine HQ.retL ?_
          exact HQ.fin (vs := [_]) Try.results107 () ⟨rfl, trivial⟩ rfl [] trivial rfl
        · refine HQ.condF rfl hc ?_
          clear hc
          refine HQ.skip ?_
          refine HQ.blkN ?_
          refine HQ.thenN ?_
          refine HQ.regionQ ?_
          refine HQ.pu Pu.move ⟨rfl, trivial⟩ rfl rfl rfl ?_
          refine HQ.pu Pu.add ⟨rfl, rfl, trivial⟩ rfl rfl rfl ?_
          refine HQ.pu Pu.assign ⟨rfl, trivial⟩ rfl rfl rfl ?_
          refine HQ.done ?_
          refine HQ.keep [(0, _), (1, _), (4, _), (5, _)] ⟨rfl, rfl, rfl, rfl, trivial⟩ ?_
          obtain rfl := Option.some.inj H
          exact HQ.next () ⟨rfl, rfl, rfl, rfl, trivial⟩ trivial rfl
      · refine HQ.condF rfl hc ?_
        clear hc
        refine HQ.exit ?_
        refine HQ.thenE ?_
        obtain rfl := Option.some.inj H
        exact HQ.out () ⟨rfl, rfl, rfl, rfl, trivial⟩ trivial rfl
    · rintro i42 rfl _
      clear h43
      replace H := H
      refine HQ.keep [(0, _), (1, _), (4, _), (5, _)] ⟨rfl, rfl, rfl, rfl, trivial⟩ ?_
      refine HQ.keepR [] trivial rfl ?_
      refine HQ.blkE ?_
      refine HQ.thenN ?_
      refine HQ.rseq ?_
      refine HQ.pu Pu.assign ⟨rfl, trivial⟩ rfl rfl rfl ?_
      refine HQ.done ?_
      refine HQ.keep [(4, _)] ⟨rfl, trivial⟩ ?_
      refine HQ.ret ?_
      obtain rfl := Option.some.inj H
      exact HQ.fin (vs := [_]) Try.results107 () ⟨rfl, trivial⟩ rfl [] trivial rfl
    · rintro r rfl a w hr
      obtain rfl := Option.some.inj H
      exact hr

/-! laws.eqTx -/
theorem laws_eqTx_c {w : World} {k : Nat} {p0 : TTx} {p1 : TTx} {a_0 : Option Addr} {c_0 : Nat} {a_1 : Option Addr} {c_1 : Nat} (hb_0 : BorS kTChange a_0 c_0 p0.Puts w.heap (Lt w Nil)) (hb_1 : BorS kTChange a_1 c_1 p1.Puts w.heap (Lt w Nil)) {r : Bool} (H : laws_eqTx k p0 p1 = some r) :
    Calls Try.prog 40 #[.agg #[.int .i64 p0.Seq, .int .i64 p0.Root, .int .i64 p0.Size, .slice a_0 (List.length p0.Puts) c_0], .agg #[.int .i64 p1.Seq, .int .i64 p1.Root, .int .i64 p1.Size, .slice a_1 (List.length p1.Puts) c_1]] w (Rt w Nil (fun _ : Unit => .bool r) (fun _ => [])) := by
  rw [laws_eqTx] at H
  refine Calls.enter0 (N := 26) (us := [_, _]) Try.func40 rfl rfl rfl ?_
  refine HQ.rseq ?_
  refine HQ.op [] [1] (OT.box (cs := [.int .i64 p0.Seq, .int .i64 p0.Root, .int .i64 p0.Size, .slice a_0 (List.length p0.Puts) c_0]) rfl) ⟨rfl, trivial⟩ trivial rfl rfl rfl rfl (fun _ => rfl) fun b1 => ?_
  refine HQ.op [] [2] (OT.box (cs := [.int .i64 p1.Seq, .int .i64 p1.Root, .int .i64 p1.Size, .slice a_1 (List.length p1.Puts) c_1]) rfl) ⟨rfl, trivial⟩ trivial rfl rfl rfl rfl (fun _ => rfl) fun b2 => ?_
  refine HQ.pu Pu.assign ⟨rfl, trivial⟩ rfl rfl rfl ?_
  refine HQ.done ?_
  refine HQ.keep [(2, _), (3, _), (4, _)] ⟨rfl, rfl, rfl, trivial⟩ ?_
  refine HQ.seq ?_
  refine HQ.rseq ?_
  refine HQ.pu (Pu.fieldB fo60_0 rfl) ⟨rfl, trivial⟩ rfl rfl rfl ?_
  refine HQ.op [1] [1] (OT.loadB sc3 rfl) ⟨rfl, trivial⟩ ⟨rfl, trivial⟩ rfl rfl rfl rfl (fun _ => rfl) fun _ => ?_
  refine HQ.pu (Pu.fieldB fo60_0 rfl) ⟨rfl, trivial⟩ rfl rfl rfl ?_
  refine HQ.op [2] [2] (OT.loadB sc3 rfl) ⟨rfl, trivial⟩ ⟨rfl, trivial⟩ rfl rfl rfl rfl (fun _ => rfl) fun _ => ?_
  refine HQ.pu Pu.neq ⟨rfl, rfl, trivial⟩ rfl rfl rfl ?_
  refine HQ.done ?_
  refine HQ.keep [(2, _), (3, _), (4, _), (9, _)] ⟨rfl, rfl, rfl, rfl, trivial⟩ ?_
  rcases brk H with ⟨hc, H⟩ | ⟨hc, H⟩
  · refine HQ.condT rfl hc ?_
    clear hc
    refine HQ.rseq ?_
    refine HQ.pu Pu.assign ⟨rfl, trivial⟩ rfl rfl rfl ?_
    refine HQ.done ?_
    refine HQ.keep [(2, _), (3, _), (4, _)] ⟨rfl, rfl, rfl, trivial⟩ ?_
    refine HQ.ret ?_
    refine HQ.thenR ?_
    obtain rfl := Option.some.inj H
    exact HQ.fin (vs := [_]) Try.results40 () ⟨rfl, trivial⟩ rfl [] trivial rfl
  · refine HQ.condF rfl hc ?_
    clear hc
    refine HQ.skipThen ?_
    refine HQ.seq ?_
    refine HQ.rseq ?_
    refine HQ.pu (Pu.fieldB fo60_1 rfl) ⟨rfl, trivial⟩ rfl rfl rfl ?_
    refine HQ.op [1] [1] (OT.loadB sc3 rfl) ⟨rfl, trivial⟩ ⟨rfl, trivial⟩ rfl rfl rfl rfl (fun _ => rfl) fun _ => ?_
    refine HQ.pu (Pu.fieldB fo60_1 rfl) ⟨rfl, trivial⟩ rfl rfl rfl ?_
    refine HQ.op [2] [2] (OT.loadB sc3 rfl) ⟨rfl, trivial⟩ ⟨rfl, trivial⟩ rfl rfl rfl rfl (fun _ => rfl) fun _ => ?_
    refine HQ.pu Pu.neq ⟨rfl, rfl, trivial⟩ rfl rfl rfl ?_
    refine HQ.done ?_
    refine HQ.keep [(2, _), (3, _), (4, _), (14, _)] ⟨rfl, rfl, rfl, rfl, trivial⟩ ?_
    rcases brk H with ⟨hc, H⟩ | ⟨hc, H⟩
    · refine HQ.condT rfl hc ?_
      clear hc
      refine HQ.rseq ?_
      refine HQ.pu Pu.assign ⟨rfl, trivial⟩ rfl rfl rfl ?_
      refine HQ.done ?_
      refine HQ.keep [(2, _), (3, _), (4, _)] ⟨rfl, rfl, rfl, trivial⟩ ?_
      refine HQ.ret ?_
      refine HQ.thenR ?_
      obtain rfl := Option.some.inj H
      exact HQ.fin (vs := [_]) Try.results40 () ⟨rfl, trivial⟩ rfl [] trivial rfl
    · refine HQ.condF rfl hc ?_
      clear hc
      refine HQ.skipThen ?_
      refine HQ.seq ?_
      refine HQ.rseq ?_
      refine HQ.pu (Pu.fieldB fo60_2 rfl) ⟨rfl, trivial⟩ rfl rfl rfl ?_
      refine HQ.op [1] [1] (OT.loadB sc3 rfl) ⟨rfl, trivial⟩ ⟨rfl, trivial⟩ rfl rfl rfl rfl (fun _ => rfl) fun _ => ?_
      refine HQ.pu (Pu.fieldB fo60_2 rfl) ⟨rfl, trivial⟩ rfl rfl rfl ?_
      refine HQ.op [2] [2] (OT.loadB sc3 rfl) ⟨rfl, trivial⟩ ⟨rfl, trivial⟩ rfl rfl rfl rfl (fun _ => rfl) fun _ => ?_
      refine HQ.pu Pu.neq ⟨rfl, rfl, trivial⟩ rfl rfl rfl ?_
      refine HQ.done ?_
      refine HQ.keep [(2, _), (3, _), (4, _), (19, _)] ⟨rfl, rfl, rfl, rfl, trivial⟩ ?_
      rcases brk H with ⟨hc, H⟩ | ⟨hc, H⟩
      · refine HQ.condT rfl hc ?_
        clear hc
        refine HQ.rseq ?_
        refine HQ.pu Pu.assign ⟨rfl, trivial⟩ rfl rfl rfl ?_
        refine HQ.done ?_
        refine HQ.keep [(2, _), (3, _), (4, _)] ⟨rfl, rfl, rfl, trivial⟩ ?_
        refine HQ.ret ?_
        refine HQ.thenR ?_
        obtain rfl := Option.some.inj H
        exact HQ.fin (vs := [_]) Try.results40 () ⟨rfl, trivial⟩ rfl [] trivial rfl
      · refine HQ.condF rfl hc ?_
        clear hc
        refine HQ.skipThen ?_
        refine HQ.seq ?_
        refine HQ.rseq ?_
        refine HQ.pu (Pu.fieldB fo60_3 rfl) ⟨rfl, trivial⟩ rfl rfl rfl ?_
        refine HQ.op [1] [1] (OT.loadB sc58 rfl) ⟨rfl, trivial⟩ ⟨rfl, trivial⟩ rfl rfl rfl rfl (fun _ => rfl) fun _ => ?_
        refine HQ.pu (Pu.fieldB fo60_3 rfl) ⟨rfl, trivial⟩ rfl rfl rfl ?_
        refine HQ.op [2] [2] (OT.loadB sc58 rfl) ⟨rfl, trivial⟩ ⟨rfl, trivial⟩ rfl rfl rfl rfl (fun _ => rfl) fun _ => ?_
        obtain ⟨t3, h4, H⟩ := bnd H
        refine HQ.op [] [] (OT.call (us := [_, _]) (Pre := []) [.tmp 21, .tmp 23] Try.call107 rfl rfl fun w F hs hF hp => laws_eqChangeS_c (hb_0.pass hp) (hb_1.pass hp) h4) ⟨rfl, rfl, rfl, trivial⟩ trivial rfl rfl rfl rfl (fun _ => rfl) fun _ => ?_
        refine HQ.pu Pu.not ⟨rfl, trivial⟩ rfl rfl rfl ?_
        refine HQ.done ?_
        refine HQ.keep [(4, _), (25, _)] ⟨rfl, rfl, trivial⟩ ?_
        rcases brk H with ⟨hc, H⟩ | ⟨hc, H⟩
        · refine HQ.condT rfl hc ?_
          clear hc
          refine HQ.rseq ?_
          refine HQ.pu Pu.assign ⟨rfl, trivial⟩ rfl rfl rfl ?_
          refine HQ.done ?_
          refine HQ.keep [(4, _)] ⟨rfl, trivial⟩ ?_
          refine HQ.ret ?_
          refine HQ.thenR ?_
          obtain rfl := Option.some.inj H
          exact HQ.fin (vs := [_]) Try.results40 () ⟨rfl, trivial⟩ rfl [] trivial rfl
        · refine HQ.condF rfl hc ?_
          clear hc
          refine HQ.skipThen ?_
          refine HQ.rseq ?_
          refine HQ.pu Pu.assign ⟨rfl, trivial⟩ rfl rfl rfl ?_
          refine HQ.done ?_
          refine HQ.keep [(4, _)] ⟨rfl, trivial⟩ ?_
          refine HQ.ret ?_
          obtain rfl := Option.some.inj H
          exact HQ.fin (vs := [_]) Try.results40 () ⟨rfl, trivial⟩ rfl [] trivial rfl

/-! laws.markEntryS -/
theorem laws_markEntryS_c {w : World} {k : Nat} {p0 : (List TEntry)} {p1 : Int} {a_0 : Option Addr} {c_0 : Nat} {F0 : Fp} (hs0 : Sat [OwnS kTEntry a_0 c_0 p0] w.heap F0) (hF0 : ∀ b, F0 b → b < w.heap.size)  {r : Int × (List TEntry)} (H : laws_markEntryS k p0 p1 = some r) :
    Calls Try.prog 143 #[.slice a_0 (List.length p0) c_0, .int .i64 p1] w (Rt w F0 (fun _ : Unit => .int .i64 r.1) (fun _ => [OwnS kTEntry a_0 c_0 r.2])) := by
  rw [laws_markEntryS] at H
  refine Calls.enter (N := 52) (us := [_, _]) (F0 := F0) (Γ0 := [(1, OwnS kTEntry a_0 c_0 p0)]) Try.func143 rfl rfl rfl hs0 hF0 ?_
  refine HQ.rseq ?_
  refine HQ.pu Pu.assign ⟨rfl, trivial⟩ rfl rfl rfl ?_
  refine HQ.done ?_
  refine HQ.keep [(0, _), (1, _), (4, _)] ⟨rfl, rfl, rfl, trivial⟩ ?_
  refine HQ.seq ?_
  refine HQ.rseq ?_
  refine HQ.pu Pu.assign ⟨rfl, trivial⟩ rfl rfl rfl ?_
  refine HQ.done ?_
  refine HQ.keep [(0, _), (1, _), (4, _), (5, _)] ⟨rfl, rfl, rfl, rfl, trivial⟩ ?_
  refine HQ.block ?_
  obtain ⟨o64, h68, H⟩ := bnd H
  refine HQ.loop h68 0 (fun (s : (List TEntry) × Int × Int) (g : Unit) => match s, g with | (l21, i22, i23), () => [(0, .slice a_0 (List.length l21) c_0), (1, .int .i64 i22), (4, .int .i64 0), (5, .int .i64 i23)]) (fun (s : (List TEntry) × Int × Int) (g : Unit) => match s, g with | (l21, i22, i23), () => [(1, OwnS kTEntry a_0 c_0 l21)]) (fun _ _ _ => False) () ⟨rfl, rfl, rfl, rfl, trivial⟩ ⟨rfl, trivial⟩ rfl ?_ ?_ ?_
  · clear H h68
    rintro ⟨l21, i22, i23⟩ _ o H
    rw [laws_markEntryS_b0] at H
    refine HQ.keep [(0, _), (1, _), (4, _), (5, _)] ⟨rfl, rfl, rfl, rfl, trivial⟩ ?_
    refine HQ.keepR [(1, _)] ⟨rfl, trivial⟩ rfl ?_
    refine HQ.seq ?_
    refine HQ.rseq ?_
    refine HQ.pu Pu.move ⟨rfl, trivial⟩ rfl rfl rfl ?_
    refine HQ.pu Pu.move ⟨rfl, trivial⟩ rfl rfl rfl ?_
    refine HQ.pu (Pu.len ul77) ⟨rfl, trivial⟩ rfl rfl rfl ?_
    refine HQ.pu Pu.lss ⟨rfl, rfl, trivial⟩ rfl rfl rfl ?_
    refine HQ.done ?_
    refine HQ.keep [(0, _), (1, _), (4, _), (5, _), (9, _)] ⟨rfl, rfl, rfl, rfl, rfl, trivial⟩ ?_
    rcases brk H with ⟨hc, H⟩ | ⟨hc, H⟩
    · refine HQ.condT rfl hc ?_
      clear hc
      refine HQ.skipThen ?_
      refine HQ.seq ?_
      refine HQ.block ?_
      refine HQ.rseq ?_
      refine HQ.pu Pu.move ⟨rfl, trivial⟩ rfl rfl rfl ?_
      refine HQ.pu Pu.move ⟨rfl, trivial⟩ rfl rfl rfl ?_
      refine HQ.pu Pu.move ⟨rfl, trivial⟩ rfl rfl rfl ?_
      obtain ⟨h44, H⟩ := asr H
      refine HQ.op [1] [1] (OT.indexO ul77 sz196 h44) ⟨rfl, rfl, trivial⟩ ⟨rfl, trivial⟩ rfl rfl rfl rfl (fun _ => rfl) fun _ => ?_
      refine HQ.pu (Pu.fieldE fo196_0 rfl) ⟨rfl, trivial⟩ rfl rfl rfl ?_
      refine HQ.opN [1] [1] [] (OT.storeF (⟨i22, (gt l21 i23).R⟩ : TEntry) sz3 rfl rfl rfl h44 rfl rfl) ⟨rfl, rfl, trivial⟩ ⟨rfl, trivial⟩ rfl rfl rfl (fun _ => rfl) fun _ => ?_
      obtain ⟨l45, h46, H⟩ := bnd H
      replace h46 := Option.some.inj h46
      refine HQ.reR (B := OwnS kTEntry a_0 c_0 l45) 1 rfl (by intro _ _ hb; rw [← h46]; exact hb) ?_
      have h47 : List.length l45 = List.length l21 := by rw [← h46, List.length_set]
      refine HQ.re (v' := .slice a_0 (List.length l45) c_0) 0 rfl (by simp [h47]) ?_
      refine HQ.re (v' := .slice a_0 (List.length l45) c_0) 12 rfl (by simp [h47]) ?_
      refine HQ.done ?_
      refine HQ.keep [(0, _), (1, _), (4, _), (5, _)] ⟨rfl, rfl, rfl, rfl, trivial⟩ ?_
      refine HQ.rseq ?_
      refine HQ.pu Pu.move ⟨rfl, trivial⟩ rfl rfl rfl ?_
      refine HQ.pu Pu.add ⟨rfl, rfl, trivial⟩ rfl rfl rfl ?_
      refine HQ.pu Pu.assign ⟨rfl, trivial⟩ rfl rfl rfl ?_
      refine HQ.done ?_
      refine HQ.keep [(0, _), (1, _), (4, _), (5, _)] ⟨rfl, rfl, rfl, rfl, trivial⟩ ?_
      refine HQ.rseq ?_
      refine HQ.pu Pu.move ⟨rfl, trivial⟩ rfl rfl rfl ?_
      refine HQ.pu Pu.move ⟨rfl, trivial⟩ rfl rfl rfl ?_
      refine HQ.pu Pu.move ⟨rfl, trivial⟩ rfl rfl rfl ?_
      obtain ⟨h48, H⟩ := asr H
      refine HQ.op [1] [1] (OT.indexO ul77 sz196 h48) ⟨rfl, rfl, trivial⟩ ⟨rfl, trivial⟩ rfl rfl rfl rfl (fun _ => rfl) fun _ => ?_
      refine HQ.pu (Pu.fieldE fo196_1 rfl) ⟨rfl, trivial⟩ rfl rfl rfl ?_
      refine HQ.pu (Pu.fieldE fo194_0 rfl) ⟨rfl, trivial⟩ rfl rfl rfl ?_
      refine HQ.opN [1] [1] [] (OT.storeF (⟨(gt l45 i23).N, (⟨(wrap64 (i22 + 1)), (gt l45 i23).R.Y0, (gt l45 i23).R.X1, (gt l45 i23).R.Y1⟩ : TBox)⟩ : TEntry) sz3 rfl rfl rfl h48 rfl rfl) ⟨rfl, rfl, trivial⟩ ⟨rfl, trivial⟩ rfl rfl rfl (fun _ => rfl) fun _ => ?_
      obtain ⟨l49, h50, H⟩ := bnd H
      replace h50 := Option.some.inj h50
      refine HQ.reR (B := OwnS kTEntry a_0 c_0 l49) 1 rfl (by intro _ _ hb; rw [← h50]; exact hb) ?_
      have h51 : List.length l49 = List.length l45 := by rw [← h50, List.length_set]
      refine HQ.re (v' := .slice a_0 (List.length l49) c_0) 0 rfl (by simp [h47, h51]) ?_
      refine HQ.re (v' := .slice a_0 (List.length l49) c_0) 19 rfl (by simp [h47, h51]) ?_
      refine HQ.done ?_
      refine HQ.keep [(0, _), (1, _), (4, _), (5, _)] ⟨rfl, rfl, rfl, rfl, trivial⟩ ?_
      refine HQ.rseq ?_
      refine HQ.pu Pu.move ⟨rfl, trivial⟩ rfl rfl rfl ?_
      refine HQ.pu Pu.add ⟨rfl, rfl, trivial⟩ rfl rfl rfl ?_
      refine HQ.pu Pu.assign ⟨rfl, trivial⟩ rfl rfl rfl ?_
      refine HQ.done ?_
      refine HQ.keep [(0, _), (1, _), (4, _), (5, _)] ⟨rfl, rfl, rfl, rfl, trivial⟩ ?_
      refine HQ.rseq ?_
      refine HQ.pu Pu.move ⟨rfl, trivial⟩ rfl rfl rfl ?_
      refine HQ.pu Pu.move ⟨rfl, trivial⟩ rfl rfl rfl ?_
      refine HQ.pu Pu.move ⟨rfl, trivial⟩ rfl rfl rfl ?_
      obtain ⟨h52, H⟩ := asr H
      refine HQ.op [1] [1] (OT.indexO ul77 sz196 h52) ⟨rfl, rfl, trivial⟩ ⟨rfl, trivial⟩ rfl rfl rfl rfl (fun _ => rfl) fun _ => ?_
      refine HQ.pu (Pu.fieldE fo196_1 rfl) ⟨rfl, trivial⟩ rfl rfl rfl ?_
      refine HQ.pu (Pu.fieldE fo194_1 rfl) ⟨rfl, trivial⟩ rfl rfl rfl ?_
      refine HQ.opN [1] [1] [] (OT.storeF (⟨(gt l49 i23).N, (⟨(gt l49 i23).R.X0, (wrap64 ((wrap64 (i22 + 1)) + 1)), (gt l49 i23).R.X1, (gt l49 i23).R.Y1⟩ : TBox)⟩ : TEntry) sz3 rfl rfl rfl h52 rfl rfl) ⟨rfl, rfl, trivial⟩ ⟨rfl, trivial⟩ rfl rfl rfl (fun _ => rfl) fun _ => ?_
      obtain ⟨l53, h54, H⟩ := bnd H
      replace h54 := Option.some.inj h54
      refine HQ.reR (B := OwnS kTEntry a_0 c_0 l53) 1 rfl (by intro _ _ hb; rw [← h54]; exact hb) ?_
      have h55 : List.length l53 = List.length l49 := by rw [← h54, List.length_set]
      refine HQ.re (v' := .slice a_0 (List.length l53) c_0) 0 rfl (by simp [h47, h51, h55]) ?_
      refine HQ.re (v' := .slice a_0 (List.length l53) c_0) 27 rfl (by simp [h47, h51, h55]) ?_
      refine HQ.done ?_
      refine HQ.keep [(0, _), (1, _), (4, _), (5, _)] ⟨rfl, rfl, rfl, rfl, trivial⟩ ?_
      refine HQ.rseq ?_
      refine HQ.pu Pu.move ⟨rfl, trivial⟩ rfl rfl rfl ?_
      refine HQ.pu Pu.add ⟨rfl, rfl, trivial⟩ rfl rfl rfl ?_
      refine HQ.pu Pu.assign ⟨rfl, trivial⟩ rfl rfl rfl ?_
      refine HQ.done ?_
      refine HQ.keep [(0, _), (1, _), (4, _), (5, _)] ⟨rfl, rfl, rfl, rfl, trivial⟩ ?_
      refine HQ.rseq ?_
      refine HQ.pu Pu.move ⟨rfl, trivial⟩ rfl rfl rfl ?_
      refine HQ.pu Pu.move ⟨rfl, trivial⟩ rfl rfl rfl ?_
      refine HQ.pu Pu.move ⟨rfl, trivial⟩ rfl rfl rfl ?_
      obtain ⟨h56, H⟩ := asr H
      refine HQ.op [1] [1] (OT.indexO ul77 sz196 h56) ⟨rfl, rfl, trivial⟩ ⟨rfl, trivial⟩ rfl rfl rfl rfl (fun _ => rfl) fun _ => ?_
      refine HQ.pu (Pu.fieldE fo196_1 rfl) ⟨rfl, trivial⟩ rfl rfl rfl ?_
      refine HQ.pu (Pu.fieldE fo194_2 rfl) ⟨rfl, trivial⟩ rfl rfl rfl ?_
      refine HQ.opN [1] [1] [] (OT.storeF (⟨(gt l53 i23).N, (⟨(gt l53 i23).R.X0, (gt l53 i23).R.Y0, (wrap64 ((wrap64 ((wrap64 (i22 + 1)) + 1)) + 1)), (gt l53 i23).R.Y1⟩ : TBox)⟩ : TEntry) sz3 rfl rfl rfl h56 rfl rfl) ⟨rfl, rfl, trivial⟩ ⟨rfl, trivial⟩ rfl rfl rfl (fun _ => rfl) fun _ => ?_
      obtain ⟨l57, h58, H⟩ := bnd H
      replace h58 := Option.some.inj h58
      refine HQ.reR (B := OwnS kTEntry a_0 c_0 l57) 1 rfl (by intro _ _ hb; rw [← h58]; exact hb) ?_
      have h59 : List.length l57 = List.length l53 := by rw [← h58, List.length_set]
      refine HQ.re (v' := .slice a_0 (List.length l57) c_0) 0 rfl (by simp [h47, h51, h55, h59]) ?_
      refine HQ.re (v' := .slice a_0 (List.length l57) c_0) 35 rfl (by simp [h47, h51, h55, h59]) ?_
      refine HQ.done ?_
      refine HQ.keep [(0, _), (1, _), (4, _), (5, _)] ⟨rfl, rfl, rfl, rfl, trivial⟩ ?_
      refine HQ.rseq ?_
      refine HQ.pu Pu.move ⟨rfl, trivial⟩ rfl rfl rfl ?_
      refine HQ.pu Pu.add ⟨rfl, rfl, trivial⟩ rfl rfl rfl ?_
      refine HQ.pu Pu.assign ⟨rfl, trivial⟩ rfl rfl rfl ?_
      refine HQ.done ?_
      refine HQ.keep [(0, _), (1, _), (4, _), (5, _)] ⟨rfl, rfl, rfl, rfl, trivial⟩ ?_
      refine HQ.rseq ?_
      refine HQ.pu Pu.move ⟨rfl, trivial⟩ rfl rfl rfl ?_
      refine HQ.pu Pu.move ⟨rfl, trivial⟩ rfl rfl rfl ?_
      refine HQ.pu Pu.move ⟨rfl, trivial⟩ rfl rfl rfl ?_
      obtain ⟨h60, H⟩ := asr H
      refine HQ.op [1] [1] (OT.indexO ul77 sz196 h60) ⟨rfl, rfl, trivial⟩ ⟨rfl, trivial⟩ rfl rfl rfl rfl (fun _ => rfl) fun _ => ?_
      refine HQ.pu (Pu.fieldE fo196_1 rfl) ⟨rfl, trivial⟩ rfl rfl rfl ?_
      refine HQ.pu (Pu.fieldE fo194_3 rfl) ⟨rfl, trivial⟩ rfl rfl rfl ?_
      refine HQ.opN [1] [1] [] (OT.storeF (⟨(gt l57 i23).N, (⟨(gt l57 i23).R.X0, (gt l57 i23).R.Y0, (gt l57 i23).R.X1, (wrap64 ((wrap64 ((wrap64 ((wrap64 (i22 + 1)) + 1)) + 1)) + 1))⟩ : TBox)⟩ : TEntry) sz3 rfl rfl rfl h60 rfl rfl) ⟨rfl, rfl, trivial⟩ ⟨rfl, trivial⟩ rfl rfl rfl (fun _ => rfl) fun _ => ?_
      obtain ⟨l61, h62, H⟩ := bnd H
      replace h62 := Option.some.inj h62
      refine HQ.reR (B := OwnS kTEntry a_0 c_0 l61) 1 rfl (by intro _ _ hb; rw [← h62]; exact hb) ?_
      have h63 : List.length l61 = List.length l57 := by rw [← h62, List.length_set]
      refine HQ.re (v' := .slice a_0 (List.length l61) c_0) 0 rfl (by simp [h47, h51, h55, h59, h63]) ?_
      refine HQ.re (v' := .slice a_0 (List.length l61) c_0) 43 rfl (by simp [h47, h51, h55, h59, h63]) ?_
      refine HQ.done ?_
      refine HQ.keep [(0, _), (1, _), (4, _), (5, _)] ⟨rfl, rfl, rfl, rfl, trivial⟩ ?_
      refine HQ.regionQ ?_
      refine HQ.pu Pu.move ⟨rfl, trivial⟩ rfl rfl rfl ?_
      refine HQ.pu Pu.add ⟨rfl, rfl, trivial⟩ rfl rfl rfl ?_
      refine HQ.pu Pu.assign ⟨rfl, trivial⟩ rfl rfl rfl ?_
      refine HQ.done ?_
      refine HQ.keep [(0, _), (1, _), (4, _), (5, _)] ⟨rfl, rfl, rfl, rfl, trivial⟩ ?_
      refine HQ.blkN ?_
      refine HQ.thenN ?_
      refine HQ.regionQ ?_
      refine HQ.pu Pu.move ⟨rfl, trivial⟩ rfl rfl rfl ?_
      refine HQ.pu Pu.add ⟨rfl, rfl, trivial⟩ rfl rfl rfl ?_
      refine HQ.pu Pu.assign ⟨rfl, trivial⟩ rfl rfl rfl ?_
      refine HQ.done ?_
      refine HQ.keep [(0, _), (1, _), (4, _), (5, _)] ⟨rfl, rfl, rfl, rfl, trivial⟩ ?_
      obtain rfl := Option.some.inj H
      exact HQ.next () ⟨rfl, rfl, rfl, rfl, trivial⟩ ⟨rfl, trivial⟩ rfl
    · refine HQ.condF rfl hc ?_
      clear hc
      refine HQ.exit ?_
      refine HQ.thenE ?_
      obtain rfl := Option.some.inj H
      exact HQ.out () ⟨rfl, rfl, rfl, rfl, trivial⟩ ⟨rfl, trivial⟩ rfl
  · rintro ⟨l65, i66, i67⟩ rfl _
    clear h68
    replace H := H
    refine HQ.keep [(0, _), (1, _), (4, _), (5, _)] ⟨rfl, rfl, rfl, rfl, trivial⟩ ?_
    refine HQ.keepR [(1, _)] ⟨rfl, trivial⟩ rfl ?_
    refine HQ.blkE ?_
    refine HQ.thenN ?_
    refine HQ.rseq ?_
    refine HQ.pu Pu.move ⟨rfl, trivial⟩ rfl rfl rfl ?_
    refine HQ.pu Pu.assign ⟨rfl, trivial⟩ rfl rfl rfl ?_
    refine HQ.done ?_
    refine HQ.keep [(4, _)] ⟨rfl, trivial⟩ ?_
    refine HQ.ret ?_
    obtain rfl := Option.some.inj H
    exact HQ.fin (vs := [_]) Try.results143 () ⟨rfl, trivial⟩ rfl [1] ⟨rfl, trivial⟩ rfl
  · exact fun r h a w hf => hf.elim

/-! laws.markChangeS -/
theorem laws_markChangeS_c {w : World} {k : Nat} {p0 : (List TChange)} {p1 : Int} {a_0 : Option Addr} {c_0 : Nat} {F0 : Fp} (hs0 : Sat [OwnS kTChange a_0 c_0 p0] w.heap F0) (hF0 : ∀ b, F0 b → b < w.heap.size)  {r : Int × (List TChange)} (H : laws_markChangeS k p0 p1 = some r) :
    Calls Try.prog 80 #[.slice a_0 (List.length p0) c_0, .int .i64 p1] w (Rt w F0 (fun _ : Unit => .int .i64 r.1) (fun _ => [OwnS kTChange a_0 c_0 r.2])) := by
  rw [laws_markChangeS] at H
  refine Calls.enter (N := 38) (us := [_, _]) (F0 := F0) (Γ0 := [(1, OwnS kTChange a_0 c_0 p0)]) Try.func80 rfl rfl rfl hs0 hF0 ?_
  refine HQ.rseq ?_
  refine HQ.pu Pu.assign ⟨rfl, trivial⟩ rfl rfl rfl ?_
  refine HQ.done ?_
  refine HQ.keep [(0, _), (1, _), (4, _)] ⟨rfl, rfl, rfl, trivial⟩ ?_
  refine HQ.seq ?_
  refine HQ.rseq ?_
  refine HQ.pu Pu.assign ⟨rfl, trivial⟩ rfl rfl rfl ?_
  refine HQ.done ?_
  refine HQ.keep [(0, _), (1, _), (4, _), (5, _)] ⟨rfl, rfl, rfl, rfl, trivial⟩ ?_
  refine HQ.block ?_
  obtain ⟨o46, h50, H⟩ := bnd H
  refine HQ.loop h50 0 (fun (s : (List TChange) × Int × Int) (g : Unit) => match s, g with | (l15, i16, i17), () => [(0, .slice a_0 (List.length l15) c_0), (1, .int .i64 i16), (4, .int .i64 0), (5, .int .i64 i17)]) (fun (s : (List TChange) × Int × Int) (g : Unit) => match s, g with | (l15, i16, i17), () => [(1, OwnS kTChange a_0 c_0 l15)]) (fun _ _ _ => False) () ⟨rfl, rfl, rfl, rfl, trivial⟩ ⟨rfl, trivial⟩ rfl ?_ ?_ ?_
  · clear H h50
    rintro ⟨l15, i16, i17⟩ _ o H
    rw [laws_markChangeS_b0] at H
    refine HQ.keep [(0, _), (1, _), (4, _), (5, _)] ⟨rfl, rfl, rfl, rfl, trivial⟩ ?_
    refine HQ.keepR [(1, _)] ⟨rfl, trivial⟩ rfl ?_
    refine HQ.seq ?_
    refine HQ.rseq ?_
    refine HQ.pu Pu.move ⟨rfl, trivial⟩ rfl rfl rfl ?_
    refine HQ.pu Pu.move ⟨rfl, trivial⟩ rfl rfl rfl ?_
    refine HQ.pu (Pu.len ul58) ⟨rfl, trivial⟩ rfl rfl rfl ?_
    refine HQ.pu Pu.lss ⟨rfl, rfl, trivial⟩ rfl rfl rfl ?_
    refine HQ.done ?_
    refine HQ.keep [(0, _), (1, _), (4, _), (5, _), (9, _)] ⟨rfl, rfl, rfl, rfl, rfl, trivial⟩ ?_
    rcases brk H with ⟨hc, H⟩ | ⟨hc, H⟩
    · refine HQ.condT rfl hc ?_
      clear hc
      refine HQ.skipThen ?_
      refine HQ.seq ?_
      refine HQ.block ?_
      refine HQ.rseq ?_
      refine HQ.pu Pu.move ⟨rfl, trivial⟩ rfl rfl rfl ?_
      refine HQ.pu Pu.move ⟨rfl, trivial⟩ rfl rfl rfl ?_
      refine HQ.pu Pu.move ⟨rfl, trivial⟩ rfl rfl rfl ?_
      obtain ⟨h32, H⟩ := asr H
      refine HQ.op [1] [1] (OT.indexO ul58 sz81 h32) ⟨rfl, rfl, trivial⟩ ⟨rfl, trivial⟩ rfl rfl rfl rfl (fun _ => rfl) fun _ => ?_
      refine HQ.pu (Pu.fieldE fo81_0 rfl) ⟨rfl, trivial⟩ rfl rfl rfl ?_
      refine HQ.opN [1] [1] [] (OT.storeO (⟨i16, (gt l15 i17).N⟩ : TChange) sz3 rfl rfl rfl h32 rfl (fun _ => rfl) rfl) ⟨rfl, rfl, trivial⟩ ⟨rfl, trivial⟩ rfl rfl rfl (fun _ => rfl) fun _ => ?_
      obtain ⟨l33, h34, H⟩ := bnd H
      replace h34 := Option.some.inj h34
      refine HQ.reR (B := OwnS kTChange a_0 c_0 l33) 1 rfl (by intro _ _ hb; rw [← h34]; exact hb) ?_
      have h35 : List.length l33 = List.length l15 := by rw [← h34, List.length_set]
      refine HQ.re (v' := .slice a_0 (List.length l33) c_0) 0 rfl (by simp [h35]) ?_
      refine HQ.re (v' := .slice a_0 (List.length l33) c_0) 12 rfl (by simp [h35]) ?_
      refine HQ.done ?_
      refine HQ.keep [(0, _), (1, _), (4, _), (5, _)] ⟨rfl, rfl, rfl, rfl, trivial⟩ ?_
      refine HQ.rseq ?_
      refine HQ.pu Pu.move ⟨rfl, trivial⟩ rfl rfl rfl ?_
      refine HQ.pu Pu.add ⟨rfl, rfl, trivial⟩ rfl rfl rfl ?_
      refine HQ.pu Pu.assign ⟨rfl, trivial⟩ rfl rfl rfl ?_
      refine HQ.done ?_
      refine HQ.keep [(0, _), (1, _), (4, _), (5, _)] ⟨rfl, rfl, rfl, rfl, trivial⟩ ?_
      refine HQ.rseq ?_
      refine HQ.pu Pu.move ⟨rfl, trivial⟩ rfl rfl rfl ?_
      refine HQ.pu Pu.move ⟨rfl, trivial⟩ rfl rfl rfl ?_
      refine HQ.pu Pu.move ⟨rfl, trivial⟩ rfl rfl rfl ?_
      refine HQ.pu (Pu.rem (by decide)) ⟨rfl, rfl, trivial⟩ rfl rfl rfl ?_
      refine HQ.pu Pu.eql ⟨rfl, rfl, trivial⟩ rfl rfl rfl ?_
      obtain ⟨h36, H⟩ := asr H
      refine HQ.op [1] [1] (OT.indexO ul58 sz81 h36) ⟨rfl, rfl, trivial⟩ ⟨rfl, trivial⟩ rfl rfl rfl rfl (fun _ => rfl) fun _ => ?_
      refine HQ.pu (Pu.fieldE fo81_1 rfl) ⟨rfl, trivial⟩ rfl rfl rfl ?_
      refine HQ.pu (Pu.fieldE fo79_0 rfl) ⟨rfl, trivial⟩ rfl rfl rfl ?_
      refine HQ.opN [1] [1] [] (OT.storeO (⟨(gt l33 i17).Page, (⟨(decide ((Int.tmod (wrap64 (i16 + 1)) 3) = 0)), (gt l33 i17).N.L⟩ : TNode)⟩ : TChange) sz4 rfl rfl rfl h36 rfl (fun _ => rfl) rfl) ⟨rfl, rfl, trivial⟩ ⟨rfl, trivial⟩ rfl rfl rfl (fun _ => rfl) fun _ => ?_
      obtain ⟨l37, h38, H⟩ := bnd H
      replace h38 := Option.some.inj h38
      refine HQ.reR (B := OwnS kTChange a_0 c_0 l37) 1 rfl (by intro _ _ hb; rw [← h38]; exact hb) ?_
      have h39 : List.length l37 = List.length l33 := by rw [← h38, List.length_set]
      refine HQ.re (v' := .slice a_0 (List.length l37) c_0) 0 rfl (by simp [h35, h39]) ?_
      refine HQ.re (v' := .slice a_0 (List.length l37) c_0) 19 rfl (by simp [h35, h39]) ?_
      refine HQ.done ?_
      refine HQ.keep [(0, _), (1, _), (4, _), (5, _)] ⟨rfl, rfl, rfl, rfl, trivial⟩ ?_
      refine HQ.rseq ?_
      refine HQ.pu Pu.move ⟨rfl, trivial⟩ rfl rfl rfl ?_
      refine HQ.pu Pu.add ⟨rfl, rfl, trivial⟩ rfl rfl rfl ?_
      refine HQ.pu Pu.assign ⟨rfl, trivial⟩ rfl rfl rfl ?_
      refine HQ.done ?_
      refine HQ.keep [(0, _), (1, _), (4, _), (5, _)] ⟨rfl, rfl, rfl, rfl, trivial⟩ ?_
      refine HQ.regionQ ?_
      refine HQ.pu Pu.move ⟨rfl, trivial⟩ rfl rfl rfl ?_
      refine HQ.pu Pu.move ⟨rfl, trivial⟩ rfl rfl rfl ?_
      obtain ⟨h40, H⟩ := asr H
      refine HQ.op [1] [1] (OT.indexO ul58 sz81 h40) ⟨rfl, rfl, trivial⟩ ⟨rfl, trivial⟩ rfl rfl rfl rfl (fun _ => rfl) fun _ => ?_
      refine HQ.pu (Pu.fieldE fo81_1 rfl) ⟨rfl, trivial⟩ rfl rfl rfl ?_
      refine HQ.pu (Pu.fieldE fo79_1 rfl) ⟨rfl, trivial⟩ rfl rfl rfl ?_
      refine HQ.op [1] [1, 4] (OT.focus (v := fun a41 c42 => .slice a41 (List.length ((gt l37 i17).N.L)) c42) (fun x ys => (⟨x.Page, (⟨x.N.Leaf, ys⟩ : TNode)⟩ : TChange)) sc77 h40 (fun _ _ => rfl) (fun _ _ _ => rfl) (fun _ _ => rfl)) ⟨rfl, trivial⟩ ⟨rfl, trivial⟩ rfl rfl rfl rfl (fun _ => rfl) fun ⟨a41, c42⟩ => ?_
      refine HQ.pu Pu.move ⟨rfl, trivial⟩ rfl rfl rfl ?_
      obtain ⟨t43, h44, H⟩ := bnd H
      obtain ⟨h45, H⟩ := asr H
      refine HQ.op [4] [4] (OT.callM (us := [_, _]) (PreX := [OwnS kTEntry a41 c42 ((gt l37 i17).N.L)]) (PreL := []) [.tmp 34, .tmp 35] Try.call143 rfl rfl fun w FX FL hs1 hF1 hs2 hF2 hp => laws_markEntryS_c hs1 hF1 h44) ⟨rfl, rfl, rfl, trivial⟩ ⟨rfl, trivial⟩ rfl rfl rfl rfl (fun _ => rfl) fun _ => ?_
      refine HQ.re (v' := .slice a41 (List.length t43.2) c42) 34 rfl (by simp [h35, h39, h45]) ?_
      refine HQ.pu Pu.assign ⟨rfl, trivial⟩ rfl rfl rfl ?_
      refine HQ.done ?_
      refine HQ.keep [(0, _), (1, _), (4, _), (5, _)] ⟨rfl, rfl, rfl, rfl, trivial⟩ ?_
      refine HQ.blkN ?_
      refine HQ.thenN ?_
      refine HQ.regionQ ?_
      refine HQ.pu Pu.move ⟨rfl, trivial⟩ rfl rfl rfl ?_
      refine HQ.pu Pu.add ⟨rfl, rfl, trivial⟩ rfl rfl rfl ?_
      refine HQ.pu Pu.assign ⟨rfl, trivial⟩ rfl rfl rfl ?_
      refine HQ.done ?_
      refine HQ.keep [(0, _), (1, _), (4, _), (5, _)] ⟨rfl, rfl, rfl, rfl, trivial⟩ ?_
      refine HQ.unfocus (xs' := (List.set l37 (Int.toNat i17) (⟨(gt l37 i17).Page, (⟨(gt l37 i17).N.Leaf, t43.2⟩ : TNode)⟩ : TChange))) 1 4 rfl rfl rfl (by simp [h35, h39, h45]) rfl ?_
      refine HQ.re (v' := .slice a_0 (List.length (List.set l37 (Int.toNat i17) (⟨(gt l37 i17).Page, (⟨(gt l37 i17).N.Leaf, t43.2⟩ : TNode)⟩ : TChange))) c_0) 0 rfl (by simp [h35, h39, h45]) ?_
      obtain rfl := Option.some.inj H
      exact HQ.next () ⟨rfl, rfl, rfl, rfl, trivial⟩ ⟨rfl, trivial⟩ rfl
    · refine HQ.condF rfl hc ?_
      clear hc
      refine HQ.exit ?_
      refine HQ.thenE ?_
      obtain rfl := Option.some.inj H
      exact HQ.out () ⟨rfl, rfl, rfl, rfl, trivial⟩ ⟨rfl, trivial⟩ rfl
  · rintro ⟨l47, i48, i49⟩ rfl _
    clear h50
    replace H := H
    refine HQ.keep [(0, _), (1, _), (4, _), (5, _)] ⟨rfl, rfl, rfl, rfl, trivial⟩ ?_
    refine HQ.keepR [(1, _)] ⟨rfl, trivial⟩ rfl ?_
    refine HQ.blkE ?_
    refine HQ.thenN ?_
    refine HQ.rseq ?_
    refine HQ.pu Pu.move ⟨rfl, trivial⟩ rfl rfl rfl ?_
    refine HQ.pu Pu.assign ⟨rfl, trivial⟩ rfl rfl rfl ?_
    refine HQ.done ?_
    refine HQ.keep [(4, _)] ⟨rfl, trivial⟩ ?_
    refine HQ.ret ?_
    obtain rfl := Option.some.inj H
    exact HQ.fin (vs := [_]) Try.results80 () ⟨rfl, trivial⟩ rfl [1] ⟨rfl, trivial⟩ rfl
  · exact fun r h a w hf => hf.elim

/-! laws.markTx -/
theorem laws_markTx_c {w : World} {k : Nat} {p0 : TTx} {p1 : Int} {a_0 : Option Addr} {c_0 : Nat} {F0 : Fp} (hs0 : Sat [OwnS kTChange a_0 c_0 p0.Puts] w.heap F0) (hF0 : ∀ b, F0 b → b < w.heap.size)  {r : Int × (List TChange)} (H : laws_markTx k p0 p1 = some r) :
    Calls Try.prog 41 #[.agg #[.int .i64 p0.Seq, .int .i64 p0.Root, .int .i64 p0.Size, .slice a_0 (List.length p0.Puts) c_0], .int .i64 p1] w (Rt w F0 (fun _ : Unit => .int .i64 r.1) (fun _ => [OwnS kTChange a_0 c_0 r.2])) := by
  rw [laws_markTx] at H
  refine Calls.enter (N := 10) (us := [_, _]) (F0 := F0) (Γ0 := [(1, OwnS kTChange a_0 c_0 p0.Puts)]) Try.func41 rfl rfl rfl hs0 hF0 ?_
  refine HQ.rseq ?_
  refine HQ.op [] [2] (OT.box (cs := [.int .i64 p0.Seq, .int .i64 p0.Root, .int .i64 p0.Size, .slice a_0 (List.length p0.Puts) c_0]) rfl) ⟨rfl, trivial⟩ trivial rfl rfl rfl rfl (fun _ => rfl) fun b1 => ?_
  refine HQ.pu Pu.assign ⟨rfl, trivial⟩ rfl rfl rfl ?_
  refine HQ.done ?_
  refine HQ.keep [(1, _), (2, _), (4, _)] ⟨rfl, rfl, rfl, trivial⟩ ?_
  refine HQ.rseq ?_
  refine HQ.pu (Pu.fieldB fo60_3 rfl) ⟨rfl, trivial⟩ rfl rfl rfl ?_
  refine HQ.op [2] [2] (OT.loadB sc58 rfl) ⟨rfl, trivial⟩ ⟨rfl, trivial⟩ rfl rfl rfl rfl (fun _ => rfl) fun _ => ?_
  refine HQ.pu Pu.move ⟨rfl, trivial⟩ rfl rfl rfl ?_
  obtain ⟨t2, h3, H⟩ := bnd H
  obtain ⟨h4, H⟩ := asr H
  refine HQ.op [1] [1] (OT.callM (us := [_, _]) (PreX := [OwnS kTChange a_0 c_0 p0.Puts]) (PreL := []) [.tmp 6, .tmp 7] Try.call80 rfl rfl fun w FX FL hs1 hF1 hs2 hF2 hp => laws_markChangeS_c hs1 hF1 h3) ⟨rfl, rfl, rfl, trivial⟩ ⟨rfl, trivial⟩ rfl rfl rfl rfl (fun _ => rfl) fun _ => ?_
  refine HQ.re (v' := .slice a_0 (List.length t2.2) c_0) 6 rfl (by simp [h4]) ?_
  refine HQ.reR (B := Box b1 [.int .i64 p0.Seq, .int .i64 p0.Root, .int .i64 p0.Size, .slice a_0 (List.length t2.2) c_0]) 2 rfl (fun _ _ hb => by rw [show List.length t2.2 = List.length p0.Puts from (by simp [h4])]; exact hb) ?_
  refine HQ.pu Pu.assign ⟨rfl, trivial⟩ rfl rfl rfl ?_
  refine HQ.done ?_
  refine HQ.keep [(1, _), (4, _)] ⟨rfl, rfl, trivial⟩ ?_
  refine HQ.rseq ?_
  refine HQ.pu Pu.move ⟨rfl, trivial⟩ rfl rfl rfl ?_
  refine HQ.pu Pu.assign ⟨rfl, trivial⟩ rfl rfl rfl ?_
  refine HQ.done ?_
  refine HQ.keep [(4, _)] ⟨rfl, trivial⟩ ?_
  refine HQ.ret ?_
  obtain rfl := Option.some.inj H
  exact HQ.fin (vs := [_]) Try.results41 () ⟨rfl, trivial⟩ rfl [1] ⟨rfl, trivial⟩ rfl

/-! laws.markByteS -/
theorem laws_markByteS_c {w : World} {k : Nat} {p0 : (List Int)} {p1 : Int} {a_0 : Option Addr} {c_0 : Nat} {F0 : Fp} (hs0 : Sat [OwnS kU8 a_0 c_0 p0] w.heap F0) (hF0 : ∀ b, F0 b → b < w.heap.size)  {r : Int × (List Int)} (H : laws_markByteS k p0 p1 = some r) :
    Calls Try.prog 32 #[.slice a_0 (List.length p0) c_0, .int .i64 p1] w (Rt w F0 (fun _ : Unit => .int .i64 r.1) (fun _ => [OwnS kU8 a_0 c_0 r.2])) := by
  rw [laws_markByteS] at H
  refine Calls.enter (N := 20) (us := [_, _]) (F0 := F0) (Γ0 := [(1, OwnS kU8 a_0 c_0 p0)]) Try.func32 rfl rfl rfl hs0 hF0 ?_
  refine HQ.rseq ?_
  refine HQ.pu Pu.assign ⟨rfl, trivial⟩ rfl rfl rfl ?_
  refine HQ.done ?_
  refine HQ.keep [(0, _), (1, _), (4, _)] ⟨rfl, rfl, rfl, trivial⟩ ?_
  refine HQ.seq ?_
  refine HQ.rseq ?_
  refine HQ.pu Pu.assign ⟨rfl, trivial⟩ rfl rfl rfl ?_
  refine HQ.done ?_
  refine HQ.keep [(0, _), (1, _), (4, _), (5, _)] ⟨rfl, rfl, rfl, rfl, trivial⟩ ?_
  refine HQ.block ?_
  obtain ⟨o16, h20, H⟩ := bnd H
  refine HQ.loop h20 0 (fun (s : (List Int) × Int × Int) (g : Unit) => match s, g with | (l5, i6, i7), () => [(0, .slice a_0 (List.length l5) c_0), (1, .int .i64 i6), (4, .int .i64 0), (5, .int .i64 i7)]) (fun (s : (List Int) × Int × Int) (g : Unit) => match s, g with | (l5, i6, i7), () => [(1, OwnS kU8 a_0 c_0 l5)]) (fun _ _ _ => False) () ⟨rfl, rfl, rfl, rfl, trivial⟩ ⟨rfl, trivial⟩ rfl ?_ ?_ ?_
  · clear H h20
    rintro ⟨l5, i6, i7⟩ _ o H
    rw [laws_markByteS_b0] at H
    refine HQ.keep [(0, _), (1, _), (4, _), (5, _)] ⟨rfl, rfl, rfl, rfl, trivial⟩ ?_
    refine HQ.keepR [(1, _)] ⟨rfl, trivial⟩ rfl ?_
    refine HQ.seq ?_
    refine HQ.rseq ?_
    refine HQ.pu Pu.move ⟨rfl, trivial⟩ rfl rfl rfl ?_
    refine HQ.pu Pu.move ⟨rfl, trivial⟩ rfl rfl rfl ?_
    refine HQ.pu (Pu.len ul37) ⟨rfl, trivial⟩ rfl rfl rfl ?_
    refine HQ.pu Pu.lss ⟨rfl, rfl, trivial⟩ rfl rfl rfl ?_
    refine HQ.done ?_
    refine HQ.keep [(0, _), (1, _), (4, _), (5, _), (9, _)] ⟨rfl, rfl, rfl, rfl, rfl, trivial⟩ ?_
    rcases brk H with ⟨hc, H⟩ | ⟨hc, H⟩
    · refine HQ.condT rfl hc ?_
      clear hc
      refine HQ.skipThen ?_
      refine HQ.seq ?_
      refine HQ.block ?_
      refine HQ.rseq ?_
      refine HQ.pu Pu.move ⟨rfl, trivial⟩ rfl rfl rfl ?_
      refine HQ.pu Pu.move ⟨rfl, trivial⟩ rfl rfl rfl ?_
      refine HQ.pu Pu.move ⟨rfl, trivial⟩ rfl rfl rfl ?_
      refine HQ.pu (Pu.conv ul3 ul5) ⟨rfl, trivial⟩ rfl rfl rfl ?_
      obtain ⟨h12, H⟩ := asr H
      refine HQ.op [1] [1] (OT.indexO ul37 sz5 h12) ⟨rfl, rfl, trivial⟩ ⟨rfl, trivial⟩ rfl rfl rfl rfl (fun _ => rfl) fun _ => ?_
      refine HQ.opN [1] [1] [] (OT.storeF (IntKind.u8.wrap i6) sz5 rfl rfl rfl h12 rfl rfl) ⟨rfl, rfl, trivial⟩ ⟨rfl, trivial⟩ rfl rfl rfl (fun _ => rfl) fun _ => ?_
      obtain ⟨l13, h14, H⟩ := bnd H
      replace h14 := Option.some.inj h14
      refine HQ.reR (B := OwnS kU8 a_0 c_0 l13) 1 rfl (by intro _ _ hb; rw [← h14]; exact hb) ?_
      have h15 : List.length l13 = List.length l5 := by rw [← h14, List.length_set]
      refine HQ.re (v' := .slice a_0 (List.length l13) c_0) 0 rfl (by simp [h15]) ?_
      refine HQ.re (v' := .slice a_0 (List.length l13) c_0) 12 rfl (by simp [h15]) ?_
      refine HQ.done ?_
      refine HQ.keep [(0, _), (1, _), (4, _), (5, _)] ⟨rfl, rfl, rfl, rfl, trivial⟩ ?_
      refine HQ.regionQ ?_
      refine HQ.pu Pu.move ⟨rfl, trivial⟩ rfl rfl rfl ?_
      refine HQ.pu Pu.add ⟨rfl, rfl, trivial⟩ rfl rfl rfl ?_
      refine HQ.pu Pu.assign ⟨rfl, trivial⟩ rfl rfl rfl ?_
      refine HQ.done ?_
      refine HQ.keep [(0, _), (1, _), (4, _), (5, _)] ⟨rfl, rfl, rfl, rfl, trivial⟩ ?_
      refine HQ.blkN ?_
      refine HQ.thenN ?_
      refine HQ.regionQ ?_
      refine HQ.pu Pu.move ⟨rfl, trivial⟩ rfl rfl rfl ?_
      refine HQ.pu Pu.add ⟨rfl, rfl, trivial⟩ rfl rfl rfl ?_
      refine HQ.pu Pu.assign ⟨rfl, trivial⟩ rfl rfl rfl ?_
      refine HQ.done ?_
      refine HQ.keep [(0, _), (1, _), (4, _), (5, _)] ⟨rfl, rfl, rfl, rfl, trivial⟩ ?_
      obtain rfl := Option.some.inj H
      exact HQ.next () ⟨rfl, rfl, rfl, rfl, trivial⟩ ⟨rfl, trivial⟩ rfl
    · refine HQ.condF rfl hc ?_
      clear hc
      refine HQ.exit ?_
      refine HQ.thenE ?_
      obtain rfl := Option.some.inj H
      exact HQ.out () ⟨rfl, rfl, rfl, rfl, trivial⟩ ⟨rfl, trivial⟩ rfl
  · rintro ⟨l17, i18, i19⟩ rfl _
    clear h20
    replace H := H
    refine HQ.keep [(0, _), (1, _), (4, _), (5, _)] ⟨rfl, rfl, rfl, rfl, trivial⟩ ?_
    refine HQ.keepR [(1, _)] ⟨rfl, trivial⟩ rfl ?_
    refine HQ.blkE ?_
    refine HQ.thenN ?_
    refine HQ.rseq ?_
    refine HQ.pu Pu.move ⟨rfl, trivial⟩ rfl rfl rfl ?_
    refine HQ.pu Pu.assign ⟨rfl, trivial⟩ rfl rfl rfl ?_
    refine HQ.done ?_
    refine HQ.keep [(4, _)] ⟨rfl, trivial⟩ ?_
    refine HQ.ret ?_
    obtain rfl := Option.some.inj H
    exact HQ.fin (vs := [_]) Try.results32 () ⟨rfl, trivial⟩ rfl [1] ⟨rfl, trivial⟩ rfl
  · exact fun r h a w hf => hf.elim

/-! laws.markByteSS -/
theorem laws_markByteSS_c {w : World} {k : Nat} {p0 : (List (List Int))} {p1 : Int} {a_0 : Option Addr} {c_0 : Nat} {F0 : Fp} (hs0 : Sat [OwnS (kS kU8) a_0 c_0 p0] w.heap F0) (hF0 : ∀ b, F0 b → b < w.heap.size)  {r : Int × (List (List Int))} (H : laws_markByteSS k p0 p1 = some r) :
    Calls Try.prog 71 #[.slice a_0 (List.length p0) c_0, .int .i64 p1] w (Rt w F0 (fun _ : Unit => .int .i64 r.1) (fun _ => [OwnS (kS kU8) a_0 c_0 r.2])) := by
  rw [laws_markByteSS] at H
  refine Calls.enter (N := 19) (us := [_, _]) (F0 := F0) (Γ0 := [(1, OwnS (kS kU8) a_0 c_0 p0)]) Try.func71 rfl rfl rfl hs0 hF0 ?_
  refine HQ.rseq ?_
  refine HQ.pu Pu.assign ⟨rfl, trivial⟩ rfl rfl rfl ?_
  refine HQ.done ?_
  refine HQ.keep [(0, _), (1, _), (4, _)] ⟨rfl, rfl, rfl, trivial⟩ ?_
  refine HQ.seq ?_
  refine HQ.rseq ?_
  refine HQ.pu Pu.assign ⟨rfl, trivial⟩ rfl rfl rfl ?_
  refine HQ.done ?_
  refine HQ.keep [(0, _), (1, _), (4, _), (5, _)] ⟨rfl, rfl, rfl, rfl, trivial⟩ ?_
  refine HQ.block ?_
  obtain ⟨o22, h26, H⟩ := bnd H
  refine HQ.loop h26 0 (fun (s : (List (List Int)) × Int × Int) (g : Unit) => match s, g with | (l7, i8, i9), () => [(0, .slice a_0 (List.length l7) c_0), (1, .int .i64 i8), (4, .int .i64 0), (5, .int .i64 i9)]) (fun (s : (List (List Int)) × Int × Int) (g : Unit) => match s, g with | (l7, i8, i9), () => [(1, OwnS (kS kU8) a_0 c_0 l7)]) (fun _ _ _ => False) () ⟨rfl, rfl, rfl, rfl, trivial⟩ ⟨rfl, trivial⟩ rfl ?_ ?_ ?_
  · clear H h26
    rintro ⟨l7, i8, i9⟩ _ o H
    rw [laws_markByteSS_b0] at H
    refine HQ.keep [(0, _), (1, _), (4, _), (5, _)] ⟨rfl, rfl, rfl, rfl, trivial⟩ ?_
    refine HQ.keepR [(1, _)] ⟨rfl, trivial⟩ rfl ?_
    refine HQ.seq ?_
    refine HQ.rseq ?_
    refine HQ.pu Pu.move ⟨rfl, trivial⟩ rfl rfl rfl ?_
    refine HQ.pu Pu.move ⟨rfl, trivial⟩ rfl rfl rfl ?_
    refine HQ.pu (Pu.len ul110) ⟨rfl, trivial⟩ rfl rfl rfl ?_
    refine HQ.pu Pu.lss ⟨rfl, rfl, trivial⟩ rfl rfl rfl ?_
    refine HQ.done ?_
    refine HQ.keep [(0, _), (1, _), (4, _), (5, _), (9, _)] ⟨rfl, rfl, rfl, rfl, rfl, trivial⟩ ?_
    rcases brk H with ⟨hc, H⟩ | ⟨hc, H⟩
    · refine HQ.condT rfl hc ?_
      clear hc
      refine HQ.skipThen ?_
      refine HQ.seq ?_
      refine HQ.block ?_
      refine HQ.regionQ ?_
      refine HQ.pu Pu.move ⟨rfl, trivial⟩ rfl rfl rfl ?_
      refine HQ.pu Pu.move ⟨rfl, trivial⟩ rfl rfl rfl ?_
      obtain ⟨h16, H⟩ := asr H
      refine HQ.op [1] [1] (OT.indexO ul110 sz37 h16) ⟨rfl, rfl, trivial⟩ ⟨rfl, trivial⟩ rfl rfl rfl rfl (fun _ => rfl) fun _ => ?_
      refine HQ.op [1] [1, 4] (OT.focus (v := fun a17 c18 => .slice a17 (List.length (gt l7 i9)) c18) (fun _ ys => ys) sc37 h16 (fun _ _ => rfl) (fun _ _ _ => rfl) (fun _ _ => rfl)) ⟨rfl, trivial⟩ ⟨rfl, trivial⟩ rfl rfl rfl rfl (fun _ => rfl) fun ⟨a17, c18⟩ => ?_
      refine HQ.pu Pu.move ⟨rfl, trivial⟩ rfl rfl rfl ?_
      obtain ⟨t19, h20, H⟩ := bnd H
      obtain ⟨h21, H⟩ := asr H
      refine HQ.op [4] [4] (OT.callM (us := [_, _]) (PreX := [OwnS kU8 a17 c18 (gt l7 i9)]) (PreL := []) [.tmp 15, .tmp 16] Try.call32 rfl rfl fun w FX FL hs1 hF1 hs2 hF2 hp => laws_markByteS_c hs1 hF1 h20) ⟨rfl, rfl, rfl, trivial⟩ ⟨rfl, trivial⟩ rfl rfl rfl rfl (fun _ => rfl) fun _ => ?_
      refine HQ.re (v' := .slice a17 (List.length t19.2) c18) 15 rfl (by simp [h21]) ?_
      refine HQ.pu Pu.assign ⟨rfl, trivial⟩ rfl rfl rfl ?_
      refine HQ.done ?_
      refine HQ.keep [(0, _), (1, _), (4, _), (5, _)] ⟨rfl, rfl, rfl, rfl, trivial⟩ ?_
      refine HQ.blkN ?_
      refine HQ.thenN ?_
      refine HQ.regionQ ?_
      refine HQ.pu Pu.move ⟨rfl, trivial⟩ rfl rfl rfl ?_
      refine HQ.pu Pu.add ⟨rfl, rfl, trivial⟩ rfl rfl rfl ?_
      refine HQ.pu Pu.assign ⟨rfl, trivial⟩ rfl rfl rfl ?_
      refine HQ.done ?_
      refine HQ.keep [(0, _), (1, _), (4, _), (5, _)] ⟨rfl, rfl, rfl, rfl, trivial⟩ ?_
      refine HQ.unfocus (xs' := (List.set l7 (Int.toNat i9) t19.2)) 1 4 rfl rfl rfl (by simp [h21]) rfl ?_
      refine HQ.re (v' := .slice a_0 (List.length (List.set l7 (Int.toNat i9) t19.2)) c_0) 0 rfl (by simp [h21]) ?_
      obtain rfl := Option.some.inj H
      exact HQ.next () ⟨rfl, rfl, rfl, rfl, trivial⟩ ⟨rfl, trivial⟩ rfl
    · refine HQ.condF rfl hc ?_
      clear hc
      refine HQ.exit ?_
      refine HQ.thenE ?_
      obtain rfl := Option.some.inj H
      exact HQ.out () ⟨rfl, rfl, rfl, rfl, trivial⟩ ⟨rfl, trivial⟩ rfl
  · rintro ⟨l23, i24, i25⟩ rfl _
    clear h26
    replace H := H
    refine HQ.keep [(0, _), (1, _), (4, _), (5, _)] ⟨rfl, rfl, rfl, rfl, trivial⟩ ?_
    refine HQ.keepR [(1, _)] ⟨rfl, trivial⟩ rfl ?_
    refine HQ.blkE ?_
    refine HQ.thenN ?_
    refine HQ.rseq ?_
    refine HQ.pu Pu.move ⟨rfl, trivial⟩ rfl rfl rfl ?_
    refine HQ.pu Pu.assign ⟨rfl, trivial⟩ rfl rfl rfl ?_
    refine HQ.done ?_
    refine HQ.keep [(4, _)] ⟨rfl, trivial⟩ ?_
    refine HQ.ret ?_
    obtain rfl := Option.some.inj H
    exact HQ.fin (vs := [_]) Try.results71 () ⟨rfl, trivial⟩ rfl [1] ⟨rfl, trivial⟩ rfl
  · exact fun r h a w hf => hf.elim

/-! laws.heldByteS -/
theorem laws_heldByteS_c {w : World} {k : Nat} {p0 : (List Int)} {p1 : Int} {a_0 : Option Addr} {c_0 : Nat} (hb_0 : BorS kU8 a_0 c_0 p0 w.heap (Lt w Nil)) {r : Int} (H : laws_heldByteS k p0 p1 = some r) :
    Calls Try.prog 42 #[.slice a_0 (List.length p0) c_0, .int .i64 p1] w (Rt w Nil (fun _ : Unit => .int .i64 r) (fun _ => [])) := by
  rw [laws_heldByteS] at H
  refine Calls.enter0 (N := 22) (us := [_, _]) Try.func42 rfl rfl rfl ?_
  refine HQ.rseq ?_
  refine HQ.pu Pu.assign ⟨rfl, trivial⟩ rfl rfl rfl ?_
  refine HQ.done ?_
  refine HQ.keep [(0, _), (1, _), (4, _)] ⟨rfl, rfl, rfl, trivial⟩ ?_
  refine HQ.seq ?_
  refine HQ.rseq ?_
  refine HQ.pu Pu.assign ⟨rfl, trivial⟩ rfl rfl rfl ?_
  refine HQ.done ?_
  refine HQ.keep [(0, _), (1, _), (4, _), (5, _)] ⟨rfl, rfl, rfl, rfl, trivial⟩ ?_
  refine HQ.block ?_
  obtain ⟨o6, h9, H⟩ := bnd H
  refine HQ.loop h9 0 (fun (s : Int × Int) (g : Unit) => match s, g with | (i2, i3), () => [(0, .slice a_0 (List.length p0) c_0), (1, .int .i64 i2), (4, .int .i64 0), (5, .int .i64 i3)]) (fun (s : Int × Int) (g : Unit) => match s, g with | (i2, i3), () => []) (fun r => bodyPost Try.prog Try.f42 (Rt w Nil (fun _ : Unit => .int .i64 r) (fun _ => [])) .ret) () ⟨rfl, rfl, rfl, rfl, trivial⟩ trivial rfl ?_ ?_ ?_
  · clear H h9
    rintro ⟨i2, i3⟩ _ o H
    rw [laws_heldByteS_b0] at H
    refine HQ.keep [(0, _), (1, _), (4, _), (5, _)] ⟨rfl, rfl, rfl, rfl, trivial⟩ ?_
    refine HQ.keepR [] trivial rfl ?_
    refine HQ.seq ?_
    refine HQ.rseq ?_
    refine HQ.pu Pu.move ⟨rfl, trivial⟩ rfl rfl rfl ?_
    refine HQ.pu Pu.move ⟨rfl, trivial⟩ rfl rfl rfl ?_
    refine HQ.pu (Pu.len ul37) ⟨rfl, trivial⟩ rfl rfl rfl ?_
    refine HQ.pu Pu.lss ⟨rfl, rfl, trivial⟩ rfl rfl rfl ?_
    refine HQ.done ?_
    refine HQ.keep [(0, _), (1, _), (4, _), (5, _), (9, _)] ⟨rfl, rfl, rfl, rfl, rfl, trivial⟩ ?_
    rcases brk H with ⟨hc, H⟩ | ⟨hc, H⟩
    · refine HQ.condT rfl hc ?_
      clear hc
      refine HQ.skipThen ?_
      refine HQ.seq ?_
      refine HQ.block ?_
      refine HQ.seq ?_
      refine HQ.rseq ?_
      refine HQ.pu Pu.move ⟨rfl, trivial⟩ rfl rfl rfl ?_
      refine HQ.pu Pu.move ⟨rfl, trivial⟩ rfl rfl rfl ?_
      obtain ⟨h5, H⟩ := asr H
      refine HQ.op [] [] (OT.indexB ul37 sz5 hb_0 h5) ⟨rfl, rfl, trivial⟩ trivial rfl rfl rfl rfl (fun _ => rfl) fun _ => ?_
      refine HQ.op [] [] (OT.loadF sc5 hb_0 h5 rfl) ⟨rfl, trivial⟩ trivial rfl rfl rfl rfl (fun _ => rfl) fun _ => ?_
      refine HQ.pu Pu.move ⟨rfl, trivial⟩ rfl rfl rfl ?_
      refine HQ.pu (Pu.conv ul3 ul5) ⟨rfl, trivial⟩ rfl rfl rfl ?_
      refine HQ.pu Pu.neq ⟨rfl, rfl, trivial⟩ rfl rfl rfl ?_
      refine HQ.done ?_
      refine HQ.keep [(0, _), (1, _), (4, _), (5, _), (18, _)] ⟨rfl, rfl, rfl, rfl, rfl, trivial⟩ ?_
      rcases brk H with ⟨hc, H⟩ | ⟨hc, H⟩
      · refine HQ.condT rfl hc ?_
        clear hc
        refine HQ.rseq ?_
        refine HQ.pu Pu.assign ⟨rfl, trivial⟩ rfl rfl rfl ?_
        refine HQ.done ?_
        refine HQ.keep [(0, _), (1, _), (4, _), (5, _)] ⟨rfl, rfl, rfl, rfl, trivial⟩ ?_
        refine HQ.ret ?_
        refine HQ.thenR ?_
        refine HQ.blkR ?_
        refine HQ.thenR ?_
        obtain rfl := Option.some.inj H
        refine HQ.retL ?_
        exact HQ.fin (vs := [_]) Try.results42 () ⟨rfl, trivial⟩ rfl [] trivial rfl
      · refine HQ.condF rfl hc ?_
        clear hc
        refine HQ.skipThen ?_
        refine HQ.regionQ ?_
        refine HQ.pu Pu.move ⟨rfl, trivial⟩ rfl rfl rfl ?_
        refine HQ.pu Pu.add ⟨rfl, rfl, trivial⟩ rfl rfl rfl ?_
        refine HQ.pu Pu.assign ⟨rfl, trivial⟩ rfl rfl rfl ?_
        refine HQ.done ?_
        refine HQ.keep [(0, _), (1, _), (4, _), (5, _)] ⟨rfl, rfl, rfl, rfl, trivial⟩ ?_
        refine HQ.blkN ?_
        refine HQ.thenN ?_
        refine HQ.regionQ ?_
        refine HQ.pu Pu.move ⟨rfl, trivial⟩ rfl rfl rfl ?_
        refine HQ.pu Pu.add ⟨rfl, rfl, trivial⟩ rfl rfl rfl ?_
        refine HQ.pu Pu.assign ⟨rfl, trivial⟩ rfl rfl rfl ?_
        refine HQ.done ?_
        refine HQ.keep [(0, _), (1, _), (4, _), (5, _)] ⟨rfl, rfl, rfl, rfl, trivial⟩ ?_
        obtain rfl := Option.some.inj H
        exact HQ.next () ⟨rfl, rfl, rfl, rfl, trivial⟩ trivial rfl
    · refine HQ.condF rfl hc ?_
      clear hc
      refine HQ.exit ?_
      refine HQ.thenE ?_
      obtain rfl := Option.some.inj H
      exact HQ.out () ⟨rfl, rfl, rfl, rfl, trivial⟩ trivial rfl
  · rintro ⟨i7, i8⟩ rfl _
    clear h9
    replace H := H
    refine HQ.keep [(0, _), (1, _), (4, _), (5, _)] ⟨rfl, rfl, rfl, rfl, trivial⟩ ?_
    refine HQ.keepR [] trivial rfl ?_
    refine HQ.blkE ?_
    refine HQ.thenN ?_
    refine HQ.rseq ?_
    refine HQ.pu Pu.move ⟨rfl, trivial⟩ rfl rfl rfl ?_
    refine HQ.pu Pu.assign ⟨rfl, trivial⟩ rfl rfl rfl ?_
    refine HQ.done ?_
    refine HQ.keep [(4, _)] ⟨rfl, trivial⟩ ?_
    refine HQ.ret ?_
    obtain rfl := Option.some.inj H
    exact HQ.fin (vs := [_]) Try.results42 () ⟨rfl, trivial⟩ rfl [] trivial rfl
  · rintro r rfl a w hr
    obtain rfl := Option.some.inj H
    exact hr

/-! laws.heldByteSS -/
theorem laws_heldByteSS_c {w : World} {k : Nat} {p0 : (List (List Int))} {p1 : Int} {a_0 : Option Addr} {c_0 : Nat} (hb_0 : BorS (kS kU8) a_0 c_0 p0 w.heap (Lt w Nil)) {r : Int} (H : laws_heldByteSS k p0 p1 = some r) :
    Calls Try.prog 72 #[.slice a_0 (List.length p0) c_0, .int .i64 p1] w (Rt w Nil (fun _ : Unit => .int .i64 r) (fun _ => [])) := by
  rw [laws_heldByteSS] at H
  refine Calls.enter0 (N := 21) (us := [_, _]) Try.func72 rfl rfl rfl ?_
  refine HQ.rseq ?_
  refine HQ.pu Pu.assign ⟨rfl, trivial⟩ rfl rfl rfl ?_
  refine HQ.done ?_
  refine HQ.keep [(0, _), (1, _), (4, _)] ⟨rfl, rfl, rfl, trivial⟩ ?_
  refine HQ.seq ?_
  refine HQ.rseq ?_
  refine HQ.pu Pu.assign ⟨rfl, trivial⟩ rfl rfl rfl ?_
  refine HQ.done ?_
  refine HQ.keep [(0, _), (1, _), (4, _), (5, _)] ⟨rfl, rfl, rfl, rfl, trivial⟩ ?_
  refine HQ.block ?_
  obtain ⟨o24, h27, H⟩ := bnd H
  refine HQ.loop h27 0 (fun (s : Int × Int) (g : Unit) => match s, g with | (i8, i9), () => [(0, .slice a_0 (List.length p0) c_0), (1, .int .i64 i8), (4, .int .i64 0), (5, .int .i64 i9)]) (fun (s : Int × Int) (g : Unit) => match s, g with | (i8, i9), () => []) (fun r => bodyPost Try.prog Try.f72 (Rt w Nil (fun _ : Unit => .int .i64 r) (fun _ => [])) .ret) () ⟨rfl, rfl, rfl, rfl, trivial⟩ trivial rfl ?_ ?_ ?_
  · clear H h27
    rintro ⟨i8, i9⟩ _ o H
    rw [laws_heldByteSS_b0] at H
    refine HQ.keep [(0, _), (1, _), (4, _), (5, _)] ⟨rfl, rfl, rfl, rfl, trivial⟩ ?_
    refine HQ.keepR [] trivial rfl ?_
    refine HQ.seq ?_
    refine HQ.rseq ?_
    refine HQ.pu Pu.move ⟨rfl, trivial⟩ rfl rfl rfl ?_
    refine HQ.pu Pu.move ⟨rfl, trivial⟩ rfl rfl rfl ?_
    refine HQ.pu (Pu.len ul110) ⟨rfl, trivial⟩ rfl rfl rfl ?_
    refine HQ.pu Pu.lss ⟨rfl, rfl, trivial⟩ rfl rfl rfl ?_
    refine HQ.done ?_
    refine HQ.keep [(0, _), (1, _), (4, _), (5, _), (9, _)] ⟨rfl, rfl, rfl, rfl, rfl, trivial⟩ ?_
    rcases brk H with ⟨hc, H⟩ | ⟨hc, H⟩
    · refine HQ.condT rfl hc ?_
      clear hc
      refine HQ.skipThen ?_
      refine HQ.seq ?_
      refine HQ.block ?_
      refine HQ.rseq ?_
      refine HQ.pu Pu.move ⟨rfl, trivial⟩ rfl rfl rfl ?_
      refine HQ.pu Pu.move ⟨rfl, trivial⟩ rfl rfl rfl ?_
      obtain ⟨h17, H⟩ := asr H
      refine HQ.op [] [] (OT.indexB ul110 sz37 hb_0 h17) ⟨rfl, rfl, trivial⟩ trivial rfl rfl rfl rfl (fun _ => rfl) fun _ => ?_
      obtain ⟨⟨a18, c19⟩, hb20, hn21⟩ := BorS.nest hb_0 h17
      refine HQ.op [] [] (OT.loadN (v := .slice a18 (List.length (gt p0 i9)) c19) sc37 hn21 (fun _ v hv => ⟨rfl, by simp [hv]⟩) rfl) ⟨rfl, trivial⟩ trivial rfl rfl rfl rfl (fun _ => rfl) fun _ => ?_
      refine HQ.pu Pu.move ⟨rfl, trivial⟩ rfl rfl rfl ?_
      obtain ⟨t22, h23, H⟩ := bnd H
      refine HQ.op [] [] (OT.call (us := [_, _]) (Pre := []) [.tmp 15, .tmp 16] Try.call42 rfl rfl fun w F hs hF hp => laws_heldByteS_c (hb20.pass hp) h23) ⟨rfl, rfl, rfl, trivial⟩ trivial rfl rfl rfl rfl (fun _ => rfl) fun _ => ?_
      refine HQ.pu Pu.assign ⟨rfl, trivial⟩ rfl rfl rfl ?_
      refine HQ.done ?_
      refine HQ.keep [(0, _), (1, _), (4, _), (5, _)] ⟨rfl, rfl, rfl, rfl, trivial⟩ ?_
      refine HQ.rseq ?_
      refine HQ.pu Pu.move ⟨rfl, trivial⟩ rfl rfl rfl ?_
      refine HQ.pu Pu.lss ⟨rfl, rfl, trivial⟩ rfl rfl rfl ?_
      refine HQ.done ?_
      refine HQ.keep [(0, _), (1, _), (4, _), (5, _), (19, _)] ⟨rfl, rfl, rfl, rfl, rfl, trivial⟩ ?_
      rcases brk H with ⟨hc, H⟩ | ⟨hc, H⟩
      · refine HQ.condT rfl hc ?_
        clear hc
        refine HQ.rseq ?_
        refine HQ.pu Pu.assign ⟨rfl, trivial⟩ rfl rfl rfl ?_
        refine HQ.done ?_
        refine HQ.keep [(0, _), (1, _), (4, _), (5, _)] ⟨rfl, rfl, rfl, rfl, trivial⟩ ?_
        refine HQ.ret ?_
        refine HQ.blkR ?_
        refine HQ.thenR ?_
        obtain rfl := Option.some.inj H
        refine HQ.retL ?_
        exact HQ.fin (vs := [_]) Try.results72 () ⟨rfl, trivial⟩ rfl [] trivial rfl
      · refine HQ.condF rfl hc ?_
        clear hc
        refine HQ.skip ?_
        refine HQ.blkN ?_
        refine HQ.thenN ?_
        refine HQ.regionQ ?_
        refine HQ.pu Pu.move ⟨rfl, trivial⟩ rfl rfl rfl ?_
        refine HQ.pu Pu.add ⟨rfl, rfl, trivial⟩ rfl rfl rfl ?_
        refine HQ.pu Pu.assign ⟨rfl, trivial⟩ rfl rfl rfl ?_
        refine HQ.done ?_
        refine HQ.keep [(0, _), (1, _), (4, _), (5, _)] ⟨rfl, rfl, rfl, rfl, trivial⟩ ?_
        obtain rfl := Option.some.inj H
        exact HQ.next () ⟨rfl, rfl, rfl, rfl, trivial⟩ trivial rfl
    · refine HQ.condF rfl hc ?_
      clear hc
      refine HQ.exit ?_
      refine HQ.thenE ?_
      obtain rfl := Option.some.inj H
      exact HQ.out () ⟨rfl, rfl, rfl, rfl, trivial⟩ trivial rfl
  · rintro ⟨i25, i26⟩ rfl _
    clear h27
    replace H := H
    refine HQ.keep [(0, _), (1, _), (4, _), (5, _)] ⟨rfl, rfl, rfl, rfl, trivial⟩ ?_
    refine HQ.keepR [] trivial rfl ?_
    refine HQ.blkE ?_
    refine HQ.thenN ?_
    refine HQ.rseq ?_
    refine HQ.pu Pu.move ⟨rfl, trivial⟩ rfl rfl rfl ?_
    refine HQ.pu Pu.assign ⟨rfl, trivial⟩ rfl rfl rfl ?_
    refine HQ.done ?_
    refine HQ.keep [(4, _)] ⟨rfl, trivial⟩ ?_
    refine HQ.ret ?_
    obtain rfl := Option.some.inj H
    exact HQ.fin (vs := [_]) Try.results72 () ⟨rfl, trivial⟩ rfl [] trivial rfl
  · rintro r rfl a w hr
    obtain rfl := Option.some.inj H
    exact hr

end Go.Proofs.Sx
