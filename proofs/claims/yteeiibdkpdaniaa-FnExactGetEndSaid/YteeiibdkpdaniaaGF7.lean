import Derived.Test.YteeiibdkpdaniaaGF6
import Derived.KernelRfl
namespace Go.Proofs.Sx
open Go.RowKit
set_option linter.unusedVariables false
set_option linter.unusedSimpArgs false
set_option maxRecDepth 20000
set_option maxHeartbeats 1000000
/-! laws.FnExactGetEnd -/
theorem laws_FnExactGetEnd_c {w : World} {k : Nat} {p0 : Int} {p1 : (List Int)} {a_0 : Option Addr} {c_0 : Nat} (hb_0 : BorS kU8 a_0 c_0 p1 w.heap (Lt w Nil)) {r : Bool} (H : laws_FnExactGetEnd k p0 p1 = some r) :
    Calls Try.prog 6 #[.int .i64 p0, .slice a_0 (List.length p1) c_0] w (Rt w Nil (fun _ : Unit => .bool r) (fun _ => [])) := by
  rw [laws_FnExactGetEnd] at H
  refine Calls.enter0 (N := 119) (us := [_, _]) Try.func6 rfl rfl rfl ?_
  refine HQ.rseq ?_
  refine HQ.pu Pu.assign ⟨rfl, trivial⟩ rfl rfl rfl ?_
  refine HQ.done ?_
  refine HQ.keep [(0, _), (1, _), (4, _)] ⟨rfl, rfl, rfl, trivial⟩ ?_
  refine HQ.seq ?_
  refine HQ.rseq ?_
  refine HQ.pu Pu.move ⟨rfl, trivial⟩ rfl rfl rfl ?_
  refine HQ.pu (Pu.len ul27) ⟨rfl, trivial⟩ rfl rfl rfl ?_
  refine HQ.pu Pu.gtr ⟨rfl, rfl, trivial⟩ rfl rfl rfl ?_
  refine HQ.done ?_
  refine HQ.keep [(0, _), (1, _), (4, _), (20, _)] ⟨rfl, rfl, rfl, rfl, trivial⟩ ?_
  rcases brk H with ⟨hc, H⟩ | ⟨hc, H⟩
  · refine HQ.condT rfl hc ?_
    clear hc
    refine HQ.rseq ?_
    refine HQ.pu Pu.assign ⟨rfl, trivial⟩ rfl rfl rfl ?_
    refine HQ.done ?_
    refine HQ.keep [(0, _), (1, _), (4, _)] ⟨rfl, rfl, rfl, trivial⟩ ?_
    refine HQ.ret ?_
    refine HQ.thenR ?_
    obtain rfl := Option.some.inj H
    exact HQ.fin (vs := [_]) Try.results6 () ⟨rfl, trivial⟩ rfl [] trivial rfl
  · refine HQ.condF rfl hc ?_
    clear hc
    refine HQ.skipThen ?_
    refine HQ.rseq ?_
    refine HQ.pu Pu.move ⟨rfl, trivial⟩ rfl rfl rfl ?_
    refine HQ.pu Pu.move ⟨rfl, trivial⟩ rfl rfl rfl ?_
    obtain ⟨t1, h2, H⟩ := bnd H
    refine HQ.op [] [1] (OT.call (us := [_]) (Pre := []) [.tmp 23] Try.call30 rfl rfl fun w F hs hF hp => laws_toByteS_c (hb_0.pass hp) h2) ⟨rfl, rfl, trivial⟩ trivial rfl rfl rfl rfl (fun _ => rfl) fun ⟨a3, c4⟩ => ?_
    obtain ⟨t5, h6, H⟩ := bnd H
    refine HQ.op [1] [2, 1] (OT.call (us := [_, _]) (Pre := [OwnS kU8 a3 c4 t1]) [.tmp 22, .tmp 24] Try.call29 rfl rfl fun w F hs hF hp => spec_GetEnd_c (hs.lend hF 0 rfl) h6) ⟨rfl, rfl, rfl, trivial⟩ ⟨rfl, trivial⟩ rfl rfl rfl rfl (fun _ => rfl) fun ⟨a7, c8⟩ => ?_
    refine HQ.pu Pu.move ⟨rfl, trivial⟩ rfl rfl rfl ?_
    refine HQ.pu (Pu.extract rfl) ⟨rfl, trivial⟩ rfl rfl rfl ?_
    refine HQ.pu (Pu.extract rfl) ⟨rfl, trivial⟩ rfl rfl rfl ?_
    refine HQ.pu (Pu.extract rfl) ⟨rfl, trivial⟩ rfl rfl rfl ?_
    refine HQ.op [] [3] (OT.alloc zc47) trivial trivial rfl rfl rfl rfl (fun _ => rfl) fun b9 => ?_
    refine HQ.opN [3] [3] [] (OT.storeC (cs' := [.int .i64 t5.1.Seq, .int .i64 t5.1.Root, .int .i64 t5.1.Size, .slice a7 (List.length t5.1.Puts) c8]) sz47 rfl rfl rfl rfl rfl) ⟨rfl, rfl, trivial⟩ ⟨rfl, trivial⟩ rfl rfl rfl (fun _ => rfl) fun _ => ?_
    refine HQ.pu Pu.assign ⟨rfl, trivial⟩ rfl rfl rfl ?_
    refine HQ.pu Pu.assign ⟨rfl, trivial⟩ rfl rfl rfl ?_
    refine HQ.done ?_
    refine HQ.keep [(0, _), (1, _), (4, _), (5, _), (6, _), (7, _)] ⟨rfl, rfl, rfl, rfl, rfl, rfl, trivial⟩ ?_
    refine HQ.rseq ?_
    refine HQ.pu Pu.move ⟨rfl, trivial⟩ rfl rfl rfl ?_
    obtain ⟨t10, h11, H⟩ := bnd H
    refine HQ.op [] [4] (OT.call (us := [_]) (Pre := []) [.tmp 29] Try.call30 rfl rfl fun w F hs hF hp => laws_toByteS_c (hb_0.pass hp) h11) ⟨rfl, rfl, trivial⟩ trivial rfl rfl rfl rfl (fun _ => rfl) fun ⟨a12, c13⟩ => ?_
    refine HQ.pu Pu.assign ⟨rfl, trivial⟩ rfl rfl rfl ?_
    refine HQ.done ?_
    refine HQ.keep [(0, _), (1, _), (4, _), (5, _), (6, _), (7, _), (8, _)] ⟨rfl, rfl, rfl, rfl, rfl, rfl, rfl, trivial⟩ ?_
    refine HQ.rseq ?_
    refine HQ.pu Pu.move ⟨rfl, trivial⟩ rfl rfl rfl ?_
    refine HQ.pu Pu.move ⟨rfl, trivial⟩ rfl rfl rfl ?_
    obtain ⟨t14, h15, H⟩ := bnd H
    refine HQ.op [4] [5, 4] (OT.call (us := [_, _]) (Pre := [OwnS kU8 a12 c13 t10]) [.tmp 32, .tmp 33] Try.call31 rfl rfl fun w F hs hF hp => impl_GetEnd_c (hs.lend hF 0 rfl) h15) ⟨rfl, rfl, rfl, trivial⟩ ⟨rfl, trivial⟩ rfl rfl rfl rfl (fun _ => rfl) fun ⟨a16, c17⟩ => ?_
    refine HQ.pu Pu.move ⟨rfl, trivial⟩ rfl rfl rfl ?_
    refine HQ.pu (Pu.extract rfl) ⟨rfl, trivial⟩ rfl rfl rfl ?_
    refine HQ.pu (Pu.extract rfl) ⟨rfl, trivial⟩ rfl rfl rfl ?_
    refine HQ.pu (Pu.extract rfl) ⟨rfl, trivial⟩ rfl rfl rfl ?_
    refine HQ.op [] [6] (OT.alloc zc47) trivial trivial rfl rfl rfl rfl (fun _ => rfl) fun b18 => ?_
    refine HQ.opN [6] [6] [] (OT.storeC (cs' := [.int .i64 t14.1.Seq, .int .i64 t14.1.Root, .int .i64 t14.1.Size, .slice a16 (List.length t14.1.Puts) c17]) sz47 rfl rfl rfl rfl rfl) ⟨rfl, rfl, trivial⟩ ⟨rfl, trivial⟩ rfl rfl rfl (fun _ => rfl) fun _ => ?_
    refine HQ.pu Pu.assign ⟨rfl, trivial⟩ rfl rfl rfl ?_
    refine HQ.pu Pu.assign ⟨rfl, trivial⟩ rfl rfl rfl ?_
    refine HQ.done ?_
    refine HQ.keep [(0, _), (1, _), (4, _), (5, _), (6, _), (7, _), (8, _), (9, _), (10, _), (11, _)] ⟨rfl, rfl, rfl, rfl, rfl, rfl, rfl, rfl, rfl, rfl, trivial⟩ ?_
    refine HQ.seq ?_
    refine HQ.rseq ?_
    refine HQ.op [6] [6] (OT.loadBA (vs := [.int .i64 t14.1.Seq, .int .i64 t14.1.Root, .int .i64 t14.1.Size, .slice a16 (List.length t14.1.Puts) c17]) ag47 sz47 rfl rfl) ⟨rfl, trivial⟩ ⟨rfl, trivial⟩ rfl rfl rfl rfl (fun _ => rfl) fun _ => ?_
    refine HQ.op [3] [3] (OT.loadBA (vs := [.int .i64 t5.1.Seq, .int .i64 t5.1.Root, .int .i64 t5.1.Size, .slice a7 (List.length t5.1.Puts) c8]) ag47 sz47 rfl rfl) ⟨rfl, trivial⟩ ⟨rfl, trivial⟩ rfl rfl rfl rfl (fun _ => rfl) fun _ => ?_
    obtain ⟨t19, h20, H⟩ := bnd H
    refine HQ.op [5, 2] [5, 2] (OT.call (us := [_, _]) (Pre := [OwnS kTChange a16 c17 t14.1.Puts, OwnS kTChange a7 c8 t5.1.Puts]) [.tmp 38, .tmp 39] Try.call22 rfl rfl fun w F hs hF hp => laws_eqTx_c (hs.lend hF 0 rfl) (hs.lend hF 1 rfl) h20) ⟨rfl, rfl, rfl, trivial⟩ ⟨rfl, rfl, trivial⟩ rfl rfl rfl rfl (fun _ => rfl) fun _ => ?_
    refine HQ.pu Pu.not ⟨rfl, trivial⟩ rfl rfl rfl ?_
    refine HQ.pu Pu.move ⟨rfl, trivial⟩ rfl rfl rfl ?_
    refine HQ.cutAt 4 [(46, .bool ((!t19) || (!decide (t14.2.1 = t5.2.1)))), (0, .int .i64 p0), (1, .slice a_0 (List.length p1) c_0), (4, .bool false), (5, BP b9 0), (6, .int .i64 t5.2.1), (7, .bool t5.2.2), (8, .slice a12 (List.length t10) c13), (9, BP b18 0), (10, .int .i64 t14.2.1), (11, .bool t14.2.2)] [(1, OwnS kU8 a3 c4 t1), (2, OwnS kTChange a7 c8 t5.1.Puts), (3, Box b9 [.int .i64 t5.1.Seq, .int .i64 t5.1.Root, .int .i64 t5.1.Size, .slice a7 (List.length t5.1.Puts) c8]), (4, OwnS kU8 a12 c13 t10), (5, OwnS kTChange a16 c17 t14.1.Puts), (6, Box b18 [.int .i64 t14.1.Seq, .int .i64 t14.1.Root, .int .i64 t14.1.Size, .slice a16 (List.length t14.1.Puts) c17])] ?_ ?_
    · rcases Bool.eq_false_or_eq_true (!t19) with hg21 | hg21
      · refine HQ.off rfl rfl hg21 rfl ?_
        refine HQ.off rfl rfl hg21 rfl ?_
        refine HQ.off rfl rfl hg21 rfl ?_
        refine HQ.pu (Pu.pickOT (u := (!decide (t14.2.1 = t5.2.1))) hg21) ⟨rfl, rfl, trivial⟩ rfl rfl rfl ?_
        exact HQ.mid ⟨rfl, rfl, rfl, rfl, rfl, rfl, rfl, rfl, rfl, rfl, rfl, trivial⟩ ⟨rfl, rfl, rfl, rfl, rfl, rfl, trivial⟩ rfl
      · refine HQ.on rfl rfl hg21 ?_
        refine HQ.pu Pu.move ⟨rfl, trivial⟩ rfl rfl rfl ?_
        refine HQ.on rfl rfl hg21 ?_
        refine HQ.pu Pu.move ⟨rfl, trivial⟩ rfl rfl rfl ?_
        refine HQ.on rfl rfl hg21 ?_
        refine HQ.pu Pu.neq ⟨rfl, rfl, trivial⟩ rfl rfl rfl ?_
        refine HQ.pu (Pu.pickOF hg21) ⟨rfl, rfl, trivial⟩ rfl rfl rfl ?_
        exact HQ.mid ⟨rfl, rfl, rfl, rfl, rfl, rfl, rfl, rfl, rfl, rfl, rfl, trivial⟩ ⟨rfl, rfl, rfl, rfl, rfl, rfl, trivial⟩ rfl
    refine HQ.pu Pu.move ⟨rfl, trivial⟩ rfl rfl rfl ?_
    refine HQ.cutAt 4 [(51, .bool (((!t19) || (!decide (t14.2.1 = t5.2.1))) || (!(t14.2.2 == t5.2.2)))), (0, .int .i64 p0), (1, .slice a_0 (List.length p1) c_0), (4, .bool false), (5, BP b9 0), (6, .int .i64 t5.2.1), (7, .bool t5.2.2), (8, .slice a12 (List.length t10) c13), (9, BP b18 0), (10, .int .i64 t14.2.1), (11, .bool t14.2.2)] [(1, OwnS kU8 a3 c4 t1), (2, OwnS kTChange a7 c8 t5.1.Puts), (3, Box b9 [.int .i64 t5.1.Seq, .int .i64 t5.1.Root, .int .i64 t5.1.Size, .slice a7 (List.length t5.1.Puts) c8]), (4, OwnS kU8 a12 c13 t10), (5, OwnS kTChange a16 c17 t14.1.Puts), (6, Box b18 [.int .i64 t14.1.Seq, .int .i64 t14.1.Root, .int .i64 t14.1.Size, .slice a16 (List.length t14.1.Puts) c17])] ?_ ?_
    · rcases Bool.eq_false_or_eq_true ((!t19) || (!decide (t14.2.1 = t5.2.1))) with hg22 | hg22
      · refine HQ.off rfl rfl hg22 rfl ?_
        refine HQ.off rfl rfl hg22 rfl ?_
        refine HQ.off rfl rfl hg22 rfl ?_
        refine HQ.pu (Pu.pickOT (u := (!(t14.2.2 == t5.2.2))) hg22) ⟨rfl, rfl, trivial⟩ rfl rfl rfl ?_
        exact HQ.mid ⟨rfl, rfl, rfl, rfl, rfl, rfl, rfl, rfl, rfl, rfl, rfl, trivial⟩ ⟨rfl, rfl, rfl, rfl, rfl, rfl, trivial⟩ rfl
      · refine HQ.on rfl rfl hg22 ?_
        refine HQ.pu Pu.move ⟨rfl, trivial⟩ rfl rfl rfl ?_
        refine HQ.on rfl rfl hg22 ?_
        refine HQ.pu Pu.move ⟨rfl, trivial⟩ rfl rfl rfl ?_
        refine HQ.on rfl rfl hg22 ?_
        refine HQ.pu (Pu.neqB ul4) ⟨rfl, rfl, trivial⟩ rfl rfl rfl ?_
        refine HQ.pu (Pu.pickOF hg22) ⟨rfl, rfl, trivial⟩ rfl rfl rfl ?_
        exact HQ.mid ⟨rfl, rfl, rfl, rfl, rfl, rfl, rfl, rfl, rfl, rfl, rfl, trivial⟩ ⟨rfl, rfl, rfl, rfl, rfl, rfl, trivial⟩ rfl
    refine HQ.done ?_
    refine HQ.keep [(51, _), (0, _), (1, _), (4, _), (5, _), (6, _), (7, _), (8, _), (9, _), (10, _), (11, _)] ⟨rfl, rfl, rfl, rfl, rfl, rfl, rfl, rfl, rfl, rfl, rfl, trivial⟩ ?_
    rcases brk H with ⟨hc, H⟩ | ⟨hc, H⟩
    · refine HQ.condT rfl hc ?_
      clear hc
      refine HQ.rseq ?_
      refine HQ.pu Pu.assign ⟨rfl, trivial⟩ rfl rfl rfl ?_
      refine HQ.done ?_
      refine HQ.keep [(0, _), (1, _), (4, _), (5, _), (6, _), (7, _), (8, _), (9, _), (10, _), (11, _)] ⟨rfl, rfl, rfl, rfl, rfl, rfl, rfl, rfl, rfl, rfl, trivial⟩ ?_
      refine HQ.ret ?_
      refine HQ.thenR ?_
      obtain rfl := Option.some.inj H
      exact HQ.fin (vs := [_]) Try.results6 () ⟨rfl, trivial⟩ rfl [] trivial rfl
    · refine HQ.condF rfl hc ?_
      clear hc
      refine HQ.skipThen ?_
      refine HQ.seq ?_
      refine HQ.rseq ?_
      refine HQ.pu Pu.move ⟨rfl, trivial⟩ rfl rfl rfl ?_
      refine HQ.pu Pu.move ⟨rfl, trivial⟩ rfl rfl rfl ?_
      obtain ⟨t23, h24, H⟩ := bnd H
      refine HQ.op [] [7] (OT.call (us := [_]) (Pre := []) [.tmp 53] Try.call30 rfl rfl fun w F hs hF hp => laws_toByteS_c (hb_0.pass hp) h24) ⟨rfl, rfl, trivial⟩ trivial rfl rfl rfl rfl (fun _ => rfl) fun ⟨a25, c26⟩ => ?_
      obtain ⟨t27, h28, H⟩ := bnd H
      refine HQ.op [4, 7] [4, 7] (OT.call (us := [_, _]) (Pre := [OwnS kU8 a12 c13 t10, OwnS kU8 a25 c26 t23]) [.tmp 52, .tmp 54] Try.call13 rfl rfl fun w F hs hF hp => laws_eqByteS_c (hs.lend hF 0 rfl) (hs.lend hF 1 rfl) h28) ⟨rfl, rfl, rfl, trivial⟩ ⟨rfl, rfl, trivial⟩ rfl rfl rfl rfl (fun _ => rfl) fun _ => ?_
      refine HQ.pu Pu.not ⟨rfl, trivial⟩ rfl rfl rfl ?_
      refine HQ.done ?_
      refine HQ.keep [(0, _), (1, _), (4, _), (5, _), (6, _), (7, _), (8, _), (9, _), (10, _), (11, _), (56, _)] ⟨rfl, rfl, rfl, rfl, rfl, rfl, rfl, rfl, rfl, rfl, rfl, trivial⟩ ?_
      rcases brk H with ⟨hc, H⟩ | ⟨hc, H⟩
      · refine HQ.condT rfl hc ?_
        clear hc
        refine HQ.rseq ?_
        refine HQ.pu Pu.assign ⟨rfl, trivial⟩ rfl rfl rfl ?_
        refine HQ.done ?_
        refine HQ.keep [(0, _), (1, _), (4, _), (5, _), (6, _), (7, _), (8, _), (9, _), (10, _), (11, _)] ⟨rfl, rfl, rfl, rfl, rfl, rfl, rfl, rfl, rfl, rfl, trivial⟩ ?_
        refine HQ.ret ?_
        refine HQ.thenR ?_
        obtain rfl := Option.some.inj H
        exact HQ.fin (vs := [_]) Try.results6 () ⟨rfl, trivial⟩ rfl [] trivial rfl
      · refine HQ.condF rfl hc ?_
        clear hc
        refine HQ.skipThen ?_
        refine HQ.rseq ?_
        refine HQ.pu Pu.assign ⟨rfl, trivial⟩ rfl rfl rfl ?_
        refine HQ.done ?_
        refine HQ.keep [(0, _), (1, _), (4, _), (5, _), (6, _), (7, _), (8, _), (9, _), (10, _), (11, _), (12, _)] ⟨rfl, rfl, rfl, rfl, rfl, rfl, rfl, rfl, rfl, rfl, rfl, trivial⟩ ?_
        refine HQ.rseq ?_
        refine HQ.pu Pu.move ⟨rfl, trivial⟩ rfl rfl rfl ?_
        refine HQ.pu Pu.move ⟨rfl, trivial⟩ rfl rfl rfl ?_
        obtain ⟨t29, h30, H⟩ := bnd H
        obtain ⟨h31, H⟩ := asr H
        refine HQ.op [4] [4] (OT.callM (us := [_, _]) (PreX := [OwnS kU8 a12 c13 t10]) (PreL := []) [.tmp 57, .tmp 58] Try.call16 rfl rfl fun w FX FL hs1 hF1 hs2 hF2 hp => laws_markByteS_c hs1 hF1 h30) ⟨rfl, rfl, rfl, trivial⟩ ⟨rfl, trivial⟩ rfl rfl rfl rfl (fun _ => rfl) fun _ => ?_
        refine HQ.re (v' := .slice a12 (List.length t29.2) c13) 8 rfl (by simp [h31]) ?_
        refine HQ.re (v' := .slice a12 (List.length t29.2) c13) 57 rfl (by simp [h31]) ?_
        refine HQ.pu Pu.assign ⟨rfl, trivial⟩ rfl rfl rfl ?_
        refine HQ.done ?_
        refine HQ.keep [(0, _), (1, _), (4, _), (5, _), (6, _), (7, _), (9, _), (10, _), (11, _), (12, _)] ⟨rfl, rfl, rfl, rfl, rfl, rfl, rfl, rfl, rfl, rfl, trivial⟩ ?_
        refine HQ.seq ?_
        refine HQ.rseq ?_
        refine HQ.pu Pu.move ⟨rfl, trivial⟩ rfl rfl rfl ?_
        refine HQ.pu Pu.lss ⟨rfl, rfl, trivial⟩ rfl rfl rfl ?_
        refine HQ.pu Pu.move ⟨rfl, trivial⟩ rfl rfl rfl ?_
        obtain ⟨c35, h36, H⟩ := bnd H
        refine HQ.cutAt 5 [(67, .bool c35), (0, .int .i64 p0), (1, .slice a_0 (List.length p1) c_0), (4, .bool false), (5, BP b9 0), (6, .int .i64 t5.2.1), (7, .bool t5.2.2), (9, BP b18 0), (10, .int .i64 t14.2.1), (11, .bool t14.2.2)] [(1, OwnS kU8 a3 c4 t1), (2, OwnS kTChange a7 c8 t5.1.Puts), (3, Box b9 [.int .i64 t5.1.Seq, .int .i64 t5.1.Root, .int .i64 t5.1.Size, .slice a7 (List.length t5.1.Puts) c8]), (4, OwnS kU8 a12 c13 t29.2), (5, OwnS kTChange a16 c17 t14.1.Puts), (6, Box b18 [.int .i64 t14.1.Seq, .int .i64 t14.1.Root, .int .i64 t14.1.Size, .slice a16 (List.length t14.1.Puts) c17]), (7, OwnS kU8 a25 c26 t23)] ?_ ?_
        · clear H
          have H := h36
          rcases brk H with ⟨hg32, H⟩ | ⟨hg32, H⟩
          · obtain rfl := Option.some.inj H
            refine HQ.off rfl rfl hg32 rfl ?_
            refine HQ.off rfl rfl hg32 rfl ?_
            refine HQ.off rfl rfl hg32 rfl ?_
            refine HQ.off rfl rfl hg32 rfl ?_
            refine HQ.pu (Pu.pickC1 hg32) ⟨rfl, rfl, trivial⟩ rfl rfl rfl ?_
            exact HQ.mid ⟨rfl, rfl, rfl, rfl, rfl, rfl, rfl, rfl, rfl, rfl, trivial⟩ ⟨rfl, rfl, rfl, rfl, rfl, rfl, rfl, trivial⟩ rfl
          · refine HQ.on rfl rfl hg32 ?_
            refine HQ.op [6] [6] (OT.loadBA (vs := [.int .i64 t14.1.Seq, .int .i64 t14.1.Root, .int .i64 t14.1.Size, .slice a16 (List.length t14.1.Puts) c17]) ag47 sz47 rfl rfl) ⟨rfl, trivial⟩ ⟨rfl, trivial⟩ rfl rfl rfl rfl (fun _ => rfl) fun _ => ?_
            refine HQ.on rfl rfl hg32 ?_
            refine HQ.op [3] [3] (OT.loadBA (vs := [.int .i64 t5.1.Seq, .int .i64 t5.1.Root, .int .i64 t5.1.Size, .slice a7 (List.length t5.1.Puts) c8]) ag47 sz47 rfl rfl) ⟨rfl, trivial⟩ ⟨rfl, trivial⟩ rfl rfl rfl rfl (fun _ => rfl) fun _ => ?_
            refine HQ.on rfl rfl hg32 ?_
            obtain ⟨t33, h34, H⟩ := bnd H
            refine HQ.op [5, 2] [5, 2] (OT.call (us := [_, _]) (Pre := [OwnS kTChange a16 c17 t14.1.Puts, OwnS kTChange a7 c8 t5.1.Puts]) [.tmp 63, .tmp 64] Try.call22 rfl rfl fun w F hs hF hp => laws_eqTx_c (hs.lend hF 0 rfl) (hs.lend hF 1 rfl) h34) ⟨rfl, rfl, rfl, trivial⟩ ⟨rfl, rfl, trivial⟩ rfl rfl rfl rfl (fun _ => rfl) fun _ => ?_
            refine HQ.on rfl rfl hg32 ?_
            refine HQ.pu Pu.not ⟨rfl, trivial⟩ rfl rfl rfl ?_
            obtain rfl := Option.some.inj H
            refine HQ.pu (Pu.pickC0 hg32) ⟨rfl, rfl, trivial⟩ rfl rfl rfl ?_
            exact HQ.mid ⟨rfl, rfl, rfl, rfl, rfl, rfl, rfl, rfl, rfl, rfl, trivial⟩ ⟨rfl, rfl, rfl, rfl, rfl, rfl, rfl, trivial⟩ rfl
        refine HQ.pu Pu.move ⟨rfl, trivial⟩ rfl rfl rfl ?_
        refine HQ.cutAt 4 [(72, .bool (c35 || (!decide (t14.2.1 = t5.2.1)))), (0, .int .i64 p0), (1, .slice a_0 (List.length p1) c_0), (4, .bool false), (5, BP b9 0), (6, .int .i64 t5.2.1), (7, .bool t5.2.2), (9, BP b18 0), (11, .bool t14.2.2)] [(1, OwnS kU8 a3 c4 t1), (2, OwnS kTChange a7 c8 t5.1.Puts), (3, Box b9 [.int .i64 t5.1.Seq, .int .i64 t5.1.Root, .int .i64 t5.1.Size, .slice a7 (List.length t5.1.Puts) c8]), (4, OwnS kU8 a12 c13 t29.2), (5, OwnS kTChange a16 c17 t14.1.Puts), (6, Box b18 [.int .i64 t14.1.Seq, .int .i64 t14.1.Root, .int .i64 t14.1.Size, .slice a16 (List.length t14.1.Puts) c17]), (7, OwnS kU8 a25 c26 t23)] ?_ ?_
        · rcases Bool.eq_false_or_eq_true c35 with hg37 | hg37
          · refine HQ.off rfl rfl hg37 rfl ?_
            refine HQ.off rfl rfl hg37 rfl ?_
            refine HQ.off rfl rfl hg37 rfl ?_
            refine HQ.pu (Pu.pickOT (u := (!decide (t14.2.1 = t5.2.1))) hg37) ⟨rfl, rfl, trivial⟩ rfl rfl rfl ?_
            exact HQ.mid ⟨rfl, rfl, rfl, rfl, rfl, rfl, rfl, rfl, rfl, trivial⟩ ⟨rfl, rfl, rfl, rfl, rfl, rfl, rfl, trivial⟩ rfl
          · refine HQ.on rfl rfl hg37 ?_
            refine HQ.pu Pu.move ⟨rfl, trivial⟩ rfl rfl rfl ?_
            refine HQ.on rfl rfl hg37 ?_
            refine HQ.pu Pu.move ⟨rfl, trivial⟩ rfl rfl rfl ?_
            refine HQ.on rfl rfl hg37 ?_
            refine HQ.pu Pu.neq ⟨rfl, rfl, trivial⟩ rfl rfl rfl ?_
            refine HQ.pu (Pu.pickOF hg37) ⟨rfl, rfl, trivial⟩ rfl rfl rfl ?_
            exact HQ.mid ⟨rfl, rfl, rfl, rfl, rfl, rfl, rfl, rfl, rfl, trivial⟩ ⟨rfl, rfl, rfl, rfl, rfl, rfl, rfl, trivial⟩ rfl
        refine HQ.pu Pu.move ⟨rfl, trivial⟩ rfl rfl rfl ?_
        refine HQ.cutAt 4 [(77, .bool ((c35 || (!decide (t14.2.1 = t5.2.1))) || (!(t14.2.2 == t5.2.2)))), (0, .int .i64 p0), (1, .slice a_0 (List.length p1) c_0), (4, .bool false), (5, BP b9 0), (6, .int .i64 t5.2.1), (7, .bool t5.2.2), (9, BP b18 0)] [(1, OwnS kU8 a3 c4 t1), (2, OwnS kTChange a7 c8 t5.1.Puts), (3, Box b9 [.int .i64 t5.1.Seq, .int .i64 t5.1.Root, .int .i64 t5.1.Size, .slice a7 (List.length t5.1.Puts) c8]), (4, OwnS kU8 a12 c13 t29.2), (5, OwnS kTChange a16 c17 t14.1.Puts), (6, Box b18 [.int .i64 t14.1.Seq, .int .i64 t14.1.Root, .int .i64 t14.1.Size, .slice a16 (List.length t14.1.Puts) c17]), (7, OwnS kU8 a25 c26 t23)] ?_ ?_
        · rcases Bool.eq_false_or_eq_true (c35 || (!decide (t14.2.1 = t5.2.1))) with hg38 | hg38
          · refine HQ.off rfl rfl hg38 rfl ?_
            refine HQ.off rfl rfl hg38 rfl ?_
            refine HQ.off rfl rfl hg38 rfl ?_
            refine HQ.pu (Pu.pickOT (u := (!(t14.2.2 == t5.2.2))) hg38) ⟨rfl, rfl, trivial⟩ rfl rfl rfl ?_
            exact HQ.mid ⟨rfl, rfl, rfl, rfl, rfl, rfl, rfl, rfl, trivial⟩ ⟨rfl, rfl, rfl, rfl, rfl, rfl, rfl, trivial⟩ rfl
          · refine HQ.on rfl rfl hg38 ?_
            refine HQ.pu Pu.move ⟨rfl, trivial⟩ rfl rfl rfl ?_
            refine HQ.on rfl rfl hg38 ?_
            refine HQ.pu Pu.move ⟨rfl, trivial⟩ rfl rfl rfl ?_
            refine HQ.on rfl rfl hg38 ?_
            refine HQ.pu (Pu.neqB ul4) ⟨rfl, rfl, trivial⟩ rfl rfl rfl ?_
            refine HQ.pu (Pu.pickOF hg38) ⟨rfl, rfl, trivial⟩ rfl rfl rfl ?_
            exact HQ.mid ⟨rfl, rfl, rfl, rfl, rfl, rfl, rfl, rfl, trivial⟩ ⟨rfl, rfl, rfl, rfl, rfl, rfl, rfl, trivial⟩ rfl
        refine HQ.done ?_
        refine HQ.keep [(77, _), (0, _), (1, _), (4, _), (5, _), (6, _), (7, _), (9, _)] ⟨rfl, rfl, rfl, rfl, rfl, rfl, rfl, rfl, trivial⟩ ?_
        rcases brk H with ⟨hc, H⟩ | ⟨hc, H⟩
        · refine HQ.condT rfl hc ?_
          clear hc
          refine HQ.rseq ?_
          refine HQ.pu Pu.assign ⟨rfl, trivial⟩ rfl rfl rfl ?_
          refine HQ.done ?_
          refine HQ.keep [(0, _), (1, _), (4, _), (5, _), (6, _), (7, _), (9, _)] ⟨rfl, rfl, rfl, rfl, rfl, rfl, rfl, trivial⟩ ?_
          refine HQ.ret ?_
          refine HQ.thenR ?_
          obtain rfl := Option.some.inj H
          exact HQ.fin (vs := [_]) Try.results6 () ⟨rfl, trivial⟩ rfl [] trivial rfl
        · refine HQ.condF rfl hc ?_
          clear hc
          refine HQ.skipThen ?_
          refine HQ.rseq ?_
          refine HQ.pu Pu.assign ⟨rfl, trivial⟩ rfl rfl rfl ?_
          refine HQ.done ?_
          refine HQ.keep [(0, _), (1, _), (4, _), (5, _), (6, _), (7, _), (9, _), (13, _)] ⟨rfl, rfl, rfl, rfl, rfl, rfl, rfl, rfl, trivial⟩ ?_
          refine HQ.rseq ?_
          refine HQ.op [6] [6] (OT.loadBA (vs := [.int .i64 t14.1.Seq, .int .i64 t14.1.Root, .int .i64 t14.1.Size, .slice a16 (List.length t14.1.Puts) c17]) ag47 sz47 rfl rfl) ⟨rfl, trivial⟩ ⟨rfl, trivial⟩ rfl rfl rfl rfl (fun _ => rfl) fun _ => ?_
          refine HQ.pu Pu.move ⟨rfl, trivial⟩ rfl rfl rfl ?_
          obtain ⟨t39, h40, H⟩ := bnd H
          obtain ⟨h41, H⟩ := asr H
          refine HQ.op [5] [5] (OT.callM (us := [_, _]) (PreX := [OwnS kTChange a16 c17 t14.1.Puts]) (PreL := []) [.tmp 78, .tmp 79] Try.call32 rfl rfl fun w FX FL hs1 hF1 hs2 hF2 hp => laws_markTx_c hs1 hF1 h40) ⟨rfl, rfl, rfl, trivial⟩ ⟨rfl, trivial⟩ rfl rfl rfl rfl (fun _ => rfl) fun _ => ?_
          refine HQ.re (v' := .agg #[.int .i64 t14.1.Seq, .int .i64 t14.1.Root, .int .i64 t14.1.Size, .slice a16 (List.length t39.2) c17]) 78 rfl (by simp [h31, h41]) ?_
          refine HQ.reR (B := Box b18 [.int .i64 t14.1.Seq, .int .i64 t14.1.Root, .int .i64 t14.1.Size, .slice a16 (List.length t39.2) c17]) 6 rfl (fun _ _ hb => by simpa [h31, h41] using hb) ?_
          refine HQ.pu Pu.assign ⟨rfl, trivial⟩ rfl rfl rfl ?_
          refine HQ.done ?_
          refine HQ.keep [(0, _), (1, _), (4, _), (5, _), (6, _), (7, _), (9, _), (13, _)] ⟨rfl, rfl, rfl, rfl, rfl, rfl, rfl, rfl, trivial⟩ ?_
          refine HQ.rseq ?_
          refine HQ.pu Pu.assign ⟨rfl, trivial⟩ rfl rfl rfl ?_
          refine HQ.done ?_
          refine HQ.keep [(0, _), (1, _), (4, _), (5, _), (6, _), (7, _), (9, _), (13, _), (14, _)] ⟨rfl, rfl, rfl, rfl, rfl, rfl, rfl, rfl, rfl, trivial⟩ ?_
          refine HQ.rseq ?_
          refine HQ.op [6] [6] (OT.loadBA (vs := [.int .i64 t14.1.Seq, .int .i64 t14.1.Root, .int .i64 t14.1.Size, .slice a16 (List.length t39.2) c17]) ag47 sz47 rfl rfl) ⟨rfl, trivial⟩ ⟨rfl, trivial⟩ rfl rfl rfl rfl (fun _ => rfl) fun _ => ?_
          refine HQ.pu Pu.move ⟨rfl, trivial⟩ rfl rfl rfl ?_
          obtain ⟨t42, h43, H⟩ := bnd H
          refine HQ.op [5] [5] (OT.call (us := [_, _]) (Pre := [OwnS kTChange a16 c17 t39.2]) [.tmp 81, .tmp 82] Try.call33 rfl rfl fun w F hs hF hp => laws_heldTx_c (hs.lend hF 0 rfl) h43) ⟨rfl, rfl, rfl, trivial⟩ ⟨rfl, trivial⟩ rfl rfl rfl rfl (fun _ => rfl) fun _ => ?_
          refine HQ.pu Pu.assign ⟨rfl, trivial⟩ rfl rfl rfl ?_
          refine HQ.done ?_
          refine HQ.keep [(0, _), (1, _), (4, _), (5, _), (6, _), (7, _), (9, _), (13, _), (14, _)] ⟨rfl, rfl, rfl, rfl, rfl, rfl, rfl, rfl, rfl, trivial⟩ ?_
          refine HQ.seq ?_
          refine HQ.rseq ?_
          refine HQ.pu Pu.move ⟨rfl, trivial⟩ rfl rfl rfl ?_
          refine HQ.pu Pu.lss ⟨rfl, rfl, trivial⟩ rfl rfl rfl ?_
          refine HQ.done ?_
          refine HQ.keep [(0, _), (1, _), (4, _), (5, _), (6, _), (7, _), (9, _), (13, _), (14, _), (85, _)] ⟨rfl, rfl, rfl, rfl, rfl, rfl, rfl, rfl, rfl, rfl, trivial⟩ ?_
          rcases brk H with ⟨hc, H⟩ | ⟨hc, H⟩
          · refine HQ.condT rfl hc ?_
            clear hc
            refine HQ.rseq ?_
            refine HQ.pu Pu.assign ⟨rfl, trivial⟩ rfl rfl rfl ?_
            refine HQ.done ?_
            refine HQ.keep [(0, _), (1, _), (4, _), (5, _), (6, _), (7, _), (9, _), (13, _), (14, _)] ⟨rfl, rfl, rfl, rfl, rfl, rfl, rfl, rfl, rfl, trivial⟩ ?_
            refine HQ.ret ?_
            refine HQ.thenR ?_
            obtain rfl := Option.some.inj H
            exact HQ.fin (vs := [_]) Try.results6 () ⟨rfl, trivial⟩ rfl [] trivial rfl
          · refine HQ.condF rfl hc ?_
            clear hc
            refine HQ.skipThen ?_
            refine HQ.seq ?_
            refine HQ.rseq ?_
            refine HQ.pu Pu.move ⟨rfl, trivial⟩ rfl rfl rfl ?_
            refine HQ.pu Pu.move ⟨rfl, trivial⟩ rfl rfl rfl ?_
            refine HQ.pu Pu.neq ⟨rfl, rfl, trivial⟩ rfl rfl rfl ?_
            refine HQ.done ?_
            refine HQ.keep [(0, _), (1, _), (4, _), (5, _), (6, _), (7, _), (9, _), (13, _), (14, _), (88, _)] ⟨rfl, rfl, rfl, rfl, rfl, rfl, rfl, rfl, rfl, rfl, trivial⟩ ?_
            rcases brk H with ⟨hc, H⟩ | ⟨hc, H⟩
            · refine HQ.condT rfl hc ?_
              clear hc
              refine HQ.rseq ?_
              refine HQ.pu Pu.assign ⟨rfl, trivial⟩ rfl rfl rfl ?_
              refine HQ.done ?_
              refine HQ.keep [(0, _), (1, _), (4, _), (5, _), (6, _), (7, _), (9, _), (13, _), (14, _)] ⟨rfl, rfl, rfl, rfl, rfl, rfl, rfl, rfl, rfl, trivial⟩ ?_
              refine HQ.ret ?_
              refine HQ.thenR ?_
              obtain rfl := Option.some.inj H
              exact HQ.fin (vs := [_]) Try.results6 () ⟨rfl, trivial⟩ rfl [] trivial rfl
            · refine HQ.condF rfl hc ?_
              clear hc
              refine HQ.skipThen ?_
              refine HQ.rseq ?_
              refine HQ.pu Pu.move ⟨rfl, trivial⟩ rfl rfl rfl ?_
              refine HQ.pu Pu.move ⟨rfl, trivial⟩ rfl rfl rfl ?_
              obtain ⟨t44, h45, H⟩ := bnd H
              refine HQ.op [] [8] (OT.call (us := [_]) (Pre := []) [.tmp 91] Try.call30 rfl rfl fun w F hs hF hp => laws_toByteS_c (hb_0.pass hp) h45) ⟨rfl, rfl, trivial⟩ trivial rfl rfl rfl rfl (fun _ => rfl) fun ⟨a46, c47⟩ => ?_
              obtain ⟨t48, h49, H⟩ := bnd H
              refine HQ.op [8] [9, 8] (OT.call (us := [_, _]) (Pre := [OwnS kU8 a46 c47 t44]) [.tmp 90, .tmp 92] Try.call31 rfl rfl fun w F hs hF hp => impl_GetEnd_c (hs.lend hF 0 rfl) h49) ⟨rfl, rfl, rfl, trivial⟩ ⟨rfl, trivial⟩ rfl rfl rfl rfl (fun _ => rfl) fun ⟨a50, c51⟩ => ?_
              refine HQ.pu Pu.move ⟨rfl, trivial⟩ rfl rfl rfl ?_
              refine HQ.pu (Pu.extract rfl) ⟨rfl, trivial⟩ rfl rfl rfl ?_
              refine HQ.pu (Pu.extract rfl) ⟨rfl, trivial⟩ rfl rfl rfl ?_
              refine HQ.pu (Pu.extract rfl) ⟨rfl, trivial⟩ rfl rfl rfl ?_
              refine HQ.op [] [10] (OT.alloc zc47) trivial trivial rfl rfl rfl rfl (fun _ => rfl) fun b52 => ?_
              refine HQ.opN [10] [10] [] (OT.storeC (cs' := [.int .i64 t48.1.Seq, .int .i64 t48.1.Root, .int .i64 t48.1.Size, .slice a50 (List.length t48.1.Puts) c51]) sz47 rfl rfl rfl rfl rfl) ⟨rfl, rfl, trivial⟩ ⟨rfl, trivial⟩ rfl rfl rfl (fun _ => rfl) fun _ => ?_
              refine HQ.pu Pu.assign ⟨rfl, trivial⟩ rfl rfl rfl ?_
              refine HQ.pu Pu.assign ⟨rfl, trivial⟩ rfl rfl rfl ?_
              refine HQ.done ?_
              refine HQ.keep [(4, _), (5, _), (6, _), (7, _), (9, _), (13, _), (14, _), (15, _), (16, _), (17, _)] ⟨rfl, rfl, rfl, rfl, rfl, rfl, rfl, rfl, rfl, rfl, trivial⟩ ?_
              refine HQ.seq ?_
              refine HQ.rseq ?_
              refine HQ.op [10] [10] (OT.loadBA (vs := [.int .i64 t48.1.Seq, .int .i64 t48.1.Root, .int .i64 t48.1.Size, .slice a50 (List.length t48.1.Puts) c51]) ag47 sz47 rfl rfl) ⟨rfl, trivial⟩ ⟨rfl, trivial⟩ rfl rfl rfl rfl (fun _ => rfl) fun _ => ?_
              refine HQ.op [3] [3] (OT.loadBA (vs := [.int .i64 t5.1.Seq, .int .i64 t5.1.Root, .int .i64 t5.1.Size, .slice a7 (List.length t5.1.Puts) c8]) ag47 sz47 rfl rfl) ⟨rfl, trivial⟩ ⟨rfl, trivial⟩ rfl rfl rfl rfl (fun _ => rfl) fun _ => ?_
              obtain ⟨t53, h54, H⟩ := bnd H
              refine HQ.op [9, 2] [9, 2] (OT.call (us := [_, _]) (Pre := [OwnS kTChange a50 c51 t48.1.Puts, OwnS kTChange a7 c8 t5.1.Puts]) [.tmp 97, .tmp 98] Try.call22 rfl rfl fun w F hs hF hp => laws_eqTx_c (hs.lend hF 0 rfl) (hs.lend hF 1 rfl) h54) ⟨rfl, rfl, rfl, trivial⟩ ⟨rfl, rfl, trivial⟩ rfl rfl rfl rfl (fun _ => rfl) fun _ => ?_
              refine HQ.pu Pu.not ⟨rfl, trivial⟩ rfl rfl rfl ?_
              refine HQ.pu Pu.move ⟨rfl, trivial⟩ rfl rfl rfl ?_
              refine HQ.cutAt 4 [(105, .bool ((!t53) || (!decide (t48.2.1 = t5.2.1)))), (4, .bool false), (7, .bool t5.2.2), (9, BP b18 0), (13, .int .i64 t39.1), (14, .int .i64 t42), (17, .bool t48.2.2)] [(1, OwnS kU8 a3 c4 t1), (2, OwnS kTChange a7 c8 t5.1.Puts), (3, Box b9 [.int .i64 t5.1.Seq, .int .i64 t5.1.Root, .int .i64 t5.1.Size, .slice a7 (List.length t5.1.Puts) c8]), (4, OwnS kU8 a12 c13 t29.2), (5, OwnS kTChange a16 c17 t39.2), (6, Box b18 [.int .i64 t14.1.Seq, .int .i64 t14.1.Root, .int .i64 t14.1.Size, .slice a16 (List.length t39.2) c17]), (7, OwnS kU8 a25 c26 t23), (8, OwnS kU8 a46 c47 t44), (9, OwnS kTChange a50 c51 t48.1.Puts), (10, Box b52 [.int .i64 t48.1.Seq, .int .i64 t48.1.Root, .int .i64 t48.1.Size, .slice a50 (List.length t48.1.Puts) c51])] ?_ ?_
              · rcases Bool.eq_false_or_eq_true (!t53) with hg55 | hg55
                · refine HQ.off rfl rfl hg55 rfl ?_
                  refine HQ.off rfl rfl hg55 rfl ?_
                  refine HQ.off rfl rfl hg55 rfl ?_
                  refine HQ.pu (Pu.pickOT (u := (!decide (t48.2.1 = t5.2.1))) hg55) ⟨rfl, rfl, trivial⟩ rfl rfl rfl ?_
                  exact HQ.mid ⟨rfl, rfl, rfl, rfl, rfl, rfl, rfl, trivial⟩ ⟨rfl, rfl, rfl, rfl, rfl, rfl, rfl, rfl, rfl, rfl, trivial⟩ rfl
                · refine HQ.on rfl rfl hg55 ?_
                  refine HQ.pu Pu.move ⟨rfl, trivial⟩ rfl rfl rfl ?_
                  refine HQ.on rfl rfl hg55 ?_
                  refine HQ.pu Pu.move ⟨rfl, trivial⟩ rfl rfl rfl ?_
                  refine HQ.on rfl rfl hg55 ?_
                  refine HQ.pu Pu.neq ⟨rfl, rfl, trivial⟩ rfl rfl rfl ?_
                  refine HQ.pu (Pu.pickOF hg55) ⟨rfl, rfl, trivial⟩ rfl rfl rfl ?_
                  exact HQ.mid ⟨rfl, rfl, rfl, rfl, rfl, rfl, rfl, trivial⟩ ⟨rfl, rfl, rfl, rfl, rfl, rfl, rfl, rfl, rfl, rfl, trivial⟩ rfl
              refine HQ.pu Pu.move ⟨rfl, trivial⟩ rfl rfl rfl ?_
              refine HQ.cutAt 4 [(110, .bool (((!t53) || (!decide (t48.2.1 = t5.2.1))) || (!(t48.2.2 == t5.2.2)))), (4, .bool false), (9, BP b18 0), (13, .int .i64 t39.1), (14, .int .i64 t42)] [(1, OwnS kU8 a3 c4 t1), (2, OwnS kTChange a7 c8 t5.1.Puts), (3, Box b9 [.int .i64 t5.1.Seq, .int .i64 t5.1.Root, .int .i64 t5.1.Size, .slice a7 (List.length t5.1.Puts) c8]), (4, OwnS kU8 a12 c13 t29.2), (5, OwnS kTChange a16 c17 t39.2), (6, Box b18 [.int .i64 t14.1.Seq, .int .i64 t14.1.Root, .int .i64 t14.1.Size, .slice a16 (List.length t39.2) c17]), (7, OwnS kU8 a25 c26 t23), (8, OwnS kU8 a46 c47 t44), (9, OwnS kTChange a50 c51 t48.1.Puts), (10, Box b52 [.int .i64 t48.1.Seq, .int .i64 t48.1.Root, .int .i64 t48.1.Size, .slice a50 (List.length t48.1.Puts) c51])] ?_ ?_
              · rcases Bool.eq_false_or_eq_true ((!t53) || (!decide (t48.2.1 = t5.2.1))) with hg56 | hg56
                · refine HQ.off rfl rfl hg56 rfl ?_
                  refine HQ.off rfl rfl hg56 rfl ?_
                  refine HQ.off rfl rfl hg56 rfl ?_
                  refine HQ.pu (Pu.pickOT (u := (!(t48.2.2 == t5.2.2))) hg56) ⟨rfl, rfl, trivial⟩ rfl rfl rfl ?_
                  exact HQ.mid ⟨rfl, rfl, rfl, rfl, rfl, trivial⟩ ⟨rfl, rfl, rfl, rfl, rfl, rfl, rfl, rfl, rfl, rfl, trivial⟩ rfl
                · refine HQ.on rfl rfl hg56 ?_
                  refine HQ.pu Pu.move ⟨rfl, trivial⟩ rfl rfl rfl ?_
                  refine HQ.on rfl rfl hg56 ?_
                  refine HQ.pu Pu.move ⟨rfl, trivial⟩ rfl rfl rfl ?_
                  refine HQ.on rfl rfl hg56 ?_
                  refine HQ.pu (Pu.neqB ul4) ⟨rfl, rfl, trivial⟩ rfl rfl rfl ?_
                  refine HQ.pu (Pu.pickOF hg56) ⟨rfl, rfl, trivial⟩ rfl rfl rfl ?_
                  exact HQ.mid ⟨rfl, rfl, rfl, rfl, rfl, trivial⟩ ⟨rfl, rfl, rfl, rfl, rfl, rfl, rfl, rfl, rfl, rfl, trivial⟩ rfl
              refine HQ.done ?_
              refine HQ.keep [(110, _), (4, _), (9, _), (13, _), (14, _)] ⟨rfl, rfl, rfl, rfl, rfl, trivial⟩ ?_
              rcases brk H with ⟨hc, H⟩ | ⟨hc, H⟩
              · refine HQ.condT rfl hc ?_
                clear hc
                refine HQ.rseq ?_
                refine HQ.pu Pu.assign ⟨rfl, trivial⟩ rfl rfl rfl ?_
                refine HQ.done ?_
                refine HQ.keep [(4, _), (9, _), (13, _), (14, _)] ⟨rfl, rfl, rfl, rfl, trivial⟩ ?_
                refine HQ.ret ?_
                refine HQ.thenR ?_
                obtain rfl := Option.some.inj H
                exact HQ.fin (vs := [_]) Try.results6 () ⟨rfl, trivial⟩ rfl [] trivial rfl
              · refine HQ.condF rfl hc ?_
                clear hc
                refine HQ.skipThen ?_
                refine HQ.rseq ?_
                refine HQ.pu Pu.assign ⟨rfl, trivial⟩ rfl rfl rfl ?_
                refine HQ.done ?_
                refine HQ.keep [(4, _), (9, _), (13, _), (14, _)] ⟨rfl, rfl, rfl, rfl, trivial⟩ ?_
                refine HQ.rseq ?_
                refine HQ.op [6] [6] (OT.loadBA (vs := [.int .i64 t14.1.Seq, .int .i64 t14.1.Root, .int .i64 t14.1.Size, .slice a16 (List.length t39.2) c17]) ag47 sz47 rfl rfl) ⟨rfl, trivial⟩ ⟨rfl, trivial⟩ rfl rfl rfl rfl (fun _ => rfl) fun _ => ?_
                refine HQ.pu Pu.move ⟨rfl, trivial⟩ rfl rfl rfl ?_
                obtain ⟨t57, h58, H⟩ := bnd H
                refine HQ.op [5] [5] (OT.call (us := [_, _]) (Pre := [OwnS kTChange a16 c17 t39.2]) [.tmp 111, .tmp 112] Try.call33 rfl rfl fun w F hs hF hp => laws_heldTx_c (hs.lend hF 0 rfl) h58) ⟨rfl, rfl, rfl, trivial⟩ ⟨rfl, trivial⟩ rfl rfl rfl rfl (fun _ => rfl) fun _ => ?_
                refine HQ.pu Pu.assign ⟨rfl, trivial⟩ rfl rfl rfl ?_
                refine HQ.done ?_
                refine HQ.keep [(4, _), (13, _), (14, _)] ⟨rfl, rfl, rfl, trivial⟩ ?_
                refine HQ.seq ?_
                refine HQ.rseq ?_
                refine HQ.pu Pu.move ⟨rfl, trivial⟩ rfl rfl rfl ?_
                refine HQ.pu Pu.lss ⟨rfl, rfl, trivial⟩ rfl rfl rfl ?_
                refine HQ.done ?_
                refine HQ.keep [(4, _), (13, _), (14, _), (115, _)] ⟨rfl, rfl, rfl, rfl, trivial⟩ ?_
                rcases brk H with ⟨hc, H⟩ | ⟨hc, H⟩
                · refine HQ.condT rfl hc ?_
                  clear hc
                  refine HQ.rseq ?_
                  refine HQ.pu Pu.assign ⟨rfl, trivial⟩ rfl rfl rfl ?_
                  refine HQ.done ?_
                  refine HQ.keep [(4, _), (13, _), (14, _)] ⟨rfl, rfl, rfl, trivial⟩ ?_
                  refine HQ.ret ?_
                  refine HQ.thenR ?_
                  obtain rfl := Option.some.inj H
                  exact HQ.fin (vs := [_]) Try.results6 () ⟨rfl, trivial⟩ rfl [] trivial rfl
                · refine HQ.condF rfl hc ?_
                  clear hc
                  refine HQ.skipThen ?_
                  refine HQ.seq ?_
                  refine HQ.rseq ?_
                  refine HQ.pu Pu.move ⟨rfl, trivial⟩ rfl rfl rfl ?_
                  refine HQ.pu Pu.move ⟨rfl, trivial⟩ rfl rfl rfl ?_
                  refine HQ.pu Pu.neq ⟨rfl, rfl, trivial⟩ rfl rfl rfl ?_
                  refine HQ.done ?_
                  refine HQ.keep [(4, _), (118, _)] ⟨rfl, rfl, trivial⟩ ?_
                  rcases brk H with ⟨hc, H⟩ | ⟨hc, H⟩
                  · refine HQ.condT rfl hc ?_
                    clear hc
                    refine HQ.rseq ?_
                    refine HQ.pu Pu.assign ⟨rfl, trivial⟩ rfl rfl rfl ?_
                    refine HQ.done ?_
                    refine HQ.keep [(4, _)] ⟨rfl, trivial⟩ ?_
                    refine HQ.ret ?_
                    refine HQ.thenR ?_
                    obtain rfl := Option.some.inj H
                    exact HQ.fin (vs := [_]) Try.results6 () ⟨rfl, trivial⟩ rfl [] trivial rfl
                  · refine HQ.condF rfl hc ?_
                    clear hc
                    refine HQ.skipThen ?_
                    refine HQ.rseq ?_
                    refine HQ.pu Pu.assign ⟨rfl, trivial⟩ rfl rfl rfl ?_
                    refine HQ.done ?_
                    refine HQ.keep [(4, _)] ⟨rfl, trivial⟩ ?_
                    refine HQ.ret ?_
                    obtain rfl := Option.some.inj H
                    exact HQ.fin (vs := [_]) Try.results6 () ⟨rfl, trivial⟩ rfl [] trivial rfl

end Go.Proofs.Sx
