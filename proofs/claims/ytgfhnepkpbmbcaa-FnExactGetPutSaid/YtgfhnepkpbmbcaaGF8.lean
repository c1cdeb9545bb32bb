import Derived.Test.YtgfhnepkpbmbcaaGF7
import Derived.KernelRfl
namespace Go.Proofs.Sx
open Go.RowKit
set_option linter.unusedVariables false
set_option linter.unusedSimpArgs false
set_option maxRecDepth 20000
set_option maxHeartbeats 1000000
/-! laws.FnExactGetPut -/
theorem laws_FnExactGetPut_c {w : World} {k : Nat} {p0 : Int} {p1 : (List Int)} {a_0 : Option Addr} {c_0 : Nat} (hb_0 : BorS kU8 a_0 c_0 p1 w.heap (Lt w Nil)) {r : Bool} (H : laws_FnExactGetPut k p0 p1 = some r) :
    Calls Try.prog 10 #[.int .i64 p0, .slice a_0 (List.length p1) c_0] w (Rt w Nil (fun _ : Unit => .bool r) (fun _ => [])) := by
  rw [laws_FnExactGetPut] at H
  refine Calls.enter0 (N := 98) (us := [_, _]) Try.func10 rfl rfl rfl ?_
  refine HQ.rseq ?_
  refine HQ.pu Pu.assign ⟨rfl, trivial⟩ rfl rfl rfl ?_
  refine HQ.done ?_
  refine HQ.keep [(0, _), (1, _), (4, _)] ⟨rfl, rfl, rfl, trivial⟩ ?_
  refine HQ.seq ?_
  refine HQ.rseq ?_
  refine HQ.pu Pu.move ⟨rfl, trivial⟩ rfl rfl rfl ?_
  refine HQ.pu (Pu.len ul37) ⟨rfl, trivial⟩ rfl rfl rfl ?_
  refine HQ.pu Pu.gtr ⟨rfl, rfl, trivial⟩ rfl rfl rfl ?_
  refine HQ.done ?_
  refine HQ.keep [(0, _), (1, _), (4, _), (17, _)] ⟨rfl, rfl, rfl, rfl, trivial⟩ ?_
  rcases brk H with ⟨hc, H⟩ | ⟨hc, H⟩
  · refine HQ.condT rfl hc ?_
    clear hc
    refine HQ.rseq ?_
    refine HQ.pu Pu.assign ⟨rfl, trivial⟩ rfl rfl rfl ?_
    refine HQ.done ?_
    refine HQ.keep [(0, _), (1, _), (4, _)] ⟨rfl, rfl, rfl, trivial⟩ ?_
    refine HQ.ret ?_
    refine HQ.thenR ?_
    obtain rfl := Option.some.inj H
    exact HQ.fin (vs := [_]) Try.results10 () ⟨rfl, trivial⟩ rfl [] trivial rfl
  · refine HQ.condF rfl hc ?_
    clear hc
    refine HQ.skipThen ?_
    refine HQ.rseq ?_
    refine HQ.pu Pu.move ⟨rfl, trivial⟩ rfl rfl rfl ?_
    refine HQ.pu Pu.move ⟨rfl, trivial⟩ rfl rfl rfl ?_
    obtain ⟨t1, h2, H⟩ := bnd H
    refine HQ.op [] [1] (OT.call (us := [_]) (Pre := []) [.tmp 20] Try.call27 rfl rfl fun w F hs hF hp => laws_toByteS_c (hb_0.pass hp) h2) ⟨rfl, rfl, trivial⟩ trivial rfl rfl rfl rfl (fun _ => rfl) fun ⟨a3, c4⟩ => ?_
    obtain ⟨t5, h6, H⟩ := bnd H
    refine HQ.op [1] [2, 1] (OT.call (us := [_, _]) (Pre := [OwnS kU8 a3 c4 t1]) [.tmp 19, .tmp 21] Try.call52 rfl rfl fun w F hs hF hp => spec_GetPut_c (hs.lend hF 0 rfl) h6) ⟨rfl, rfl, rfl, trivial⟩ ⟨rfl, trivial⟩ rfl rfl rfl rfl (fun _ => rfl) fun ⟨a7, c8⟩ => ?_
    refine HQ.pu Pu.move ⟨rfl, trivial⟩ rfl rfl rfl ?_
    refine HQ.pu (Pu.extract rfl) ⟨rfl, trivial⟩ rfl rfl rfl ?_
    refine HQ.pu (Pu.extract rfl) ⟨rfl, trivial⟩ rfl rfl rfl ?_
    refine HQ.op [] [3] (OT.alloc zc81) trivial trivial rfl rfl rfl rfl (fun _ => rfl) fun b9 => ?_
    refine HQ.opN [3] [3] [] (OT.storeC (cs' := [.int .i64 t5.1.Page, .bool t5.1.N.Leaf, .slice a7 (List.length t5.1.N.L) c8]) sz81 rfl rfl rfl rfl rfl) ⟨rfl, rfl, trivial⟩ ⟨rfl, trivial⟩ rfl rfl rfl (fun _ => rfl) fun _ => ?_
    refine HQ.pu Pu.assign ⟨rfl, trivial⟩ rfl rfl rfl ?_
    refine HQ.done ?_
    refine HQ.keep [(0, _), (1, _), (4, _), (5, _), (6, _)] ⟨rfl, rfl, rfl, rfl, rfl, trivial⟩ ?_
    refine HQ.rseq ?_
    refine HQ.pu Pu.move ⟨rfl, trivial⟩ rfl rfl rfl ?_
    obtain ⟨t10, h11, H⟩ := bnd H
    refine HQ.op [] [4] (OT.call (us := [_]) (Pre := []) [.tmp 25] Try.call27 rfl rfl fun w F hs hF hp => laws_toByteS_c (hb_0.pass hp) h11) ⟨rfl, rfl, trivial⟩ trivial rfl rfl rfl rfl (fun _ => rfl) fun ⟨a12, c13⟩ => ?_
    refine HQ.pu Pu.assign ⟨rfl, trivial⟩ rfl rfl rfl ?_
    refine HQ.done ?_
    refine HQ.keep [(0, _), (1, _), (4, _), (5, _), (6, _), (7, _)] ⟨rfl, rfl, rfl, rfl, rfl, rfl, trivial⟩ ?_
    refine HQ.rseq ?_
    refine HQ.pu Pu.move ⟨rfl, trivial⟩ rfl rfl rfl ?_
    refine HQ.pu Pu.move ⟨rfl, trivial⟩ rfl rfl rfl ?_
    obtain ⟨t14, h15, H⟩ := bnd H
    refine HQ.op [4] [5, 4] (OT.call (us := [_, _]) (Pre := [OwnS kU8 a12 c13 t10]) [.tmp 28, .tmp 29] Try.call53 rfl rfl fun w F hs hF hp => impl_GetPut_c (hs.lend hF 0 rfl) h15) ⟨rfl, rfl, rfl, trivial⟩ ⟨rfl, trivial⟩ rfl rfl rfl rfl (fun _ => rfl) fun ⟨a16, c17⟩ => ?_
    refine HQ.pu Pu.move ⟨rfl, trivial⟩ rfl rfl rfl ?_
    refine HQ.pu (Pu.extract rfl) ⟨rfl, trivial⟩ rfl rfl rfl ?_
    refine HQ.pu (Pu.extract rfl) ⟨rfl, trivial⟩ rfl rfl rfl ?_
    refine HQ.op [] [6] (OT.alloc zc81) trivial trivial rfl rfl rfl rfl (fun _ => rfl) fun b18 => ?_
    refine HQ.opN [6] [6] [] (OT.storeC (cs' := [.int .i64 t14.1.Page, .bool t14.1.N.Leaf, .slice a16 (List.length t14.1.N.L) c17]) sz81 rfl rfl rfl rfl rfl) ⟨rfl, rfl, trivial⟩ ⟨rfl, trivial⟩ rfl rfl rfl (fun _ => rfl) fun _ => ?_
    refine HQ.pu Pu.assign ⟨rfl, trivial⟩ rfl rfl rfl ?_
    refine HQ.done ?_
    refine HQ.keep [(0, _), (1, _), (4, _), (5, _), (6, _), (7, _), (8, _), (9, _)] ⟨rfl, rfl, rfl, rfl, rfl, rfl, rfl, rfl, trivial⟩ ?_
    refine HQ.seq ?_
    refine HQ.rseq ?_
    refine HQ.op [6] [6] (OT.loadBA (vs := [.int .i64 t14.1.Page, .bool t14.1.N.Leaf, .slice a16 (List.length t14.1.N.L) c17]) ag81 sz81 rfl rfl) ⟨rfl, trivial⟩ ⟨rfl, trivial⟩ rfl rfl rfl rfl (fun _ => rfl) fun _ => ?_
    refine HQ.op [3] [3] (OT.loadBA (vs := [.int .i64 t5.1.Page, .bool t5.1.N.Leaf, .slice a7 (List.length t5.1.N.L) c8]) ag81 sz81 rfl rfl) ⟨rfl, trivial⟩ ⟨rfl, trivial⟩ rfl rfl rfl rfl (fun _ => rfl) fun _ => ?_
    obtain ⟨t19, h20, H⟩ := bnd H
    refine HQ.op [5, 2] [5, 2] (OT.call (us := [_, _]) (Pre := [OwnS kTEntry a16 c17 t14.1.N.L, OwnS kTEntry a7 c8 t5.1.N.L]) [.tmp 33, .tmp 34] Try.call54 rfl rfl fun w F hs hF hp => laws_eqChange_c (hs.lend hF 0 rfl) (hs.lend hF 1 rfl) h20) ⟨rfl, rfl, rfl, trivial⟩ ⟨rfl, rfl, trivial⟩ rfl rfl rfl rfl (fun _ => rfl) fun _ => ?_
    refine HQ.pu Pu.not ⟨rfl, trivial⟩ rfl rfl rfl ?_
    refine HQ.pu Pu.move ⟨rfl, trivial⟩ rfl rfl rfl ?_
    refine HQ.cutAt 4 [(41, .bool ((!t19) || (!(t14.2 == t5.2)))), (0, .int .i64 p0), (1, .slice a_0 (List.length p1) c_0), (4, .bool false), (5, BP b9 0), (6, .bool t5.2), (7, .slice a12 (List.length t10) c13), (8, BP b18 0), (9, .bool t14.2)] [(1, OwnS kU8 a3 c4 t1), (2, OwnS kTEntry a7 c8 t5.1.N.L), (3, Box b9 [.int .i64 t5.1.Page, .bool t5.1.N.Leaf, .slice a7 (List.length t5.1.N.L) c8]), (4, OwnS kU8 a12 c13 t10), (5, OwnS kTEntry a16 c17 t14.1.N.L), (6, Box b18 [.int .i64 t14.1.Page, .bool t14.1.N.Leaf, .slice a16 (List.length t14.1.N.L) c17])] ?_ ?_
    · rcases Bool.eq_false_or_eq_true (!t19) with hg21 | hg21
      · refine HQ.off rfl rfl hg21 rfl ?_
        refine HQ.off rfl rfl hg21 rfl ?_
        refine HQ.off rfl rfl hg21 rfl ?_
        refine HQ.pu (Pu.pickOT (u := (!(t14.2 == t5.2))) hg21) ⟨rfl, rfl, trivial⟩ rfl rfl rfl ?_
        exact HQ.mid ⟨rfl, rfl, rfl, rfl, rfl, rfl, rfl, rfl, rfl, trivial⟩ ⟨rfl, rfl, rfl, rfl, rfl, rfl, trivial⟩ rfl
      · refine HQ.on rfl rfl hg21 ?_
        refine HQ.pu Pu.move ⟨rfl, trivial⟩ rfl rfl rfl ?_
        refine HQ.on rfl rfl hg21 ?_
        refine HQ.pu Pu.move ⟨rfl, trivial⟩ rfl rfl rfl ?_
        refine HQ.on rfl rfl hg21 ?_
        refine HQ.pu (Pu.neqB ul4) ⟨rfl, rfl, trivial⟩ rfl rfl rfl ?_
        refine HQ.pu (Pu.pickOF hg21) ⟨rfl, rfl, trivial⟩ rfl rfl rfl ?_
        exact HQ.mid ⟨rfl, rfl, rfl, rfl, rfl, rfl, rfl, rfl, rfl, trivial⟩ ⟨rfl, rfl, rfl, rfl, rfl, rfl, trivial⟩ rfl
    refine HQ.done ?_
    refine HQ.keep [(41, _), (0, _), (1, _), (4, _), (5, _), (6, _), (7, _), (8, _), (9, _)] ⟨rfl, rfl, rfl, rfl, rfl, rfl, rfl, rfl, rfl, trivial⟩ ?_
    rcases brk H with ⟨hc, H⟩ | ⟨hc, H⟩
    · refine HQ.condT rfl hc ?_
      clear hc
      refine HQ.rseq ?_
      refine HQ.pu Pu.assign ⟨rfl, trivial⟩ rfl rfl rfl ?_
      refine HQ.done ?_
      refine HQ.keep [(0, _), (1, _), (4, _), (5, _), (6, _), (7, _), (8, _), (9, _)] ⟨rfl, rfl, rfl, rfl, rfl, rfl, rfl, rfl, trivial⟩ ?_
      refine HQ.ret ?_
      refine HQ.thenR ?_
      obtain rfl := Option.some.inj H
      exact HQ.fin (vs := [_]) Try.results10 () ⟨rfl, trivial⟩ rfl [] trivial rfl
    · refine HQ.condF rfl hc ?_
      clear hc
      refine HQ.skipThen ?_
      refine HQ.seq ?_
      refine HQ.rseq ?_
      refine HQ.pu Pu.move ⟨rfl, trivial⟩ rfl rfl rfl ?_
      refine HQ.pu Pu.move ⟨rfl, trivial⟩ rfl rfl rfl ?_
      obtain ⟨t22, h23, H⟩ := bnd H
      refine HQ.op [] [7] (OT.call (us := [_]) (Pre := []) [.tmp 43] Try.call27 rfl rfl fun w F hs hF hp => laws_toByteS_c (hb_0.pass hp) h23) ⟨rfl, rfl, trivial⟩ trivial rfl rfl rfl rfl (fun _ => rfl) fun ⟨a24, c25⟩ => ?_
      obtain ⟨t26, h27, H⟩ := bnd H
      refine HQ.op [4, 7] [4, 7] (OT.call (us := [_, _]) (Pre := [OwnS kU8 a12 c13 t10, OwnS kU8 a24 c25 t22]) [.tmp 42, .tmp 44] Try.call30 rfl rfl fun w F hs hF hp => laws_eqByteS_c (hs.lend hF 0 rfl) (hs.lend hF 1 rfl) h27) ⟨rfl, rfl, rfl, trivial⟩ ⟨rfl, rfl, trivial⟩ rfl rfl rfl rfl (fun _ => rfl) fun _ => ?_
      refine HQ.pu Pu.not ⟨rfl, trivial⟩ rfl rfl rfl ?_
      refine HQ.done ?_
      refine HQ.keep [(0, _), (1, _), (4, _), (5, _), (6, _), (7, _), (8, _), (9, _), (46, _)] ⟨rfl, rfl, rfl, rfl, rfl, rfl, rfl, rfl, rfl, trivial⟩ ?_
      rcases brk H with ⟨hc, H⟩ | ⟨hc, H⟩
      · refine HQ.condT rfl hc ?_
        clear hc
        refine HQ.rseq ?_
        refine HQ.pu Pu.assign ⟨rfl, trivial⟩ rfl rfl rfl ?_
        refine HQ.done ?_
        refine HQ.keep [(0, _), (1, _), (4, _), (5, _), (6, _), (7, _), (8, _), (9, _)] ⟨rfl, rfl, rfl, rfl, rfl, rfl, rfl, rfl, trivial⟩ ?_
        refine HQ.ret ?_
        refine HQ.thenR ?_
        obtain rfl := Option.some.inj H
        exact HQ.fin (vs := [_]) Try.results10 () ⟨rfl, trivial⟩ rfl [] trivial rfl
      · refine HQ.condF rfl hc ?_
        clear hc
        refine HQ.skipThen ?_
        refine HQ.rseq ?_
        refine HQ.pu Pu.assign ⟨rfl, trivial⟩ rfl rfl rfl ?_
        refine HQ.done ?_
        refine HQ.keep [(0, _), (1, _), (4, _), (5, _), (6, _), (7, _), (8, _), (9, _), (10, _)] ⟨rfl, rfl, rfl, rfl, rfl, rfl, rfl, rfl, rfl, trivial⟩ ?_
        refine HQ.rseq ?_
        refine HQ.pu Pu.move ⟨rfl, trivial⟩ rfl rfl rfl ?_
        refine HQ.pu Pu.move ⟨rfl, trivial⟩ rfl rfl rfl ?_
        obtain ⟨t28, h29, H⟩ := bnd H
        obtain ⟨h30, H⟩ := asr H
        refine HQ.op [4] [4] (OT.callM (us := [_, _]) (PreX := [OwnS kU8 a12 c13 t10]) (PreL := []) [.tmp 47, .tmp 48] Try.call32 rfl rfl fun w FX FL hs1 hF1 hs2 hF2 hp => laws_markByteS_c (p0 := t10) (p1 := 1) hs1 hF1 h29) ⟨rfl, rfl, rfl, trivial⟩ ⟨rfl, trivial⟩ rfl rfl rfl rfl (fun _ => rfl) fun _ => ?_
        refine HQ.re (v' := .slice a12 (List.length t28.2) c13) 7 rfl (by simp [h30]) ?_
        refine HQ.re (v' := .slice a12 (List.length t28.2) c13) 47 rfl (by simp [h30]) ?_
        refine HQ.pu Pu.assign ⟨rfl, trivial⟩ rfl rfl rfl ?_
        refine HQ.done ?_
        refine HQ.keep [(0, _), (1, _), (4, _), (5, _), (6, _), (8, _), (9, _), (10, _)] ⟨rfl, rfl, rfl, rfl, rfl, rfl, rfl, rfl, trivial⟩ ?_
        refine HQ.seq ?_
        refine HQ.rseq ?_
        refine HQ.pu Pu.move ⟨rfl, trivial⟩ rfl rfl rfl ?_
        refine HQ.pu Pu.lss ⟨rfl, rfl, trivial⟩ rfl rfl rfl ?_
        refine HQ.pu Pu.move ⟨rfl, trivial⟩ rfl rfl rfl ?_
        obtain ⟨c34, h35, H⟩ := bnd H
        refine HQ.cutAt 5 [(57, .bool c34), (0, .int .i64 p0), (1, .slice a_0 (List.length p1) c_0), (4, .bool false), (5, BP b9 0), (6, .bool t5.2), (8, BP b18 0), (9, .bool t14.2)] [(1, OwnS kU8 a3 c4 t1), (2, OwnS kTEntry a7 c8 t5.1.N.L), (3, Box b9 [.int .i64 t5.1.Page, .bool t5.1.N.Leaf, .slice a7 (List.length t5.1.N.L) c8]), (4, OwnS kU8 a12 c13 t28.2), (5, OwnS kTEntry a16 c17 t14.1.N.L), (6, Box b18 [.int .i64 t14.1.Page, .bool t14.1.N.Leaf, .slice a16 (List.length t14.1.N.L) c17]), (7, OwnS kU8 a24 c25 t22)] ?_ ?_
        · clear H
          have H := h35
          rcases brk H with ⟨hg31, H⟩ | ⟨hg31, H⟩
          · obtain rfl := Option.some.inj H
            refine HQ.off rfl rfl hg31 rfl ?_
            refine HQ.off rfl rfl hg31 rfl ?_
            refine HQ.off rfl rfl hg31 rfl ?_
            refine HQ.off rfl rfl hg31 rfl ?_
            refine HQ.pu (Pu.pickC1 hg31) ⟨rfl, rfl, trivial⟩ rfl rfl rfl ?_
            exact HQ.mid ⟨rfl, rfl, rfl, rfl, rfl, rfl, rfl, rfl, trivial⟩ ⟨rfl, rfl, rfl, rfl, rfl, rfl, rfl, trivial⟩ rfl
          · refine HQ.on rfl rfl hg31 ?_
            refine HQ.op [6] [6] (OT.loadBA (vs := [.int .i64 t14.1.Page, .bool t14.1.N.Leaf, .slice a16 (List.length t14.1.N.L) c17]) ag81 sz81 rfl rfl) ⟨rfl, trivial⟩ ⟨rfl, trivial⟩ rfl rfl rfl rfl (fun _ => rfl) fun _ => ?_
            refine HQ.on rfl rfl hg31 ?_
            refine HQ.op [3] [3] (OT.loadBA (vs := [.int .i64 t5.1.Page, .bool t5.1.N.Leaf, .slice a7 (List.length t5.1.N.L) c8]) ag81 sz81 rfl rfl) ⟨rfl, trivial⟩ ⟨rfl, trivial⟩ rfl rfl rfl rfl (fun _ => rfl) fun _ => ?_
            refine HQ.on rfl rfl hg31 ?_
            obtain ⟨t32, h33, H⟩ := bnd H
            refine HQ.op [5, 2] [5, 2] (OT.call (us := [_, _]) (Pre := [OwnS kTEntry a16 c17 t14.1.N.L, OwnS kTEntry a7 c8 t5.1.N.L]) [.tmp 53, .tmp 54] Try.call54 rfl rfl fun w F hs hF hp => laws_eqChange_c (hs.lend hF 0 rfl) (hs.lend hF 1 rfl) h33) ⟨rfl, rfl, rfl, trivial⟩ ⟨rfl, rfl, trivial⟩ rfl rfl rfl rfl (fun _ => rfl) fun _ => ?_
            refine HQ.on rfl rfl hg31 ?_
            refine HQ.pu Pu.not ⟨rfl, trivial⟩ rfl rfl rfl ?_
            obtain rfl := Option.some.inj H
            refine HQ.pu (Pu.pickC0 hg31) ⟨rfl, rfl, trivial⟩ rfl rfl rfl ?_
            exact HQ.mid ⟨rfl, rfl, rfl, rfl, rfl, rfl, rfl, rfl, trivial⟩ ⟨rfl, rfl, rfl, rfl, rfl, rfl, rfl, trivial⟩ rfl
        refine HQ.pu Pu.move ⟨rfl, trivial⟩ rfl rfl rfl ?_
        refine HQ.cutAt 4 [(62, .bool (c34 || (!(t14.2 == t5.2)))), (0, .int .i64 p0), (1, .slice a_0 (List.length p1) c_0), (4, .bool false), (5, BP b9 0), (6, .bool t5.2), (8, BP b18 0)] [(1, OwnS kU8 a3 c4 t1), (2, OwnS kTEntry a7 c8 t5.1.N.L), (3, Box b9 [.int .i64 t5.1.Page, .bool t5.1.N.Leaf, .slice a7 (List.length t5.1.N.L) c8]), (4, OwnS kU8 a12 c13 t28.2), (5, OwnS kTEntry a16 c17 t14.1.N.L), (6, Box b18 [.int .i64 t14.1.Page, .bool t14.1.N.Leaf, .slice a16 (List.length t14.1.N.L) c17]), (7, OwnS kU8 a24 c25 t22)] ?_ ?_
        · rcases Bool.eq_false_or_eq_true c34 with hg36 | hg36
          · refine HQ.off rfl rfl hg36 rfl ?_
            refine HQ.off rfl rfl hg36 rfl ?_
            refine HQ.off rfl rfl hg36 rfl ?_
            refine HQ.pu (Pu.pickOT (u := (!(t14.2 == t5.2))) hg36) ⟨rfl, rfl, trivial⟩ rfl rfl rfl ?_
            exact HQ.mid ⟨rfl, rfl, rfl, rfl, rfl, rfl, rfl, trivial⟩ ⟨rfl, rfl, rfl, rfl, rfl, rfl, rfl, trivial⟩ rfl
          · refine HQ.on rfl rfl hg36 ?_
            refine HQ.pu Pu.move ⟨rfl, trivial⟩ rfl rfl rfl ?_
            refine HQ.on rfl rfl hg36 ?_
            refine HQ.pu Pu.move ⟨rfl, trivial⟩ rfl rfl rfl ?_
            refine HQ.on rfl rfl hg36 ?_
            refine HQ.pu (Pu.neqB ul4) ⟨rfl, rfl, trivial⟩ rfl rfl rfl ?_
            refine HQ.pu (Pu.pickOF hg36) ⟨rfl, rfl, trivial⟩ rfl rfl rfl ?_
            exact HQ.mid ⟨rfl, rfl, rfl, rfl, rfl, rfl, rfl, trivial⟩ ⟨rfl, rfl, rfl, rfl, rfl, rfl, rfl, trivial⟩ rfl
        refine HQ.done ?_
        refine HQ.keep [(62, _), (0, _), (1, _), (4, _), (5, _), (6, _), (8, _)] ⟨rfl, rfl, rfl, rfl, rfl, rfl, rfl, trivial⟩ ?_
        rcases brk H with ⟨hc, H⟩ | ⟨hc, H⟩
        · refine HQ.condT rfl hc ?_
          clear hc
          refine HQ.rseq ?_
          refine HQ.pu Pu.assign ⟨rfl, trivial⟩ rfl rfl rfl ?_
          refine HQ.done ?_
          refine HQ.keep [(0, _), (1, _), (4, _), (5, _), (6, _), (8, _)] ⟨rfl, rfl, rfl, rfl, rfl, rfl, trivial⟩ ?_
          refine HQ.ret ?_
          refine HQ.thenR ?_
          obtain rfl := Option.some.inj H
          exact HQ.fin (vs := [_]) Try.results10 () ⟨rfl, trivial⟩ rfl [] trivial rfl
        · refine HQ.condF rfl hc ?_
          clear hc
          refine HQ.skipThen ?_
          refine HQ.rseq ?_
          refine HQ.pu Pu.assign ⟨rfl, trivial⟩ rfl rfl rfl ?_
          refine HQ.done ?_
          refine HQ.keep [(0, _), (1, _), (4, _), (5, _), (6, _), (8, _), (11, _)] ⟨rfl, rfl, rfl, rfl, rfl, rfl, rfl, trivial⟩ ?_
          refine HQ.rseq ?_
          refine HQ.op [6] [6] (OT.loadBA (vs := [.int .i64 t14.1.Page, .bool t14.1.N.Leaf, .slice a16 (List.length t14.1.N.L) c17]) ag81 sz81 rfl rfl) ⟨rfl, trivial⟩ ⟨rfl, trivial⟩ rfl rfl rfl rfl (fun _ => rfl) fun _ => ?_
          refine HQ.pu Pu.move ⟨rfl, trivial⟩ rfl rfl rfl ?_
          obtain ⟨t37, h38, H⟩ := bnd H
          obtain ⟨h39, H⟩ := asr H
          refine HQ.op [5] [5] (OT.callM (us := [_, _]) (PreX := [OwnS kTEntry a16 c17 t14.1.N.L]) (PreL := []) [.tmp 63, .tmp 64] Try.call55 rfl rfl fun w FX FL hs1 hF1 hs2 hF2 hp => laws_markChange_c (p0 := t14.1) (p1 := 1) hs1 hF1 h38) ⟨rfl, rfl, rfl, trivial⟩ ⟨rfl, trivial⟩ rfl rfl rfl rfl (fun _ => rfl) fun _ => ?_
          refine HQ.re (v' := .agg #[.int .i64 t14.1.Page, .bool t14.1.N.Leaf, .slice a16 (List.length t37.2) c17]) 63 rfl (by simp [h30, h39]) ?_
          refine HQ.reR (B := Box b18 [.int .i64 t14.1.Page, .bool t14.1.N.Leaf, .slice a16 (List.length t37.2) c17]) 6 rfl (fun _ _ hb => by rw [show List.length t37.2 = List.length t14.1.N.L from (by simp [h30, h39])]; exact hb) ?_
          refine HQ.pu Pu.assign ⟨rfl, trivial⟩ rfl rfl rfl ?_
          refine HQ.done ?_
          refine HQ.keep [(0, _), (1, _), (4, _), (5, _), (6, _), (8, _), (11, _)] ⟨rfl, rfl, rfl, rfl, rfl, rfl, rfl, trivial⟩ ?_
          refine HQ.rseq ?_
          refine HQ.pu Pu.assign ⟨rfl, trivial⟩ rfl rfl rfl ?_
          refine HQ.done ?_
          refine HQ.keep [(0, _), (1, _), (4, _), (5, _), (6, _), (8, _), (11, _), (12, _)] ⟨rfl, rfl, rfl, rfl, rfl, rfl, rfl, rfl, trivial⟩ ?_
          refine HQ.rseq ?_
          refine HQ.op [6] [6] (OT.loadBA (vs := [.int .i64 t14.1.Page, .bool t14.1.N.Leaf, .slice a16 (List.length t37.2) c17]) ag81 sz81 rfl rfl) ⟨rfl, trivial⟩ ⟨rfl, trivial⟩ rfl rfl rfl rfl (fun _ => rfl) fun _ => ?_
          refine HQ.pu Pu.move ⟨rfl, trivial⟩ rfl rfl rfl ?_
          obtain ⟨t40, h41, H⟩ := bnd H
          refine HQ.op [5] [5] (OT.call (us := [_, _]) (Pre := [OwnS kTEntry a16 c17 t37.2]) [.tmp 66, .tmp 67] Try.call56 rfl rfl fun w F hs hF hp => laws_heldChange_c (hs.lend hF 0 rfl) h41) ⟨rfl, rfl, rfl, trivial⟩ ⟨rfl, trivial⟩ rfl rfl rfl rfl (fun _ => rfl) fun _ => ?_
          refine HQ.pu Pu.assign ⟨rfl, trivial⟩ rfl rfl rfl ?_
          refine HQ.done ?_
          refine HQ.keep [(0, _), (1, _), (4, _), (5, _), (6, _), (8, _), (11, _), (12, _)] ⟨rfl, rfl, rfl, rfl, rfl, rfl, rfl, rfl, trivial⟩ ?_
          refine HQ.seq ?_
          refine HQ.rseq ?_
          refine HQ.pu Pu.move ⟨rfl, trivial⟩ rfl rfl rfl ?_
          refine HQ.pu Pu.lss ⟨rfl, rfl, trivial⟩ rfl rfl rfl ?_
          refine HQ.done ?_
          refine HQ.keep [(0, _), (1, _), (4, _), (5, _), (6, _), (8, _), (11, _), (12, _), (70, _)] ⟨rfl, rfl, rfl, rfl, rfl, rfl, rfl, rfl, rfl, trivial⟩ ?_
          rcases brk H with ⟨hc, H⟩ | ⟨hc, H⟩
          · refine HQ.condT rfl hc ?_
            clear hc
            refine HQ.rseq ?_
            refine HQ.pu Pu.assign ⟨rfl, trivial⟩ rfl rfl rfl ?_
            refine HQ.done ?_
            refine HQ.keep [(0, _), (1, _), (4, _), (5, _), (6, _), (8, _), (11, _), (12, _)] ⟨rfl, rfl, rfl, rfl, rfl, rfl, rfl, rfl, trivial⟩ ?_
            refine HQ.ret ?_
            refine HQ.thenR ?_
            obtain rfl := Option.some.inj H
            exact HQ.fin (vs := [_]) Try.results10 () ⟨rfl, trivial⟩ rfl [] trivial rfl
          · refine HQ.condF rfl hc ?_
            clear hc
            refine HQ.skipThen ?_
            refine HQ.seq ?_
            refine HQ.rseq ?_
            refine HQ.pu Pu.move ⟨rfl, trivial⟩ rfl rfl rfl ?_
            refine HQ.pu Pu.move ⟨rfl, trivial⟩ rfl rfl rfl ?_
            refine HQ.pu Pu.neq ⟨rfl, rfl, trivial⟩ rfl rfl rfl ?_
            refine HQ.done ?_
            refine HQ.keep [(0, _), (1, _), (4, _), (5, _), (6, _), (8, _), (11, _), (73, _)] ⟨rfl, rfl, rfl, rfl, rfl, rfl, rfl, rfl, trivial⟩ ?_
            rcases brk H with ⟨hc, H⟩ | ⟨hc, H⟩
            · refine HQ.condT rfl hc ?_
              clear hc
              refine HQ.rseq ?_
              refine HQ.pu Pu.assign ⟨rfl, trivial⟩ rfl rfl rfl ?_
              refine HQ.done ?_
              refine HQ.keep [(0, _), (1, _), (4, _), (5, _), (6, _), (8, _), (11, _)] ⟨rfl, rfl, rfl, rfl, rfl, rfl, rfl, trivial⟩ ?_
              refine HQ.ret ?_
              refine HQ.thenR ?_
              obtain rfl := Option.some.inj H
              exact HQ.fin (vs := [_]) Try.results10 () ⟨rfl, trivial⟩ rfl [] trivial rfl
            · refine HQ.condF rfl hc ?_
              clear hc
              refine HQ.skipThen ?_
              refine HQ.rseq ?_
              refine HQ.pu Pu.move ⟨rfl, trivial⟩ rfl rfl rfl ?_
              refine HQ.pu Pu.move ⟨rfl, trivial⟩ rfl rfl rfl ?_
              obtain ⟨t42, h43, H⟩ := bnd H
              refine HQ.op [] [8] (OT.call (us := [_]) (Pre := []) [.tmp 76] Try.call27 rfl rfl fun w F hs hF hp => laws_toByteS_c (hb_0.pass hp) h43) ⟨rfl, rfl, trivial⟩ trivial rfl rfl rfl rfl (fun _ => rfl) fun ⟨a44, c45⟩ => ?_
              obtain ⟨t46, h47, H⟩ := bnd H
              refine HQ.op [8] [9, 8] (OT.call (us := [_, _]) (Pre := [OwnS kU8 a44 c45 t42]) [.tmp 75, .tmp 77] Try.call53 rfl rfl fun w F hs hF hp => impl_GetPut_c (hs.lend hF 0 rfl) h47) ⟨rfl, rfl, rfl, trivial⟩ ⟨rfl, trivial⟩ rfl rfl rfl rfl (fun _ => rfl) fun ⟨a48, c49⟩ => ?_
              refine HQ.pu Pu.move ⟨rfl, trivial⟩ rfl rfl rfl ?_
              refine HQ.pu (Pu.extract rfl) ⟨rfl, trivial⟩ rfl rfl rfl ?_
              refine HQ.pu (Pu.extract rfl) ⟨rfl, trivial⟩ rfl rfl rfl ?_
              refine HQ.op [] [10] (OT.alloc zc81) trivial trivial rfl rfl rfl rfl (fun _ => rfl) fun b50 => ?_
              refine HQ.opN [10] [10] [] (OT.storeC (cs' := [.int .i64 t46.1.Page, .bool t46.1.N.Leaf, .slice a48 (List.length t46.1.N.L) c49]) sz81 rfl rfl rfl rfl rfl) ⟨rfl, rfl, trivial⟩ ⟨rfl, trivial⟩ rfl rfl rfl (fun _ => rfl) fun _ => ?_
              refine HQ.pu Pu.assign ⟨rfl, trivial⟩ rfl rfl rfl ?_
              refine HQ.done ?_
              refine HQ.keep [(4, _), (5, _), (6, _), (8, _), (11, _), (13, _), (14, _)] ⟨rfl, rfl, rfl, rfl, rfl, rfl, rfl, trivial⟩ ?_
              refine HQ.seq ?_
              refine HQ.rseq ?_
              refine HQ.op [10] [10] (OT.loadBA (vs := [.int .i64 t46.1.Page, .bool t46.1.N.Leaf, .slice a48 (List.length t46.1.N.L) c49]) ag81 sz81 rfl rfl) ⟨rfl, trivial⟩ ⟨rfl, trivial⟩ rfl rfl rfl rfl (fun _ => rfl) fun _ => ?_
              refine HQ.op [3] [3] (OT.loadBA (vs := [.int .i64 t5.1.Page, .bool t5.1.N.Leaf, .slice a7 (List.length t5.1.N.L) c8]) ag81 sz81 rfl rfl) ⟨rfl, trivial⟩ ⟨rfl, trivial⟩ rfl rfl rfl rfl (fun _ => rfl) fun _ => ?_
              obtain ⟨t51, h52, H⟩ := bnd H
              refine HQ.op [9, 2] [9, 2] (OT.call (us := [_, _]) (Pre := [OwnS kTEntry a48 c49 t46.1.N.L, OwnS kTEntry a7 c8 t5.1.N.L]) [.tmp 81, .tmp 82] Try.call54 rfl rfl fun w F hs hF hp => laws_eqChange_c (hs.lend hF 0 rfl) (hs.lend hF 1 rfl) h52) ⟨rfl, rfl, rfl, trivial⟩ ⟨rfl, rfl, trivial⟩ rfl rfl rfl rfl (fun _ => rfl) fun _ => ?_
              refine HQ.pu Pu.not ⟨rfl, trivial⟩ rfl rfl rfl ?_
              refine HQ.pu Pu.move ⟨rfl, trivial⟩ rfl rfl rfl ?_
              refine HQ.cutAt 4 [(89, .bool ((!t51) || (!(t46.2 == t5.2)))), (4, .bool false), (8, BP b18 0), (11, .int .i64 t37.1)] [(1, OwnS kU8 a3 c4 t1), (2, OwnS kTEntry a7 c8 t5.1.N.L), (3, Box b9 [.int .i64 t5.1.Page, .bool t5.1.N.Leaf, .slice a7 (List.length t5.1.N.L) c8]), (4, OwnS kU8 a12 c13 t28.2), (5, OwnS kTEntry a16 c17 t37.2), (6, Box b18 [.int .i64 t14.1.Page, .bool t14.1.N.Leaf, .slice a16 (List.length t37.2) c17]), (7, OwnS kU8 a24 c25 t22), (8, OwnS kU8 a44 c45 t42), (9, OwnS kTEntry a48 c49 t46.1.N.L), (10, Box b50 [.int .i64 t46.1.Page, .bool t46.1.N.Leaf, .slice a48 (List.length t46.1.N.L) c49])] ?_ ?_
              · rcases Bool.eq_false_or_eq_true (!t51) with hg53 | hg53
                · refine HQ.off rfl rfl hg53 rfl ?_
                  refine HQ.off rfl rfl hg53 rfl ?_
                  refine HQ.off rfl rfl hg53 rfl ?_
                  refine HQ.pu (Pu.pickOT (u := (!(t46.2 == t5.2))) hg53) ⟨rfl, rfl, trivial⟩ rfl rfl rfl ?_
                  exact HQ.mid ⟨rfl, rfl, rfl, rfl, trivial⟩ ⟨rfl, rfl, rfl, rfl, rfl, rfl, rfl, rfl, rfl, rfl, trivial⟩ rfl
                · refine HQ.on rfl rfl hg53 ?_
                  refine HQ.pu Pu.move ⟨rfl, trivial⟩ rfl rfl rfl ?_
                  refine HQ.on rfl rfl hg53 ?_
                  refine HQ.pu Pu.move ⟨rfl, trivial⟩ rfl rfl rfl ?_
                  refine HQ.on rfl rfl hg53 ?_
                  refine HQ.pu (Pu.neqB ul4) ⟨rfl, rfl, trivial⟩ rfl rfl rfl ?_
                  refine HQ.pu (Pu.pickOF hg53) ⟨rfl, rfl, trivial⟩ rfl rfl rfl ?_
                  exact HQ.mid ⟨rfl, rfl, rfl, rfl, trivial⟩ ⟨rfl, rfl, rfl, rfl, rfl, rfl, rfl, rfl, rfl, rfl, trivial⟩ rfl
              refine HQ.done ?_
              refine HQ.keep [(89, _), (4, _), (8, _), (11, _)] ⟨rfl, rfl, rfl, rfl, trivial⟩ ?_
              rcases brk H with ⟨hc, H⟩ | ⟨hc, H⟩
              · refine HQ.condT rfl hc ?_
                clear hc
                refine HQ.rseq ?_
                refine HQ.pu Pu.assign ⟨rfl, trivial⟩ rfl rfl rfl ?_
                refine HQ.done ?_
                refine HQ.keep [(4, _), (8, _), (11, _)] ⟨rfl, rfl, rfl, trivial⟩ ?_
                refine HQ.ret ?_
                refine HQ.thenR ?_
                obtain rfl := Option.some.inj H
                exact HQ.fin (vs := [_]) Try.results10 () ⟨rfl, trivial⟩ rfl [] trivial rfl
              · refine HQ.condF rfl hc ?_
                clear hc
                refine HQ.skipThen ?_
                refine HQ.rseq ?_
                refine HQ.pu Pu.assign ⟨rfl, trivial⟩ rfl rfl rfl ?_
                refine HQ.done ?_
                refine HQ.keep [(4, _), (8, _), (11, _), (12, _)] ⟨rfl, rfl, rfl, rfl, trivial⟩ ?_
                refine HQ.rseq ?_
                refine HQ.op [6] [6] (OT.loadBA (vs := [.int .i64 t14.1.Page, .bool t14.1.N.Leaf, .slice a16 (List.length t37.2) c17]) ag81 sz81 rfl rfl) ⟨rfl, trivial⟩ ⟨rfl, trivial⟩ rfl rfl rfl rfl (fun _ => rfl) fun _ => ?_
                refine HQ.pu Pu.move ⟨rfl, trivial⟩ rfl rfl rfl ?_
                obtain ⟨t54, h55, H⟩ := bnd H
                refine HQ.op [5] [5] (OT.call (us := [_, _]) (Pre := [OwnS kTEntry a16 c17 t37.2]) [.tmp 90, .tmp 91] Try.call56 rfl rfl fun w F hs hF hp => laws_heldChange_c (hs.lend hF 0 rfl) h55) ⟨rfl, rfl, rfl, trivial⟩ ⟨rfl, trivial⟩ rfl rfl rfl rfl (fun _ => rfl) fun _ => ?_
                refine HQ.pu Pu.assign ⟨rfl, trivial⟩ rfl rfl rfl ?_
                refine HQ.done ?_
                refine HQ.keep [(4, _), (11, _), (12, _)] ⟨rfl, rfl, rfl, trivial⟩ ?_
                refine HQ.seq ?_
                refine HQ.rseq ?_
                refine HQ.pu Pu.move ⟨rfl, trivial⟩ rfl rfl rfl ?_
                refine HQ.pu Pu.lss ⟨rfl, rfl, trivial⟩ rfl rfl rfl ?_
                refine HQ.done ?_
                refine HQ.keep [(4, _), (11, _), (12, _), (94, _)] ⟨rfl, rfl, rfl, rfl, trivial⟩ ?_
                rcases brk H with ⟨hc, H⟩ | ⟨hc, H⟩
                · refine HQ.condT rfl hc ?_
                  clear hc
                  refine HQ.rseq ?_
                  refine HQ.pu Pu.assign ⟨rfl, trivial⟩ rfl rfl rfl ?_
                  refine HQ.done ?_
                  refine HQ.keep [(4, _), (11, _), (12, _)] ⟨rfl, rfl, rfl, trivial⟩ ?_
                  refine HQ.ret ?_
                  refine HQ.thenR ?_
                  obtain rfl := Option.some.inj H
                  exact HQ.fin (vs := [_]) Try.results10 () ⟨rfl, trivial⟩ rfl [] trivial rfl
                · refine HQ.condF rfl hc ?_
                  clear hc
                  refine HQ.skipThen ?_
                  refine HQ.seq ?_
                  refine HQ.rseq ?_
                  refine HQ.pu Pu.move ⟨rfl, trivial⟩ rfl rfl rfl ?_
                  refine HQ.pu Pu.move ⟨rfl, trivial⟩ rfl rfl rfl ?_
                  refine HQ.pu Pu.neq ⟨rfl, rfl, trivial⟩ rfl rfl rfl ?_
                  refine HQ.done ?_
                  refine HQ.keep [(4, _), (97, _)] ⟨rfl, rfl, trivial⟩ ?_
                  rcases brk H with ⟨hc, H⟩ | ⟨hc, H⟩
                  · refine HQ.condT rfl hc ?_
                    clear hc
                    refine HQ.rseq ?_
                    refine HQ.pu Pu.assign ⟨rfl, trivial⟩ rfl rfl rfl ?_
                    refine HQ.done ?_
                    refine HQ.keep [(4, _)] ⟨rfl, trivial⟩ ?_
                    refine HQ.ret ?_
                    refine HQ.thenR ?_
                    obtain rfl := Option.some.inj H
                    exact HQ.fin (vs := [_]) Try.results10 () ⟨rfl, trivial⟩ rfl [] trivial rfl
                  · refine HQ.condF rfl hc ?_
                    clear hc
                    refine HQ.skipThen ?_
                    refine HQ.rseq ?_
                    refine HQ.pu Pu.assign ⟨rfl, trivial⟩ rfl rfl rfl ?_
                    refine HQ.done ?_
                    refine HQ.keep [(4, _)] ⟨rfl, trivial⟩ ?_
                    refine HQ.ret ?_
                    obtain rfl := Option.some.inj H
                    exact HQ.fin (vs := [_]) Try.results10 () ⟨rfl, trivial⟩ rfl [] trivial rfl

end Go.Proofs.Sx
