import Derived.Test.YteeiibdkpdaniaaUF4
import Derived.KernelRfl
namespace Go.Proofs.Sx
open Go.RowKit
set_option linter.unusedVariables false
set_option linter.unusedSimpArgs false
set_option maxRecDepth 20000
set_option maxHeartbeats 1000000
/-! laws.FnExactCut -/
theorem laws_FnExactCut_c {w : World} {k : Nat} {p0 : TBook} {a_0 : Option Addr} {c_0 : Nat} (hb_0 : BorS kTPage a_0 c_0 p0.L w.heap (Lt w Nil)) {r : Bool} (H : laws_FnExactCut k p0 = some r) :
    Calls Try.prog 8 #[.agg #[.int .i64 p0.Root, .slice a_0 (List.length p0.L) c_0]] w (Rt w Nil (fun _ : Unit => .bool r) (fun _ => [])) := by
  rw [laws_FnExactCut] at H
  refine Calls.enter0 (N := 69) (us := [_]) Try.func8 rfl rfl rfl ?_
  refine HQ.rseq ?_
  refine HQ.op [] [1] (OT.box (cs := [.int .i64 p0.Root, .slice a_0 (List.length p0.L) c_0]) rfl) ⟨rfl, trivial⟩ trivial rfl rfl rfl rfl (fun _ => rfl) fun b1 => ?_
  refine HQ.pu Pu.assign ⟨rfl, trivial⟩ rfl rfl rfl ?_
  refine HQ.done ?_
  refine HQ.keep [(1, _), (2, _)] ⟨rfl, rfl, trivial⟩ ?_
  refine HQ.rseq ?_
  refine HQ.pu Pu.assign ⟨rfl, trivial⟩ rfl rfl rfl ?_
  refine HQ.done ?_
  refine HQ.keep [(1, _), (2, _), (3, _)] ⟨rfl, rfl, rfl, trivial⟩ ?_
  refine HQ.rseq ?_
  refine HQ.op [1] [1] (OT.loadBA (vs := [.int .i64 p0.Root, .slice a_0 (List.length p0.L) c_0]) ag80 sz80 rfl rfl) ⟨rfl, trivial⟩ ⟨rfl, trivial⟩ rfl rfl rfl rfl (fun _ => rfl) fun _ => ?_
  refine HQ.pu Pu.move ⟨rfl, trivial⟩ rfl rfl rfl ?_
  obtain ⟨t2, h3, H⟩ := bnd H
  refine HQ.op [] [] (OT.call (us := [_, _]) (Pre := []) [.tmp 11, .tmp 12] Try.call40 rfl rfl fun w F hs hF hp => laws_szBook_c (hb_0.pass hp) h3) ⟨rfl, rfl, rfl, trivial⟩ trivial rfl rfl rfl rfl (fun _ => rfl) fun _ => ?_
  refine HQ.pu Pu.assign ⟨rfl, trivial⟩ rfl rfl rfl ?_
  refine HQ.done ?_
  refine HQ.keep [(1, _), (2, _), (3, _)] ⟨rfl, rfl, rfl, trivial⟩ ?_
  refine HQ.seq ?_
  refine HQ.rseq ?_
  refine HQ.pu Pu.move ⟨rfl, trivial⟩ rfl rfl rfl ?_
  refine HQ.pu Pu.lss ⟨rfl, rfl, trivial⟩ rfl rfl rfl ?_
  refine HQ.done ?_
  refine HQ.keep [(1, _), (2, _), (15, _)] ⟨rfl, rfl, rfl, trivial⟩ ?_
  rcases brk H with ⟨hc, H⟩ | ⟨hc, H⟩
  · refine HQ.condT rfl hc ?_
    clear hc
    refine HQ.rseq ?_
    refine HQ.pu Pu.assign ⟨rfl, trivial⟩ rfl rfl rfl ?_
    refine HQ.done ?_
    refine HQ.keep [(1, _), (2, _)] ⟨rfl, rfl, trivial⟩ ?_
    refine HQ.ret ?_
    refine HQ.thenR ?_
    obtain rfl := Option.some.inj H
    exact HQ.fin (vs := [_]) Try.results8 () ⟨rfl, trivial⟩ rfl [] trivial rfl
  · refine HQ.condF rfl hc ?_
    clear hc
    refine HQ.skipThen ?_
    refine HQ.rseq ?_
    refine HQ.op [1] [1] (OT.loadBA (vs := [.int .i64 p0.Root, .slice a_0 (List.length p0.L) c_0]) ag80 sz80 rfl rfl) ⟨rfl, trivial⟩ ⟨rfl, trivial⟩ rfl rfl rfl rfl (fun _ => rfl) fun _ => ?_
    obtain ⟨t4, h5, H⟩ := bnd H
    refine HQ.op [] [2] (OT.call (us := [_]) (Pre := []) [.tmp 16] Try.call42 rfl rfl fun w F hs hF hp => laws_toBook_c (hb_0.pass hp) h5) ⟨rfl, rfl, trivial⟩ trivial rfl rfl rfl rfl (fun _ => rfl) fun ⟨a6, c7⟩ => ?_
    obtain ⟨t8, h9, H⟩ := bnd H
    refine HQ.op [2] [3, 2] (OT.call (us := [_]) (Pre := [OwnS kTPage a6 c7 t4.L]) [.tmp 17] Try.call41 rfl rfl fun w F hs hF hp => spec_Cut_c (hs.lend hF 0 rfl) h9) ⟨rfl, rfl, trivial⟩ ⟨rfl, trivial⟩ rfl rfl rfl rfl (fun _ => rfl) fun ⟨a10, c11⟩ => ?_
    refine HQ.op [] [4] (OT.alloc zc84) trivial trivial rfl rfl rfl rfl (fun _ => rfl) fun b12 => ?_
    refine HQ.opN [4] [4] [] (OT.storeC (cs' := [.int .i64 t8.Root, .slice a10 (List.length t8.L) c11]) sz84 rfl rfl rfl rfl rfl) ⟨rfl, rfl, trivial⟩ ⟨rfl, trivial⟩ rfl rfl rfl (fun _ => rfl) fun _ => ?_
    refine HQ.done ?_
    refine HQ.keep [(1, _), (2, _), (4, _)] ⟨rfl, rfl, rfl, trivial⟩ ?_
    refine HQ.rseq ?_
    refine HQ.op [1] [1] (OT.loadBA (vs := [.int .i64 p0.Root, .slice a_0 (List.length p0.L) c_0]) ag80 sz80 rfl rfl) ⟨rfl, trivial⟩ ⟨rfl, trivial⟩ rfl rfl rfl rfl (fun _ => rfl) fun _ => ?_
    obtain ⟨t13, h14, H⟩ := bnd H
    refine HQ.op [] [5] (OT.call (us := [_]) (Pre := []) [.tmp 19] Try.call42 rfl rfl fun w F hs hF hp => laws_toBook_c (hb_0.pass hp) h14) ⟨rfl, rfl, trivial⟩ trivial rfl rfl rfl rfl (fun _ => rfl) fun ⟨a15, c16⟩ => ?_
    refine HQ.op [] [6] (OT.alloc zc84) trivial trivial rfl rfl rfl rfl (fun _ => rfl) fun b17 => ?_
    refine HQ.opN [6] [6] [] (OT.storeC (cs' := [.int .i64 t13.Root, .slice a15 (List.length t13.L) c16]) sz84 rfl rfl rfl rfl rfl) ⟨rfl, rfl, trivial⟩ ⟨rfl, trivial⟩ rfl rfl rfl (fun _ => rfl) fun _ => ?_
    refine HQ.done ?_
    refine HQ.keep [(1, _), (2, _), (4, _), (5, _)] ⟨rfl, rfl, rfl, rfl, trivial⟩ ?_
    refine HQ.rseq ?_
    refine HQ.op [6] [6] (OT.loadBA (vs := [.int .i64 t13.Root, .slice a15 (List.length t13.L) c16]) ag84 sz84 rfl rfl) ⟨rfl, trivial⟩ ⟨rfl, trivial⟩ rfl rfl rfl rfl (fun _ => rfl) fun _ => ?_
    obtain ⟨t18, h19, H⟩ := bnd H
    refine HQ.op [5] [7, 5] (OT.call (us := [_]) (Pre := [OwnS kTPage a15 c16 t13.L]) [.tmp 21] Try.call43 rfl rfl fun w F hs hF hp => impl_Cut_c (hs.lend hF 0 rfl) h19) ⟨rfl, rfl, trivial⟩ ⟨rfl, trivial⟩ rfl rfl rfl rfl (fun _ => rfl) fun ⟨a20, c21⟩ => ?_
    refine HQ.op [] [8] (OT.alloc zc84) trivial trivial rfl rfl rfl rfl (fun _ => rfl) fun b22 => ?_
    refine HQ.opN [8] [8] [] (OT.storeC (cs' := [.int .i64 t18.Root, .slice a20 (List.length t18.L) c21]) sz84 rfl rfl rfl rfl rfl) ⟨rfl, rfl, trivial⟩ ⟨rfl, trivial⟩ rfl rfl rfl (fun _ => rfl) fun _ => ?_
    refine HQ.done ?_
    refine HQ.keep [(1, _), (2, _), (4, _), (5, _), (6, _)] ⟨rfl, rfl, rfl, rfl, rfl, trivial⟩ ?_
    refine HQ.seq ?_
    refine HQ.rseq ?_
    refine HQ.op [8] [8] (OT.loadBA (vs := [.int .i64 t18.Root, .slice a20 (List.length t18.L) c21]) ag84 sz84 rfl rfl) ⟨rfl, trivial⟩ ⟨rfl, trivial⟩ rfl rfl rfl rfl (fun _ => rfl) fun _ => ?_
    refine HQ.op [4] [4] (OT.loadBA (vs := [.int .i64 t8.Root, .slice a10 (List.length t8.L) c11]) ag84 sz84 rfl rfl) ⟨rfl, trivial⟩ ⟨rfl, trivial⟩ rfl rfl rfl rfl (fun _ => rfl) fun _ => ?_
    obtain ⟨t23, h24, H⟩ := bnd H
    refine HQ.op [7, 3] [7, 3] (OT.call (us := [_, _]) (Pre := [OwnS kTPage a20 c21 t18.L, OwnS kTPage a10 c11 t8.L]) [.tmp 23, .tmp 24] Try.call44 rfl rfl fun w F hs hF hp => laws_eqBook_c (hs.lend hF 0 rfl) (hs.lend hF 1 rfl) h24) ⟨rfl, rfl, rfl, trivial⟩ ⟨rfl, rfl, trivial⟩ rfl rfl rfl rfl (fun _ => rfl) fun _ => ?_
    refine HQ.pu Pu.not ⟨rfl, trivial⟩ rfl rfl rfl ?_
    refine HQ.done ?_
    refine HQ.keep [(1, _), (2, _), (4, _), (5, _), (6, _), (26, _)] ⟨rfl, rfl, rfl, rfl, rfl, rfl, trivial⟩ ?_
    rcases brk H with ⟨hc, H⟩ | ⟨hc, H⟩
    · refine HQ.condT rfl hc ?_
      clear hc
      refine HQ.rseq ?_
      refine HQ.pu Pu.assign ⟨rfl, trivial⟩ rfl rfl rfl ?_
      refine HQ.done ?_
      refine HQ.keep [(1, _), (2, _), (4, _), (5, _), (6, _)] ⟨rfl, rfl, rfl, rfl, rfl, trivial⟩ ?_
      refine HQ.ret ?_
      refine HQ.thenR ?_
      obtain rfl := Option.some.inj H
      exact HQ.fin (vs := [_]) Try.results8 () ⟨rfl, trivial⟩ rfl [] trivial rfl
    · refine HQ.condF rfl hc ?_
      clear hc
      refine HQ.skipThen ?_
      refine HQ.seq ?_
      obtain ⟨t26, h27, H⟩ := bnd H
      refine HQ.drawS mixd [(1, BP b1 0), (2, .bool false), (4, BP b12 0), (5, BP b17 0), (6, BP b22 0)] 3 [⟨[0], [0], []⟩, ⟨[1], [1], []⟩, ⟨[], [2], [1]⟩] [⟨none, none⟩, ⟨none, none⟩, ⟨some 2, none⟩] (fun (g25 : (Option Addr × Nat)) => [.agg #[.int .i64 t13.Root, .slice a15 (List.length t13.L) c16], .agg #[.int .i64 p0.Root, .slice a_0 (List.length p0.L) c_0], .agg #[.int .i64 t26.Root, .slice g25.1 (List.length t26.L) g25.2]]) (fun (g25 : (Option Addr × Nat)) => [Box b17 [.int .i64 t13.Root, .slice a15 (List.length t13.L) c16], Box b1 [.int .i64 p0.Root, .slice a_0 (List.length p0.L) c_0], OwnS kTPage g25.1 g25.2 t26.L]) (none, 0) [6, 1] [6, 1, 9] [] ⟨rfl, rfl, rfl, rfl, rfl, trivial⟩ ⟨rfl, rfl, trivial⟩ rfl (by kernel_rfl) (fun _ => rfl) (by kernel_rfl) (fun _ => rfl) ⟨?_, ?_, ?_, trivial⟩ fun g25 => ?_
      · exact OpOK.of (fun g25 => [(.tmp 5, BP b17 0)]) _ _ (fun g25 _ => g25) rfl rfl (fun _ => ⟨rfl, trivial⟩) (fun g25 => OT.loadBA (vs := [.int .i64 t13.Root, .slice a15 (List.length t13.L) c16]) ag84 sz84 rfl rfl) (fun _ _ => ⟨rfl, rfl, ⟨rfl, rfl, rfl, trivial⟩⟩)
      · exact OpOK.of (fun g25 => [(.tmp 1, BP b1 0)]) _ _ (fun g25 _ => g25) rfl rfl (fun _ => ⟨rfl, trivial⟩) (fun g25 => OT.loadBA (vs := [.int .i64 p0.Root, .slice a_0 (List.length p0.L) c_0]) ag80 sz80 rfl rfl) (fun _ _ => ⟨rfl, rfl, ⟨rfl, rfl, rfl, trivial⟩⟩)
      · exact OpOK.of (fun g25 => [(.func 42, .func (.func 42) #[] #[]), (.tmp 28, .agg #[.int .i64 p0.Root, .slice a_0 (List.length p0.L) c_0])]) _ _ (fun g25 x => x) rfl rfl (fun _ => ⟨rfl, rfl, trivial⟩) (fun g25 => OT.call (us := [_]) (Pre := []) [.tmp 28] Try.call42 rfl rfl fun w F hs hF hp => laws_toBook_c (hb_0.pass hp) h27) (fun _ _ => ⟨rfl, rfl, ⟨rfl, rfl, rfl, trivial⟩⟩)
      refine HQ.keep [(1, _), (2, _), (4, _), (5, _), (6, _), (27, _), (29, _)] ⟨rfl, rfl, rfl, rfl, rfl, rfl, rfl, trivial⟩ ?_
      refine HQ.keepR [(1, _), (2, _), (3, _), (4, _), (5, _), (6, _), (7, _), (8, _), (9, _)] ⟨rfl, rfl, rfl, rfl, rfl, rfl, rfl, rfl, rfl, trivial⟩ rfl ?_
      obtain ⟨t30, h31, H⟩ := bnd H
      refine HQ.op [5, 9] [5, 9] (OT.call (us := [_, _]) (Pre := [OwnS kTPage a15 c16 t13.L, OwnS kTPage g25.1 g25.2 t26.L]) [.tmp 27, .tmp 29] Try.call44 rfl rfl fun w F hs hF hp => laws_eqBook_c (hs.lend hF 0 rfl) (hs.lend hF 1 rfl) h31) ⟨rfl, rfl, rfl, trivial⟩ ⟨rfl, rfl, trivial⟩ rfl rfl rfl rfl (fun _ => rfl) fun _ => ?_
      refine HQ.pu Pu.not ⟨rfl, trivial⟩ rfl rfl rfl ?_
      refine HQ.done ?_
      refine HQ.keep [(1, _), (2, _), (4, _), (5, _), (6, _), (31, _)] ⟨rfl, rfl, rfl, rfl, rfl, rfl, trivial⟩ ?_
      rcases brk H with ⟨hc, H⟩ | ⟨hc, H⟩
      · refine HQ.condT rfl hc ?_
        clear hc
        refine HQ.rseq ?_
        refine HQ.pu Pu.assign ⟨rfl, trivial⟩ rfl rfl rfl ?_
        refine HQ.done ?_
        refine HQ.keep [(1, _), (2, _), (4, _), (5, _), (6, _)] ⟨rfl, rfl, rfl, rfl, rfl, trivial⟩ ?_
        refine HQ.ret ?_
        refine HQ.thenR ?_
        obtain rfl := Option.some.inj H
        exact HQ.fin (vs := [_]) Try.results8 () ⟨rfl, trivial⟩ rfl [] trivial rfl
      · refine HQ.condF rfl hc ?_
        clear hc
        refine HQ.skipThen ?_
        refine HQ.rseq ?_
        refine HQ.pu Pu.assign ⟨rfl, trivial⟩ rfl rfl rfl ?_
        refine HQ.done ?_
        refine HQ.keep [(1, _), (2, _), (4, _), (5, _), (6, _), (7, _)] ⟨rfl, rfl, rfl, rfl, rfl, rfl, trivial⟩ ?_
        refine HQ.rseq ?_
        refine HQ.op [6] [6] (OT.loadBA (vs := [.int .i64 t13.Root, .slice a15 (List.length t13.L) c16]) ag84 sz84 rfl rfl) ⟨rfl, trivial⟩ ⟨rfl, trivial⟩ rfl rfl rfl rfl (fun _ => rfl) fun _ => ?_
        refine HQ.pu Pu.move ⟨rfl, trivial⟩ rfl rfl rfl ?_
        obtain ⟨t32, h33, H⟩ := bnd H
        obtain ⟨h34, H⟩ := asr H
        refine HQ.op [5] [5] (OT.callM (us := [_, _]) (PreX := [OwnS kTPage a15 c16 t13.L]) (PreL := []) [.tmp 32, .tmp 33] Try.call45 rfl rfl fun w FX FL hs1 hF1 hs2 hF2 hp => laws_markBook_c hs1 hF1 h33) ⟨rfl, rfl, rfl, trivial⟩ ⟨rfl, trivial⟩ rfl rfl rfl rfl (fun _ => rfl) fun _ => ?_
        refine HQ.re (v' := .agg #[.int .i64 t13.Root, .slice a15 (List.length t32.2) c16]) 32 rfl (by simp [h34]) ?_
        refine HQ.reR (B := Box b17 [.int .i64 t13.Root, .slice a15 (List.length t32.2) c16]) 6 rfl (fun _ _ hb => by rw [show List.length t32.2 = List.length t13.L from (by simp [h34])]; exact hb) ?_
        refine HQ.pu Pu.assign ⟨rfl, trivial⟩ rfl rfl rfl ?_
        refine HQ.done ?_
        refine HQ.keep [(1, _), (2, _), (4, _), (6, _), (7, _)] ⟨rfl, rfl, rfl, rfl, rfl, trivial⟩ ?_
        refine HQ.seq ?_
        refine HQ.rseq ?_
        refine HQ.pu Pu.move ⟨rfl, trivial⟩ rfl rfl rfl ?_
        refine HQ.pu Pu.lss ⟨rfl, rfl, trivial⟩ rfl rfl rfl ?_
        refine HQ.pu Pu.move ⟨rfl, trivial⟩ rfl rfl rfl ?_
        obtain ⟨c38, h39, H⟩ := bnd H
        refine HQ.cutAt 5 [(42, .bool c38), (1, BP b1 0), (2, .bool false), (4, BP b12 0), (6, BP b22 0)] [(1, Box b1 [.int .i64 p0.Root, .slice a_0 (List.length p0.L) c_0]), (2, OwnS kTPage a6 c7 t4.L), (3, OwnS kTPage a10 c11 t8.L), (4, Box b12 [.int .i64 t8.Root, .slice a10 (List.length t8.L) c11]), (5, OwnS kTPage a15 c16 t32.2), (6, Box b17 [.int .i64 t13.Root, .slice a15 (List.length t32.2) c16]), (7, OwnS kTPage a20 c21 t18.L), (8, Box b22 [.int .i64 t18.Root, .slice a20 (List.length t18.L) c21]), (9, OwnS kTPage g25.1 g25.2 t26.L)] ?_ ?_
        · clear H
          have H := h39
          rcases brk H with ⟨hg35, H⟩ | ⟨hg35, H⟩
          · obtain rfl := Option.some.inj H
            refine HQ.off rfl rfl hg35 rfl ?_
            refine HQ.off rfl rfl hg35 rfl ?_
            refine HQ.off rfl rfl hg35 rfl ?_
            refine HQ.off rfl rfl hg35 rfl ?_
            refine HQ.pu (Pu.pickC1 hg35) ⟨rfl, rfl, trivial⟩ rfl rfl rfl ?_
            exact HQ.mid ⟨rfl, rfl, rfl, rfl, rfl, trivial⟩ ⟨rfl, rfl, rfl, rfl, rfl, rfl, rfl, rfl, rfl, trivial⟩ rfl
          · refine HQ.on rfl rfl hg35 ?_
            refine HQ.op [8] [8] (OT.loadBA (vs := [.int .i64 t18.Root, .slice a20 (List.length t18.L) c21]) ag84 sz84 rfl rfl) ⟨rfl, trivial⟩ ⟨rfl, trivial⟩ rfl rfl rfl rfl (fun _ => rfl) fun _ => ?_
            refine HQ.on rfl rfl hg35 ?_
            refine HQ.op [4] [4] (OT.loadBA (vs := [.int .i64 t8.Root, .slice a10 (List.length t8.L) c11]) ag84 sz84 rfl rfl) ⟨rfl, trivial⟩ ⟨rfl, trivial⟩ rfl rfl rfl rfl (fun _ => rfl) fun _ => ?_
            refine HQ.on rfl rfl hg35 ?_
            obtain ⟨t36, h37, H⟩ := bnd H
            refine HQ.op [7, 3] [7, 3] (OT.call (us := [_, _]) (Pre := [OwnS kTPage a20 c21 t18.L, OwnS kTPage a10 c11 t8.L]) [.tmp 38, .tmp 39] Try.call44 rfl rfl fun w F hs hF hp => laws_eqBook_c (hs.lend hF 0 rfl) (hs.lend hF 1 rfl) h37) ⟨rfl, rfl, rfl, trivial⟩ ⟨rfl, rfl, trivial⟩ rfl rfl rfl rfl (fun _ => rfl) fun _ => ?_
            refine HQ.on rfl rfl hg35 ?_
            refine HQ.pu Pu.not ⟨rfl, trivial⟩ rfl rfl rfl ?_
            obtain rfl := Option.some.inj H
            refine HQ.pu (Pu.pickC0 hg35) ⟨rfl, rfl, trivial⟩ rfl rfl rfl ?_
            exact HQ.mid ⟨rfl, rfl, rfl, rfl, rfl, trivial⟩ ⟨rfl, rfl, rfl, rfl, rfl, rfl, rfl, rfl, rfl, trivial⟩ rfl
        refine HQ.done ?_
        refine HQ.keep [(42, _), (1, _), (2, _), (4, _), (6, _)] ⟨rfl, rfl, rfl, rfl, rfl, trivial⟩ ?_
        rcases brk H with ⟨hc, H⟩ | ⟨hc, H⟩
        · refine HQ.condT rfl hc ?_
          clear hc
          refine HQ.rseq ?_
          refine HQ.pu Pu.assign ⟨rfl, trivial⟩ rfl rfl rfl ?_
          refine HQ.done ?_
          refine HQ.keep [(1, _), (2, _), (4, _), (6, _)] ⟨rfl, rfl, rfl, rfl, trivial⟩ ?_
          refine HQ.ret ?_
          refine HQ.thenR ?_
          obtain rfl := Option.some.inj H
          exact HQ.fin (vs := [_]) Try.results8 () ⟨rfl, trivial⟩ rfl [] trivial rfl
        · refine HQ.condF rfl hc ?_
          clear hc
          refine HQ.skipThen ?_
          refine HQ.rseq ?_
          refine HQ.pu Pu.assign ⟨rfl, trivial⟩ rfl rfl rfl ?_
          refine HQ.done ?_
          refine HQ.keep [(1, _), (2, _), (4, _), (6, _), (8, _)] ⟨rfl, rfl, rfl, rfl, rfl, trivial⟩ ?_
          refine HQ.rseq ?_
          refine HQ.op [8] [8] (OT.loadBA (vs := [.int .i64 t18.Root, .slice a20 (List.length t18.L) c21]) ag84 sz84 rfl rfl) ⟨rfl, trivial⟩ ⟨rfl, trivial⟩ rfl rfl rfl rfl (fun _ => rfl) fun _ => ?_
          refine HQ.pu Pu.move ⟨rfl, trivial⟩ rfl rfl rfl ?_
          obtain ⟨t40, h41, H⟩ := bnd H
          obtain ⟨h42, H⟩ := asr H
          refine HQ.op [7] [7] (OT.callM (us := [_, _]) (PreX := [OwnS kTPage a20 c21 t18.L]) (PreL := []) [.tmp 43, .tmp 44] Try.call45 rfl rfl fun w FX FL hs1 hF1 hs2 hF2 hp => laws_markBook_c hs1 hF1 h41) ⟨rfl, rfl, rfl, trivial⟩ ⟨rfl, trivial⟩ rfl rfl rfl rfl (fun _ => rfl) fun _ => ?_
          refine HQ.re (v' := .agg #[.int .i64 t18.Root, .slice a20 (List.length t40.2) c21]) 43 rfl (by simp [h34, h42]) ?_
          refine HQ.reR (B := Box b22 [.int .i64 t18.Root, .slice a20 (List.length t40.2) c21]) 8 rfl (fun _ _ hb => by rw [show List.length t40.2 = List.length t18.L from (by simp [h34, h42])]; exact hb) ?_
          refine HQ.pu Pu.assign ⟨rfl, trivial⟩ rfl rfl rfl ?_
          refine HQ.done ?_
          refine HQ.keep [(1, _), (2, _), (4, _), (6, _), (8, _)] ⟨rfl, rfl, rfl, rfl, rfl, trivial⟩ ?_
          refine HQ.rseq ?_
          refine HQ.pu Pu.assign ⟨rfl, trivial⟩ rfl rfl rfl ?_
          refine HQ.done ?_
          refine HQ.keep [(1, _), (2, _), (4, _), (6, _), (8, _), (9, _)] ⟨rfl, rfl, rfl, rfl, rfl, rfl, trivial⟩ ?_
          refine HQ.rseq ?_
          refine HQ.op [8] [8] (OT.loadBA (vs := [.int .i64 t18.Root, .slice a20 (List.length t40.2) c21]) ag84 sz84 rfl rfl) ⟨rfl, trivial⟩ ⟨rfl, trivial⟩ rfl rfl rfl rfl (fun _ => rfl) fun _ => ?_
          refine HQ.pu Pu.move ⟨rfl, trivial⟩ rfl rfl rfl ?_
          obtain ⟨t43, h44, H⟩ := bnd H
          refine HQ.op [7] [7] (OT.call (us := [_, _]) (Pre := [OwnS kTPage a20 c21 t40.2]) [.tmp 46, .tmp 47] Try.call46 rfl rfl fun w F hs hF hp => laws_heldBook_c (hs.lend hF 0 rfl) h44) ⟨rfl, rfl, rfl, trivial⟩ ⟨rfl, trivial⟩ rfl rfl rfl rfl (fun _ => rfl) fun _ => ?_
          refine HQ.pu Pu.assign ⟨rfl, trivial⟩ rfl rfl rfl ?_
          refine HQ.done ?_
          refine HQ.keep [(1, _), (2, _), (4, _), (6, _), (8, _), (9, _)] ⟨rfl, rfl, rfl, rfl, rfl, rfl, trivial⟩ ?_
          refine HQ.seq ?_
          refine HQ.rseq ?_
          refine HQ.pu Pu.move ⟨rfl, trivial⟩ rfl rfl rfl ?_
          refine HQ.pu Pu.lss ⟨rfl, rfl, trivial⟩ rfl rfl rfl ?_
          refine HQ.done ?_
          refine HQ.keep [(1, _), (2, _), (4, _), (6, _), (8, _), (9, _), (50, _)] ⟨rfl, rfl, rfl, rfl, rfl, rfl, rfl, trivial⟩ ?_
          rcases brk H with ⟨hc, H⟩ | ⟨hc, H⟩
          · refine HQ.condT rfl hc ?_
            clear hc
            refine HQ.rseq ?_
            refine HQ.pu Pu.assign ⟨rfl, trivial⟩ rfl rfl rfl ?_
            refine HQ.done ?_
            refine HQ.keep [(1, _), (2, _), (4, _), (6, _), (8, _), (9, _)] ⟨rfl, rfl, rfl, rfl, rfl, rfl, trivial⟩ ?_
            refine HQ.ret ?_
            refine HQ.thenR ?_
            obtain rfl := Option.some.inj H
            exact HQ.fin (vs := [_]) Try.results8 () ⟨rfl, trivial⟩ rfl [] trivial rfl
          · refine HQ.condF rfl hc ?_
            clear hc
            refine HQ.skipThen ?_
            refine HQ.seq ?_
            refine HQ.rseq ?_
            refine HQ.pu Pu.move ⟨rfl, trivial⟩ rfl rfl rfl ?_
            refine HQ.pu Pu.move ⟨rfl, trivial⟩ rfl rfl rfl ?_
            refine HQ.pu Pu.neq ⟨rfl, rfl, trivial⟩ rfl rfl rfl ?_
            refine HQ.done ?_
            refine HQ.keep [(1, _), (2, _), (4, _), (6, _), (8, _), (9, _), (53, _)] ⟨rfl, rfl, rfl, rfl, rfl, rfl, rfl, trivial⟩ ?_
            rcases brk H with ⟨hc, H⟩ | ⟨hc, H⟩
            · refine HQ.condT rfl hc ?_
              clear hc
              refine HQ.rseq ?_
              refine HQ.pu Pu.assign ⟨rfl, trivial⟩ rfl rfl rfl ?_
              refine HQ.done ?_
              refine HQ.keep [(1, _), (2, _), (4, _), (6, _), (8, _), (9, _)] ⟨rfl, rfl, rfl, rfl, rfl, rfl, trivial⟩ ?_
              refine HQ.ret ?_
              refine HQ.thenR ?_
              obtain rfl := Option.some.inj H
              exact HQ.fin (vs := [_]) Try.results8 () ⟨rfl, trivial⟩ rfl [] trivial rfl
            · refine HQ.condF rfl hc ?_
              clear hc
              refine HQ.skipThen ?_
              refine HQ.rseq ?_
              refine HQ.op [1] [1] (OT.loadBA (vs := [.int .i64 p0.Root, .slice a_0 (List.length p0.L) c_0]) ag80 sz80 rfl rfl) ⟨rfl, trivial⟩ ⟨rfl, trivial⟩ rfl rfl rfl rfl (fun _ => rfl) fun _ => ?_
              obtain ⟨t45, h46, H⟩ := bnd H
              refine HQ.op [] [10] (OT.call (us := [_]) (Pre := []) [.tmp 54] Try.call42 rfl rfl fun w F hs hF hp => laws_toBook_c (hb_0.pass hp) h46) ⟨rfl, rfl, trivial⟩ trivial rfl rfl rfl rfl (fun _ => rfl) fun ⟨a47, c48⟩ => ?_
              obtain ⟨t49, h50, H⟩ := bnd H
              refine HQ.op [10] [11, 10] (OT.call (us := [_]) (Pre := [OwnS kTPage a47 c48 t45.L]) [.tmp 55] Try.call43 rfl rfl fun w F hs hF hp => impl_Cut_c (hs.lend hF 0 rfl) h50) ⟨rfl, rfl, trivial⟩ ⟨rfl, trivial⟩ rfl rfl rfl rfl (fun _ => rfl) fun ⟨a51, c52⟩ => ?_
              refine HQ.op [] [12] (OT.alloc zc84) trivial trivial rfl rfl rfl rfl (fun _ => rfl) fun b53 => ?_
              refine HQ.opN [12] [12] [] (OT.storeC (cs' := [.int .i64 t49.Root, .slice a51 (List.length t49.L) c52]) sz84 rfl rfl rfl rfl rfl) ⟨rfl, rfl, trivial⟩ ⟨rfl, trivial⟩ rfl rfl rfl (fun _ => rfl) fun _ => ?_
              refine HQ.done ?_
              refine HQ.keep [(2, _), (4, _), (6, _), (8, _), (9, _), (10, _)] ⟨rfl, rfl, rfl, rfl, rfl, rfl, trivial⟩ ?_
              refine HQ.seq ?_
              refine HQ.rseq ?_
              refine HQ.op [12] [12] (OT.loadBA (vs := [.int .i64 t49.Root, .slice a51 (List.length t49.L) c52]) ag84 sz84 rfl rfl) ⟨rfl, trivial⟩ ⟨rfl, trivial⟩ rfl rfl rfl rfl (fun _ => rfl) fun _ => ?_
              refine HQ.op [4] [4] (OT.loadBA (vs := [.int .i64 t8.Root, .slice a10 (List.length t8.L) c11]) ag84 sz84 rfl rfl) ⟨rfl, trivial⟩ ⟨rfl, trivial⟩ rfl rfl rfl rfl (fun _ => rfl) fun _ => ?_
              obtain ⟨t54, h55, H⟩ := bnd H
              refine HQ.op [11, 3] [11, 3] (OT.call (us := [_, _]) (Pre := [OwnS kTPage a51 c52 t49.L, OwnS kTPage a10 c11 t8.L]) [.tmp 57, .tmp 58] Try.call44 rfl rfl fun w F hs hF hp => laws_eqBook_c (hs.lend hF 0 rfl) (hs.lend hF 1 rfl) h55) ⟨rfl, rfl, rfl, trivial⟩ ⟨rfl, rfl, trivial⟩ rfl rfl rfl rfl (fun _ => rfl) fun _ => ?_
              refine HQ.pu Pu.not ⟨rfl, trivial⟩ rfl rfl rfl ?_
              refine HQ.done ?_
              refine HQ.keep [(2, _), (6, _), (8, _), (9, _), (60, _)] ⟨rfl, rfl, rfl, rfl, rfl, trivial⟩ ?_
              rcases brk H with ⟨hc, H⟩ | ⟨hc, H⟩
              · refine HQ.condT rfl hc ?_
                clear hc
                refine HQ.rseq ?_
                refine HQ.pu Pu.assign ⟨rfl, trivial⟩ rfl rfl rfl ?_
                refine HQ.done ?_
                refine HQ.keep [(2, _), (6, _), (8, _), (9, _)] ⟨rfl, rfl, rfl, rfl, trivial⟩ ?_
                refine HQ.ret ?_
                refine HQ.thenR ?_
                obtain rfl := Option.some.inj H
                exact HQ.fin (vs := [_]) Try.results8 () ⟨rfl, trivial⟩ rfl [] trivial rfl
              · refine HQ.condF rfl hc ?_
                clear hc
                refine HQ.skipThen ?_
                refine HQ.rseq ?_
                refine HQ.pu Pu.assign ⟨rfl, trivial⟩ rfl rfl rfl ?_
                refine HQ.done ?_
                refine HQ.keep [(2, _), (6, _), (8, _), (9, _)] ⟨rfl, rfl, rfl, rfl, trivial⟩ ?_
                refine HQ.rseq ?_
                refine HQ.op [8] [8] (OT.loadBA (vs := [.int .i64 t18.Root, .slice a20 (List.length t40.2) c21]) ag84 sz84 rfl rfl) ⟨rfl, trivial⟩ ⟨rfl, trivial⟩ rfl rfl rfl rfl (fun _ => rfl) fun _ => ?_
                refine HQ.pu Pu.move ⟨rfl, trivial⟩ rfl rfl rfl ?_
                obtain ⟨t56, h57, H⟩ := bnd H
                refine HQ.op [7] [7] (OT.call (us := [_, _]) (Pre := [OwnS kTPage a20 c21 t40.2]) [.tmp 61, .tmp 62] Try.call46 rfl rfl fun w F hs hF hp => laws_heldBook_c (hs.lend hF 0 rfl) h57) ⟨rfl, rfl, rfl, trivial⟩ ⟨rfl, trivial⟩ rfl rfl rfl rfl (fun _ => rfl) fun _ => ?_
                refine HQ.pu Pu.assign ⟨rfl, trivial⟩ rfl rfl rfl ?_
                refine HQ.done ?_
                refine HQ.keep [(2, _), (8, _), (9, _)] ⟨rfl, rfl, rfl, trivial⟩ ?_
                refine HQ.seq ?_
                refine HQ.rseq ?_
                refine HQ.pu Pu.move ⟨rfl, trivial⟩ rfl rfl rfl ?_
                refine HQ.pu Pu.lss ⟨rfl, rfl, trivial⟩ rfl rfl rfl ?_
                refine HQ.done ?_
                refine HQ.keep [(2, _), (8, _), (9, _), (65, _)] ⟨rfl, rfl, rfl, rfl, trivial⟩ ?_
                rcases brk H with ⟨hc, H⟩ | ⟨hc, H⟩
                · refine HQ.condT rfl hc ?_
                  clear hc
                  refine HQ.rseq ?_
                  refine HQ.pu Pu.assign ⟨rfl, trivial⟩ rfl rfl rfl ?_
                  refine HQ.done ?_
                  refine HQ.keep [(2, _), (8, _), (9, _)] ⟨rfl, rfl, rfl, trivial⟩ ?_
                  refine HQ.ret ?_
                  refine HQ.thenR ?_
                  obtain rfl := Option.some.inj H
                  exact HQ.fin (vs := [_]) Try.results8 () ⟨rfl, trivial⟩ rfl [] trivial rfl
                · refine HQ.condF rfl hc ?_
                  clear hc
                  refine HQ.skipThen ?_
                  refine HQ.seq ?_
                  refine HQ.rseq ?_
                  refine HQ.pu Pu.move ⟨rfl, trivial⟩ rfl rfl rfl ?_
                  refine HQ.pu Pu.move ⟨rfl, trivial⟩ rfl rfl rfl ?_
                  refine HQ.pu Pu.neq ⟨rfl, rfl, trivial⟩ rfl rfl rfl ?_
                  refine HQ.done ?_
                  refine HQ.keep [(2, _), (68, _)] ⟨rfl, rfl, trivial⟩ ?_
                  rcases brk H with ⟨hc, H⟩ | ⟨hc, H⟩
                  · refine HQ.condT rfl hc ?_
                    clear hc
                    refine HQ.rseq ?_
                    refine HQ.pu Pu.assign ⟨rfl, trivial⟩ rfl rfl rfl ?_
                    refine HQ.done ?_
                    refine HQ.keep [(2, _)] ⟨rfl, trivial⟩ ?_
                    refine HQ.ret ?_
                    refine HQ.thenR ?_
                    obtain rfl := Option.some.inj H
                    exact HQ.fin (vs := [_]) Try.results8 () ⟨rfl, trivial⟩ rfl [] trivial rfl
                  · refine HQ.condF rfl hc ?_
                    clear hc
                    refine HQ.skipThen ?_
                    refine HQ.rseq ?_
                    refine HQ.pu Pu.assign ⟨rfl, trivial⟩ rfl rfl rfl ?_
                    refine HQ.done ?_
                    refine HQ.keep [(2, _)] ⟨rfl, trivial⟩ ?_
                    refine HQ.ret ?_
                    obtain rfl := Option.some.inj H
                    exact HQ.fin (vs := [_]) Try.results8 () ⟨rfl, trivial⟩ rfl [] trivial rfl

end Go.Proofs.Sx
