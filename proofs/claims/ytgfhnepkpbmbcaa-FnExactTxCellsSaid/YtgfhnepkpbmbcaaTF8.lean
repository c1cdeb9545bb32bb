import Derived.Test.YtgfhnepkpbmbcaaTF7
import Derived.KernelRfl
namespace Go.Proofs.Sx
open Go.RowKit
set_option linter.unusedVariables false
set_option linter.unusedSimpArgs false
set_option maxRecDepth 20000
set_option maxHeartbeats 1000000
/-! laws.FnExactTxCells -/
theorem laws_FnExactTxCells_c {w : World} {k : Nat} {p0 : Int} {p1 : TTx} {a_0 : Option Addr} {c_0 : Nat} (hb_0 : BorS kTChange a_0 c_0 p1.Puts w.heap (Lt w Nil)) {r : Bool} (H : laws_FnExactTxCells k p0 p1 = some r) :
    Calls Try.prog 12 #[.int .i64 p0, .agg #[.int .i64 p1.Seq, .int .i64 p1.Root, .int .i64 p1.Size, .slice a_0 (List.length p1.Puts) c_0]] w (Rt w Nil (fun _ : Unit => .bool r) (fun _ => [])) := by
  rw [laws_FnExactTxCells] at H
  refine Calls.enter0 (N := 74) (us := [_, _]) Try.func12 rfl rfl rfl ?_
  refine HQ.rseq ?_
  refine HQ.op [] [1] (OT.box (cs := [.int .i64 p1.Seq, .int .i64 p1.Root, .int .i64 p1.Size, .slice a_0 (List.length p1.Puts) c_0]) rfl) ⟨rfl, trivial⟩ trivial rfl rfl rfl rfl (fun _ => rfl) fun b1 => ?_
  refine HQ.pu Pu.assign ⟨rfl, trivial⟩ rfl rfl rfl ?_
  refine HQ.done ?_
  refine HQ.keep [(0, _), (3, _), (4, _)] ⟨rfl, rfl, rfl, trivial⟩ ?_
  refine HQ.rseq ?_
  refine HQ.pu Pu.assign ⟨rfl, trivial⟩ rfl rfl rfl ?_
  refine HQ.done ?_
  refine HQ.keep [(0, _), (3, _), (4, _), (5, _)] ⟨rfl, rfl, rfl, rfl, trivial⟩ ?_
  refine HQ.rseq ?_
  refine HQ.op [1] [1] (OT.loadBA (vs := [.int .i64 p1.Seq, .int .i64 p1.Root, .int .i64 p1.Size, .slice a_0 (List.length p1.Puts) c_0]) ag55 sz55 rfl rfl) ⟨rfl, trivial⟩ ⟨rfl, trivial⟩ rfl rfl rfl rfl (fun _ => rfl) fun _ => ?_
  refine HQ.pu Pu.move ⟨rfl, trivial⟩ rfl rfl rfl ?_
  obtain ⟨t2, h3, H⟩ := bnd H
  refine HQ.op [] [] (OT.call (us := [_, _]) (Pre := []) [.tmp 13, .tmp 14] Try.call36 rfl rfl fun w F hs hF hp => laws_szTx_c (hb_0.pass hp) h3) ⟨rfl, rfl, rfl, trivial⟩ trivial rfl rfl rfl rfl (fun _ => rfl) fun _ => ?_
  refine HQ.pu Pu.assign ⟨rfl, trivial⟩ rfl rfl rfl ?_
  refine HQ.done ?_
  refine HQ.keep [(0, _), (3, _), (4, _), (5, _)] ⟨rfl, rfl, rfl, rfl, trivial⟩ ?_
  refine HQ.seq ?_
  refine HQ.rseq ?_
  refine HQ.pu Pu.move ⟨rfl, trivial⟩ rfl rfl rfl ?_
  refine HQ.pu Pu.lss ⟨rfl, rfl, trivial⟩ rfl rfl rfl ?_
  refine HQ.done ?_
  refine HQ.keep [(0, _), (3, _), (4, _), (17, _)] ⟨rfl, rfl, rfl, rfl, trivial⟩ ?_
  rcases brk H with ⟨hc, H⟩ | ⟨hc, H⟩
  · refine HQ.condT rfl hc ?_
    clear hc
    refine HQ.rseq ?_
    refine HQ.pu Pu.assign ⟨rfl, trivial⟩ rfl rfl rfl ?_
    refine HQ.done ?_
    refine HQ.keep [(0, _), (3, _), (4, _)] ⟨rfl, rfl, rfl, trivial⟩ ?_
    refine HQ.ret ?_
    refine HQ.thenR ?_
    obtain rfl := Option.some.inj H
    exact HQ.fin (vs := [_]) Try.results12 () ⟨rfl, trivial⟩ rfl [] trivial rfl
  · refine HQ.condF rfl hc ?_
    clear hc
    refine HQ.skipThen ?_
    refine HQ.rseq ?_
    refine HQ.pu Pu.move ⟨rfl, trivial⟩ rfl rfl rfl ?_
    refine HQ.op [1] [1] (OT.loadBA (vs := [.int .i64 p1.Seq, .int .i64 p1.Root, .int .i64 p1.Size, .slice a_0 (List.length p1.Puts) c_0]) ag55 sz55 rfl rfl) ⟨rfl, trivial⟩ ⟨rfl, trivial⟩ rfl rfl rfl rfl (fun _ => rfl) fun _ => ?_
    obtain ⟨t4, h5, H⟩ := bnd H
    refine HQ.op [] [2] (OT.call (us := [_]) (Pre := []) [.tmp 19] Try.call38 rfl rfl fun w F hs hF hp => laws_toTx_c (hb_0.pass hp) h5) ⟨rfl, rfl, trivial⟩ trivial rfl rfl rfl rfl (fun _ => rfl) fun ⟨a6, c7⟩ => ?_
    obtain ⟨t8, h9, H⟩ := bnd H
    refine HQ.op [2] [3, 2] (OT.call (us := [_, _]) (Pre := [OwnS kTChange a6 c7 t4.Puts]) [.tmp 18, .tmp 20] Try.call68 rfl rfl fun w F hs hF hp => spec_TxCells_c (hs.lend hF 0 rfl) h9) ⟨rfl, rfl, rfl, trivial⟩ ⟨rfl, trivial⟩ rfl rfl rfl rfl (fun _ => rfl) fun ⟨a10, c11⟩ => ?_
    refine HQ.pu Pu.assign ⟨rfl, trivial⟩ rfl rfl rfl ?_
    refine HQ.done ?_
    refine HQ.keep [(0, _), (3, _), (4, _), (6, _)] ⟨rfl, rfl, rfl, rfl, trivial⟩ ?_
    refine HQ.rseq ?_
    refine HQ.op [1] [1] (OT.loadBA (vs := [.int .i64 p1.Seq, .int .i64 p1.Root, .int .i64 p1.Size, .slice a_0 (List.length p1.Puts) c_0]) ag55 sz55 rfl rfl) ⟨rfl, trivial⟩ ⟨rfl, trivial⟩ rfl rfl rfl rfl (fun _ => rfl) fun _ => ?_
    obtain ⟨t12, h13, H⟩ := bnd H
    refine HQ.op [] [4] (OT.call (us := [_]) (Pre := []) [.tmp 22] Try.call38 rfl rfl fun w F hs hF hp => laws_toTx_c (hb_0.pass hp) h13) ⟨rfl, rfl, trivial⟩ trivial rfl rfl rfl rfl (fun _ => rfl) fun ⟨a14, c15⟩ => ?_
    refine HQ.op [] [5] (OT.alloc zc60) trivial trivial rfl rfl rfl rfl (fun _ => rfl) fun b16 => ?_
    refine HQ.opN [5] [5] [] (OT.storeC (cs' := [.int .i64 t12.Seq, .int .i64 t12.Root, .int .i64 t12.Size, .slice a14 (List.length t12.Puts) c15]) sz60 rfl rfl rfl rfl rfl) ⟨rfl, rfl, trivial⟩ ⟨rfl, trivial⟩ rfl rfl rfl (fun _ => rfl) fun _ => ?_
    refine HQ.done ?_
    refine HQ.keep [(0, _), (3, _), (4, _), (6, _), (7, _)] ⟨rfl, rfl, rfl, rfl, rfl, trivial⟩ ?_
    refine HQ.rseq ?_
    refine HQ.pu Pu.move ⟨rfl, trivial⟩ rfl rfl rfl ?_
    refine HQ.op [5] [5] (OT.loadBA (vs := [.int .i64 t12.Seq, .int .i64 t12.Root, .int .i64 t12.Size, .slice a14 (List.length t12.Puts) c15]) ag60 sz60 rfl rfl) ⟨rfl, trivial⟩ ⟨rfl, trivial⟩ rfl rfl rfl rfl (fun _ => rfl) fun _ => ?_
    obtain ⟨t17, h18, H⟩ := bnd H
    refine HQ.op [4] [6, 4] (OT.call (us := [_, _]) (Pre := [OwnS kTChange a14 c15 t12.Puts]) [.tmp 24, .tmp 25] Try.call69 rfl rfl fun w F hs hF hp => impl_TxCells_c (hs.lend hF 0 rfl) h18) ⟨rfl, rfl, rfl, trivial⟩ ⟨rfl, trivial⟩ rfl rfl rfl rfl (fun _ => rfl) fun ⟨a19, c20⟩ => ?_
    refine HQ.pu Pu.assign ⟨rfl, trivial⟩ rfl rfl rfl ?_
    refine HQ.done ?_
    refine HQ.keep [(0, _), (3, _), (4, _), (6, _), (7, _), (8, _)] ⟨rfl, rfl, rfl, rfl, rfl, rfl, trivial⟩ ?_
    refine HQ.seq ?_
    refine HQ.rseq ?_
    refine HQ.pu Pu.move ⟨rfl, trivial⟩ rfl rfl rfl ?_
    refine HQ.pu Pu.move ⟨rfl, trivial⟩ rfl rfl rfl ?_
    obtain ⟨t21, h22, H⟩ := bnd H
    refine HQ.op [6, 3] [6, 3] (OT.call (us := [_, _]) (Pre := [OwnS (kS kU8) a19 c20 t17, OwnS (kS kU8) a10 c11 t8]) [.tmp 27, .tmp 28] Try.call70 rfl rfl fun w F hs hF hp => laws_eqByteSS_c (hs.lend hF 0 rfl) (hs.lend hF 1 rfl) h22) ⟨rfl, rfl, rfl, trivial⟩ ⟨rfl, rfl, trivial⟩ rfl rfl rfl rfl (fun _ => rfl) fun _ => ?_
    refine HQ.pu Pu.not ⟨rfl, trivial⟩ rfl rfl rfl ?_
    refine HQ.done ?_
    refine HQ.keep [(0, _), (3, _), (4, _), (6, _), (7, _), (8, _), (30, _)] ⟨rfl, rfl, rfl, rfl, rfl, rfl, rfl, trivial⟩ ?_
    rcases brk H with ⟨hc, H⟩ | ⟨hc, H⟩
    · refine HQ.condT rfl hc ?_
      clear hc
      refine HQ.rseq ?_
      refine HQ.pu Pu.assign ⟨rfl, trivial⟩ rfl rfl rfl ?_
      refine HQ.done ?_
      refine HQ.keep [(0, _), (3, _), (4, _), (6, _), (7, _), (8, _)] ⟨rfl, rfl, rfl, rfl, rfl, rfl, trivial⟩ ?_
      refine HQ.ret ?_
      refine HQ.thenR ?_
      obtain rfl := Option.some.inj H
      exact HQ.fin (vs := [_]) Try.results12 () ⟨rfl, trivial⟩ rfl [] trivial rfl
    · refine HQ.condF rfl hc ?_
      clear hc
      refine HQ.skipThen ?_
      refine HQ.seq ?_
      obtain ⟨t24, h25, H⟩ := bnd H
      refine HQ.drawS mixd [(0, .int .i64 p0), (3, BP b1 0), (4, .bool false), (6, .slice a10 (List.length t8) c11), (7, BP b16 0), (8, .slice a19 (List.length t17) c20)] 3 [⟨[0], [0], []⟩, ⟨[1], [1], []⟩, ⟨[], [2], [1]⟩] [⟨none, none⟩, ⟨none, none⟩, ⟨some 2, none⟩] (fun (g23 : (Option Addr × Nat)) => [.agg #[.int .i64 t12.Seq, .int .i64 t12.Root, .int .i64 t12.Size, .slice a14 (List.length t12.Puts) c15], .agg #[.int .i64 p1.Seq, .int .i64 p1.Root, .int .i64 p1.Size, .slice a_0 (List.length p1.Puts) c_0], .agg #[.int .i64 t24.Seq, .int .i64 t24.Root, .int .i64 t24.Size, .slice g23.1 (List.length t24.Puts) g23.2]]) (fun (g23 : (Option Addr × Nat)) => [Box b16 [.int .i64 t12.Seq, .int .i64 t12.Root, .int .i64 t12.Size, .slice a14 (List.length t12.Puts) c15], Box b1 [.int .i64 p1.Seq, .int .i64 p1.Root, .int .i64 p1.Size, .slice a_0 (List.length p1.Puts) c_0], OwnS kTChange g23.1 g23.2 t24.Puts]) (none, 0) [5, 1] [5, 1, 7] [] ⟨rfl, rfl, rfl, rfl, rfl, rfl, trivial⟩ ⟨rfl, rfl, trivial⟩ rfl (by kernel_rfl) (fun _ => rfl) (by kernel_rfl) (fun _ => rfl) ⟨?_, ?_, ?_, trivial⟩ fun g23 => ?_
      · exact OpOK.of (fun g23 => [(.tmp 7, BP b16 0)]) _ _ (fun g23 _ => g23) rfl rfl (fun _ => ⟨rfl, trivial⟩) (fun g23 => OT.loadBA (vs := [.int .i64 t12.Seq, .int .i64 t12.Root, .int .i64 t12.Size, .slice a14 (List.length t12.Puts) c15]) ag60 sz60 rfl rfl) (fun _ _ => ⟨rfl, rfl, ⟨rfl, rfl, rfl, trivial⟩⟩)
      · exact OpOK.of (fun g23 => [(.tmp 3, BP b1 0)]) _ _ (fun g23 _ => g23) rfl rfl (fun _ => ⟨rfl, trivial⟩) (fun g23 => OT.loadBA (vs := [.int .i64 p1.Seq, .int .i64 p1.Root, .int .i64 p1.Size, .slice a_0 (List.length p1.Puts) c_0]) ag55 sz55 rfl rfl) (fun _ _ => ⟨rfl, rfl, ⟨rfl, rfl, rfl, trivial⟩⟩)
      · exact OpOK.of (fun g23 => [(.func 38, .func (.func 38) #[] #[]), (.tmp 32, .agg #[.int .i64 p1.Seq, .int .i64 p1.Root, .int .i64 p1.Size, .slice a_0 (List.length p1.Puts) c_0])]) _ _ (fun g23 x => x) rfl rfl (fun _ => ⟨rfl, rfl, trivial⟩) (fun g23 => OT.call (us := [_]) (Pre := []) [.tmp 32] Try.call38 rfl rfl fun w F hs hF hp => laws_toTx_c (hb_0.pass hp) h25) (fun _ _ => ⟨rfl, rfl, ⟨rfl, rfl, rfl, trivial⟩⟩)
      refine HQ.keep [(0, _), (3, _), (4, _), (6, _), (7, _), (8, _), (31, _), (33, _)] ⟨rfl, rfl, rfl, rfl, rfl, rfl, rfl, rfl, trivial⟩ ?_
      refine HQ.keepR [(1, _), (2, _), (3, _), (4, _), (5, _), (6, _), (7, _)] ⟨rfl, rfl, rfl, rfl, rfl, rfl, rfl, trivial⟩ rfl ?_
      obtain ⟨t28, h29, H⟩ := bnd H
      refine HQ.op [4, 7] [4, 7] (OT.call (us := [_, _]) (Pre := [OwnS kTChange a14 c15 t12.Puts, OwnS kTChange g23.1 g23.2 t24.Puts]) [.tmp 31, .tmp 33] Try.call40 rfl rfl fun w F hs hF hp => laws_eqTx_c (hs.lend hF 0 rfl) (hs.lend hF 1 rfl) h29) ⟨rfl, rfl, rfl, trivial⟩ ⟨rfl, rfl, trivial⟩ rfl rfl rfl rfl (fun _ => rfl) fun _ => ?_
      refine HQ.pu Pu.not ⟨rfl, trivial⟩ rfl rfl rfl ?_
      refine HQ.done ?_
      refine HQ.keep [(0, _), (3, _), (4, _), (6, _), (7, _), (8, _), (35, _)] ⟨rfl, rfl, rfl, rfl, rfl, rfl, rfl, trivial⟩ ?_
      rcases brk H with ⟨hc, H⟩ | ⟨hc, H⟩
      · refine HQ.condT rfl hc ?_
        clear hc
        refine HQ.rseq ?_
        refine HQ.pu Pu.assign ⟨rfl, trivial⟩ rfl rfl rfl ?_
        refine HQ.done ?_
        refine HQ.keep [(0, _), (3, _), (4, _), (6, _), (7, _), (8, _)] ⟨rfl, rfl, rfl, rfl, rfl, rfl, trivial⟩ ?_
        refine HQ.ret ?_
        refine HQ.thenR ?_
        obtain rfl := Option.some.inj H
        exact HQ.fin (vs := [_]) Try.results12 () ⟨rfl, trivial⟩ rfl [] trivial rfl
      · refine HQ.condF rfl hc ?_
        clear hc
        refine HQ.skipThen ?_
        refine HQ.rseq ?_
        refine HQ.pu Pu.assign ⟨rfl, trivial⟩ rfl rfl rfl ?_
        refine HQ.done ?_
        refine HQ.keep [(0, _), (3, _), (4, _), (6, _), (7, _), (8, _), (9, _)] ⟨rfl, rfl, rfl, rfl, rfl, rfl, rfl, trivial⟩ ?_
        refine HQ.rseq ?_
        refine HQ.op [5] [5] (OT.loadBA (vs := [.int .i64 t12.Seq, .int .i64 t12.Root, .int .i64 t12.Size, .slice a14 (List.length t12.Puts) c15]) ag60 sz60 rfl rfl) ⟨rfl, trivial⟩ ⟨rfl, trivial⟩ rfl rfl rfl rfl (fun _ => rfl) fun _ => ?_
        refine HQ.pu Pu.move ⟨rfl, trivial⟩ rfl rfl rfl ?_
        obtain ⟨t30, h31, H⟩ := bnd H
        obtain ⟨h32, H⟩ := asr H
        refine HQ.op [4] [4] (OT.callM (us := [_, _]) (PreX := [OwnS kTChange a14 c15 t12.Puts]) (PreL := []) [.tmp 36, .tmp 37] Try.call41 rfl rfl fun w FX FL hs1 hF1 hs2 hF2 hp => laws_markTx_c hs1 hF1 h31) ⟨rfl, rfl, rfl, trivial⟩ ⟨rfl, trivial⟩ rfl rfl rfl rfl (fun _ => rfl) fun _ => ?_
        refine HQ.re (v' := .agg #[.int .i64 t12.Seq, .int .i64 t12.Root, .int .i64 t12.Size, .slice a14 (List.length t30.2) c15]) 36 rfl (by simp [h32]) ?_
        refine HQ.reR (B := Box b16 [.int .i64 t12.Seq, .int .i64 t12.Root, .int .i64 t12.Size, .slice a14 (List.length t30.2) c15]) 5 rfl (fun _ _ hb => by rw [show List.length t30.2 = List.length t12.Puts from (by simp [h32])]; exact hb) ?_
        refine HQ.pu Pu.assign ⟨rfl, trivial⟩ rfl rfl rfl ?_
        refine HQ.done ?_
        refine HQ.keep [(0, _), (3, _), (4, _), (6, _), (8, _), (9, _)] ⟨rfl, rfl, rfl, rfl, rfl, rfl, trivial⟩ ?_
        refine HQ.seq ?_
        refine HQ.rseq ?_
        refine HQ.pu Pu.move ⟨rfl, trivial⟩ rfl rfl rfl ?_
        refine HQ.pu Pu.lss ⟨rfl, rfl, trivial⟩ rfl rfl rfl ?_
        refine HQ.pu Pu.move ⟨rfl, trivial⟩ rfl rfl rfl ?_
        obtain ⟨c36, h37, H⟩ := bnd H
        refine HQ.cutAt 5 [(46, .bool c36), (0, .int .i64 p0), (3, BP b1 0), (4, .bool false), (6, .slice a10 (List.length t8) c11), (8, .slice a19 (List.length t17) c20)] [(1, Box b1 [.int .i64 p1.Seq, .int .i64 p1.Root, .int .i64 p1.Size, .slice a_0 (List.length p1.Puts) c_0]), (2, OwnS kTChange a6 c7 t4.Puts), (3, OwnS (kS kU8) a10 c11 t8), (4, OwnS kTChange a14 c15 t30.2), (5, Box b16 [.int .i64 t12.Seq, .int .i64 t12.Root, .int .i64 t12.Size, .slice a14 (List.length t30.2) c15]), (6, OwnS (kS kU8) a19 c20 t17), (7, OwnS kTChange g23.1 g23.2 t24.Puts)] ?_ ?_
        · clear H
          have H := h37
          rcases brk H with ⟨hg33, H⟩ | ⟨hg33, H⟩
          · obtain rfl := Option.some.inj H
            refine HQ.off rfl rfl hg33 rfl ?_
            refine HQ.off rfl rfl hg33 rfl ?_
            refine HQ.off rfl rfl hg33 rfl ?_
            refine HQ.off rfl rfl hg33 rfl ?_
            refine HQ.pu (Pu.pickC1 hg33) ⟨rfl, rfl, trivial⟩ rfl rfl rfl ?_
            exact HQ.mid ⟨rfl, rfl, rfl, rfl, rfl, rfl, trivial⟩ ⟨rfl, rfl, rfl, rfl, rfl, rfl, rfl, trivial⟩ rfl
          · refine HQ.on rfl rfl hg33 ?_
            refine HQ.pu Pu.move ⟨rfl, trivial⟩ rfl rfl rfl ?_
            refine HQ.on rfl rfl hg33 ?_
            refine HQ.pu Pu.move ⟨rfl, trivial⟩ rfl rfl rfl ?_
            refine HQ.on rfl rfl hg33 ?_
            obtain ⟨t34, h35, H⟩ := bnd H
            refine HQ.op [6, 3] [6, 3] (OT.call (us := [_, _]) (Pre := [OwnS (kS kU8) a19 c20 t17, OwnS (kS kU8) a10 c11 t8]) [.tmp 42, .tmp 43] Try.call70 rfl rfl fun w F hs hF hp => laws_eqByteSS_c (hs.lend hF 0 rfl) (hs.lend hF 1 rfl) h35) ⟨rfl, rfl, rfl, trivial⟩ ⟨rfl, rfl, trivial⟩ rfl rfl rfl rfl (fun _ => rfl) fun _ => ?_
            refine HQ.on rfl rfl hg33 ?_
            refine HQ.pu Pu.not ⟨rfl, trivial⟩ rfl rfl rfl ?_
            obtain rfl := Option.some.inj H
            refine HQ.pu (Pu.pickC0 hg33) ⟨rfl, rfl, trivial⟩ rfl rfl rfl ?_
            exact HQ.mid ⟨rfl, rfl, rfl, rfl, rfl, rfl, trivial⟩ ⟨rfl, rfl, rfl, rfl, rfl, rfl, rfl, trivial⟩ rfl
        refine HQ.done ?_
        refine HQ.keep [(46, _), (0, _), (3, _), (4, _), (6, _), (8, _)] ⟨rfl, rfl, rfl, rfl, rfl, rfl, trivial⟩ ?_
        rcases brk H with ⟨hc, H⟩ | ⟨hc, H⟩
        · refine HQ.condT rfl hc ?_
          clear hc
          refine HQ.rseq ?_
          refine HQ.pu Pu.assign ⟨rfl, trivial⟩ rfl rfl rfl ?_
          refine HQ.done ?_
          refine HQ.keep [(0, _), (3, _), (4, _), (6, _), (8, _)] ⟨rfl, rfl, rfl, rfl, rfl, trivial⟩ ?_
          refine HQ.ret ?_
          refine HQ.thenR ?_
          obtain rfl := Option.some.inj H
          exact HQ.fin (vs := [_]) Try.results12 () ⟨rfl, trivial⟩ rfl [] trivial rfl
        · refine HQ.condF rfl hc ?_
          clear hc
          refine HQ.skipThen ?_
          refine HQ.rseq ?_
          refine HQ.pu Pu.assign ⟨rfl, trivial⟩ rfl rfl rfl ?_
          refine HQ.done ?_
          refine HQ.keep [(0, _), (3, _), (4, _), (6, _), (8, _), (10, _)] ⟨rfl, rfl, rfl, rfl, rfl, rfl, trivial⟩ ?_
          refine HQ.rseq ?_
          refine HQ.pu Pu.move ⟨rfl, trivial⟩ rfl rfl rfl ?_
          refine HQ.pu Pu.move ⟨rfl, trivial⟩ rfl rfl rfl ?_
          obtain ⟨t38, h39, H⟩ := bnd H
          obtain ⟨h40, H⟩ := asr H
          refine HQ.op [6] [6] (OT.callM (us := [_, _]) (PreX := [OwnS (kS kU8) a19 c20 t17]) (PreL := []) [.tmp 47, .tmp 48] Try.call71 rfl rfl fun w FX FL hs1 hF1 hs2 hF2 hp => laws_markByteSS_c hs1 hF1 h39) ⟨rfl, rfl, rfl, trivial⟩ ⟨rfl, trivial⟩ rfl rfl rfl rfl (fun _ => rfl) fun _ => ?_
          refine HQ.re (v' := .slice a19 (List.length t38.2) c20) 8 rfl (by simp [h32, h40]) ?_
          refine HQ.re (v' := .slice a19 (List.length t38.2) c20) 47 rfl (by simp [h32, h40]) ?_
          refine HQ.pu Pu.assign ⟨rfl, trivial⟩ rfl rfl rfl ?_
          refine HQ.done ?_
          refine HQ.keep [(0, _), (3, _), (4, _), (6, _), (8, _), (10, _)] ⟨rfl, rfl, rfl, rfl, rfl, rfl, trivial⟩ ?_
          refine HQ.rseq ?_
          refine HQ.pu Pu.assign ⟨rfl, trivial⟩ rfl rfl rfl ?_
          refine HQ.done ?_
          refine HQ.keep [(0, _), (3, _), (4, _), (6, _), (8, _), (10, _), (11, _)] ⟨rfl, rfl, rfl, rfl, rfl, rfl, rfl, trivial⟩ ?_
          refine HQ.rseq ?_
          refine HQ.pu Pu.move ⟨rfl, trivial⟩ rfl rfl rfl ?_
          refine HQ.pu Pu.move ⟨rfl, trivial⟩ rfl rfl rfl ?_
          obtain ⟨t41, h42, H⟩ := bnd H
          refine HQ.op [6] [6] (OT.call (us := [_, _]) (Pre := [OwnS (kS kU8) a19 c20 t38.2]) [.tmp 50, .tmp 51] Try.call72 rfl rfl fun w F hs hF hp => laws_heldByteSS_c (hs.lend hF 0 rfl) h42) ⟨rfl, rfl, rfl, trivial⟩ ⟨rfl, trivial⟩ rfl rfl rfl rfl (fun _ => rfl) fun _ => ?_
          refine HQ.pu Pu.assign ⟨rfl, trivial⟩ rfl rfl rfl ?_
          refine HQ.done ?_
          refine HQ.keep [(0, _), (3, _), (4, _), (6, _), (8, _), (10, _), (11, _)] ⟨rfl, rfl, rfl, rfl, rfl, rfl, rfl, trivial⟩ ?_
          refine HQ.seq ?_
          refine HQ.rseq ?_
          refine HQ.pu Pu.move ⟨rfl, trivial⟩ rfl rfl rfl ?_
          refine HQ.pu Pu.lss ⟨rfl, rfl, trivial⟩ rfl rfl rfl ?_
          refine HQ.done ?_
          refine HQ.keep [(0, _), (3, _), (4, _), (6, _), (8, _), (10, _), (11, _), (54, _)] ⟨rfl, rfl, rfl, rfl, rfl, rfl, rfl, rfl, trivial⟩ ?_
          rcases brk H with ⟨hc, H⟩ | ⟨hc, H⟩
          · refine HQ.condT rfl hc ?_
            clear hc
            refine HQ.rseq ?_
            refine HQ.pu Pu.assign ⟨rfl, trivial⟩ rfl rfl rfl ?_
            refine HQ.done ?_
            refine HQ.keep [(0, _), (3, _), (4, _), (6, _), (8, _), (10, _), (11, _)] ⟨rfl, rfl, rfl, rfl, rfl, rfl, rfl, trivial⟩ ?_
            refine HQ.ret ?_
            refine HQ.thenR ?_
            obtain rfl := Option.some.inj H
            exact HQ.fin (vs := [_]) Try.results12 () ⟨rfl, trivial⟩ rfl [] trivial rfl
          · refine HQ.condF rfl hc ?_
            clear hc
            refine HQ.skipThen ?_
            refine HQ.seq ?_
            refine HQ.rseq ?_
            refine HQ.pu Pu.move ⟨rfl, trivial⟩ rfl rfl rfl ?_
            refine HQ.pu Pu.move ⟨rfl, trivial⟩ rfl rfl rfl ?_
            refine HQ.pu Pu.neq ⟨rfl, rfl, trivial⟩ rfl rfl rfl ?_
            refine HQ.done ?_
            refine HQ.keep [(0, _), (3, _), (4, _), (6, _), (8, _), (10, _), (57, _)] ⟨rfl, rfl, rfl, rfl, rfl, rfl, rfl, trivial⟩ ?_
            rcases brk H with ⟨hc, H⟩ | ⟨hc, H⟩
            · refine HQ.condT rfl hc ?_
              clear hc
              refine HQ.rseq ?_
              refine HQ.pu Pu.assign ⟨rfl, trivial⟩ rfl rfl rfl ?_
              refine HQ.done ?_
              refine HQ.keep [(0, _), (3, _), (4, _), (6, _), (8, _), (10, _)] ⟨rfl, rfl, rfl, rfl, rfl, rfl, trivial⟩ ?_
              refine HQ.ret ?_
              refine HQ.thenR ?_
              obtain rfl := Option.some.inj H
              exact HQ.fin (vs := [_]) Try.results12 () ⟨rfl, trivial⟩ rfl [] trivial rfl
            · refine HQ.condF rfl hc ?_
              clear hc
              refine HQ.skipThen ?_
              refine HQ.rseq ?_
              refine HQ.pu Pu.move ⟨rfl, trivial⟩ rfl rfl rfl ?_
              refine HQ.op [1] [1] (OT.loadBA (vs := [.int .i64 p1.Seq, .int .i64 p1.Root, .int .i64 p1.Size, .slice a_0 (List.length p1.Puts) c_0]) ag55 sz55 rfl rfl) ⟨rfl, trivial⟩ ⟨rfl, trivial⟩ rfl rfl rfl rfl (fun _ => rfl) fun _ => ?_
              obtain ⟨t43, h44, H⟩ := bnd H
              refine HQ.op [] [8] (OT.call (us := [_]) (Pre := []) [.tmp 59] Try.call38 rfl rfl fun w F hs hF hp => laws_toTx_c (hb_0.pass hp) h44) ⟨rfl, rfl, trivial⟩ trivial rfl rfl rfl rfl (fun _ => rfl) fun ⟨a45, c46⟩ => ?_
              obtain ⟨t47, h48, H⟩ := bnd H
              refine HQ.op [8] [9, 8] (OT.call (us := [_, _]) (Pre := [OwnS kTChange a45 c46 t43.Puts]) [.tmp 58, .tmp 60] Try.call69 rfl rfl fun w F hs hF hp => impl_TxCells_c (hs.lend hF 0 rfl) h48) ⟨rfl, rfl, rfl, trivial⟩ ⟨rfl, trivial⟩ rfl rfl rfl rfl (fun _ => rfl) fun ⟨a49, c50⟩ => ?_
              refine HQ.pu Pu.assign ⟨rfl, trivial⟩ rfl rfl rfl ?_
              refine HQ.done ?_
              refine HQ.keep [(4, _), (6, _), (8, _), (10, _), (12, _)] ⟨rfl, rfl, rfl, rfl, rfl, trivial⟩ ?_
              refine HQ.seq ?_
              refine HQ.rseq ?_
              refine HQ.pu Pu.move ⟨rfl, trivial⟩ rfl rfl rfl ?_
              refine HQ.pu Pu.move ⟨rfl, trivial⟩ rfl rfl rfl ?_
              obtain ⟨t51, h52, H⟩ := bnd H
              refine HQ.op [9, 3] [9, 3] (OT.call (us := [_, _]) (Pre := [OwnS (kS kU8) a49 c50 t47, OwnS (kS kU8) a10 c11 t8]) [.tmp 62, .tmp 63] Try.call70 rfl rfl fun w F hs hF hp => laws_eqByteSS_c (hs.lend hF 0 rfl) (hs.lend hF 1 rfl) h52) ⟨rfl, rfl, rfl, trivial⟩ ⟨rfl, rfl, trivial⟩ rfl rfl rfl rfl (fun _ => rfl) fun _ => ?_
              refine HQ.pu Pu.not ⟨rfl, trivial⟩ rfl rfl rfl ?_
              refine HQ.done ?_
              refine HQ.keep [(4, _), (8, _), (10, _), (65, _)] ⟨rfl, rfl, rfl, rfl, trivial⟩ ?_
              rcases brk H with ⟨hc, H⟩ | ⟨hc, H⟩
              · refine HQ.condT rfl hc ?_
                clear hc
                refine HQ.rseq ?_
                refine HQ.pu Pu.assign ⟨rfl, trivial⟩ rfl rfl rfl ?_
                refine HQ.done ?_
                refine HQ.keep [(4, _), (8, _), (10, _)] ⟨rfl, rfl, rfl, trivial⟩ ?_
                refine HQ.ret ?_
                refine HQ.thenR ?_
                obtain rfl := Option.some.inj H
                exact HQ.fin (vs := [_]) Try.results12 () ⟨rfl, trivial⟩ rfl [] trivial rfl
              · refine HQ.condF rfl hc ?_
                clear hc
                refine HQ.skipThen ?_
                refine HQ.rseq ?_
                refine HQ.pu Pu.assign ⟨rfl, trivial⟩ rfl rfl rfl ?_
                refine HQ.done ?_
                refine HQ.keep [(4, _), (8, _), (10, _), (11, _)] ⟨rfl, rfl, rfl, rfl, trivial⟩ ?_
                refine HQ.rseq ?_
                refine HQ.pu Pu.move ⟨rfl, trivial⟩ rfl rfl rfl ?_
                refine HQ.pu Pu.move ⟨rfl, trivial⟩ rfl rfl rfl ?_
                obtain ⟨t53, h54, H⟩ := bnd H
                refine HQ.op [6] [6] (OT.call (us := [_, _]) (Pre := [OwnS (kS kU8) a19 c20 t38.2]) [.tmp 66, .tmp 67] Try.call72 rfl rfl fun w F hs hF hp => laws_heldByteSS_c (hs.lend hF 0 rfl) h54) ⟨rfl, rfl, rfl, trivial⟩ ⟨rfl, trivial⟩ rfl rfl rfl rfl (fun _ => rfl) fun _ => ?_
                refine HQ.pu Pu.assign ⟨rfl, trivial⟩ rfl rfl rfl ?_
                refine HQ.done ?_
                refine HQ.keep [(4, _), (10, _), (11, _)] ⟨rfl, rfl, rfl, trivial⟩ ?_
                refine HQ.seq ?_
                refine HQ.rseq ?_
                refine HQ.pu Pu.move ⟨rfl, trivial⟩ rfl rfl rfl ?_
                refine HQ.pu Pu.lss ⟨rfl, rfl, trivial⟩ rfl rfl rfl ?_
                refine HQ.done ?_
                refine HQ.keep [(4, _), (10, _), (11, _), (70, _)] ⟨rfl, rfl, rfl, rfl, trivial⟩ ?_
                rcases brk H with ⟨hc, H⟩ | ⟨hc, H⟩
                · refine HQ.condT rfl hc ?_
                  clear hc
                  refine HQ.rseq ?_
                  refine HQ.pu Pu.assign ⟨rfl, trivial⟩ rfl rfl rfl ?_
                  refine HQ.done ?_
                  refine HQ.keep [(4, _), (10, _), (11, _)] ⟨rfl, rfl, rfl, trivial⟩ ?_
                  refine HQ.ret ?_
                  refine HQ.thenR ?_
                  obtain rfl := Option.some.inj H
                  exact HQ.fin (vs := [_]) Try.results12 () ⟨rfl, trivial⟩ rfl [] trivial rfl
                · refine HQ.condF rfl hc ?_
                  clear hc
                  refine HQ.skipThen ?_
                  refine HQ.seq ?_
                  refine HQ.rseq ?_
                  refine HQ.pu Pu.move ⟨rfl, trivial⟩ rfl rfl rfl ?_
                  refine HQ.pu Pu.move ⟨rfl, trivial⟩ rfl rfl rfl ?_
                  refine HQ.pu Pu.neq ⟨rfl, rfl, trivial⟩ rfl rfl rfl ?_
                  refine HQ.done ?_
                  refine HQ.keep [(4, _), (73, _)] ⟨rfl, rfl, trivial⟩ ?_
                  rcases brk H with ⟨hc, H⟩ | ⟨hc, H⟩
                  · refine HQ.condT rfl hc ?_
                    clear hc
                    refine HQ.rseq ?_
                    refine HQ.pu Pu.assign ⟨rfl, trivial⟩ rfl rfl rfl ?_
                    refine HQ.done ?_
                    refine HQ.keep [(4, _)] ⟨rfl, trivial⟩ ?_
                    refine HQ.ret ?_
                    refine HQ.thenR ?_
                    obtain rfl := Option.some.inj H
                    exact HQ.fin (vs := [_]) Try.results12 () ⟨rfl, trivial⟩ rfl [] trivial rfl
                  · refine HQ.condF rfl hc ?_
                    clear hc
                    refine HQ.skipThen ?_
                    refine HQ.rseq ?_
                    refine HQ.pu Pu.assign ⟨rfl, trivial⟩ rfl rfl rfl ?_
                    refine HQ.done ?_
                    refine HQ.keep [(4, _)] ⟨rfl, trivial⟩ ?_
                    refine HQ.ret ?_
                    obtain rfl := Option.some.inj H
                    exact HQ.fin (vs := [_]) Try.results12 () ⟨rfl, trivial⟩ rfl [] trivial rfl

end Go.Proofs.Sx
