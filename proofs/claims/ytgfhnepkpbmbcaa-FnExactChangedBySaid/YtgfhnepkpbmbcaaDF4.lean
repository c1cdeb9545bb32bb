import Derived.Test.YtgfhnepkpbmbcaaDF3
import Derived.KernelRfl
namespace Go.Proofs.Sx
open Go.RowKit
set_option linter.unusedVariables false
set_option linter.unusedSimpArgs false
set_option maxRecDepth 20000
set_option maxHeartbeats 1000000
/-! laws.markChangeS -/
theorem laws_markChangeS_c {w : World} {k : Nat} {p0 : (List TChange)} {p1 : Int} {a_0 : Option Addr} {c_0 : Nat} {F0 : Fp} (hs0 : Sat [OwnS kTChange a_0 c_0 p0] w.heap F0) (hF0 : ∀ b, F0 b → b < w.heap.size)  {r : Int × (List TChange)} (H : laws_markChangeS k p0 p1 = some r) :
    Calls Try.prog 80 #[.slice a_0 (List.length p0) c_0, .int .i64 p1] w (Rt w F0 (fun _ : Unit => .int .i64 r.1) (fun _ => [OwnS kTChange a_0 c_0 r.2])) := by
  rw [laws_markChangeS] at H
  refine Calls.enter (N := 38) (us := [_, _]) (F0 := F0) (Γ0 := [(1, OwnS kTChange a_0 c_0 p0)]) Try.func80 rfl rfl rfl hs0 hF0 ?_
  refine HQ.rseq ?_
  refine HQ.pu Pu.assign ⟨rfl, trivial⟩ rfl rfl rfl ?_
  refine HQ.done ?_
  refine HQ.keep [(0, _), (1, _), (4, _)] ⟨rfl, rfl, rfl, trivial⟩ ?_
  refine HQ.seq ?_
  refine HQ.rseq ?_
  refine HQ.pu Pu.assign ⟨rfl, trivial⟩ rfl rfl rfl ?_
  refine HQ.done ?_
  refine HQ.keep [(0, _), (1, _), (4, _), (5, _)] ⟨rfl, rfl, rfl, rfl, trivial⟩ ?_
  refine HQ.block ?_
  obtain ⟨o46, h50, H⟩ := bnd H
  refine HQ.loop h50 0 (fun (s : (List TChange) × Int × Int) (g : Unit) => match s, g with | (l15, i16, i17), () => [(0, .slice a_0 (List.length l15) c_0), (1, .int .i64 i16), (4, .int .i64 0), (5, .int .i64 i17)]) (fun (s : (List TChange) × Int × Int) (g : Unit) => match s, g with | (l15, i16, i17), () => [(1, OwnS kTChange a_0 c_0 l15)]) (fun _ _ _ => False) () ⟨rfl, rfl, rfl, rfl, trivial⟩ ⟨rfl, trivial⟩ rfl ?_ ?_ ?_
  · clear H h50
    rintro ⟨l15, i16, i17⟩ _ o H
    rw [laws_markChangeS_b0] at H
    refine HQ.keep [(0, _), (1, _), (4, _), (5, _)] ⟨rfl, rfl, rfl, rfl, trivial⟩ ?_
    refine HQ.keepR [(1, _)] ⟨rfl, trivial⟩ rfl ?_
    refine HQ.seq ?_
    refine HQ.rseq ?_
    refine HQ.pu Pu.move ⟨rfl, trivial⟩ rfl rfl rfl ?_
    refine HQ.pu Pu.move ⟨rfl, trivial⟩ rfl rfl rfl ?_
    refine HQ.pu (Pu.len ul58) ⟨rfl, trivial⟩ rfl rfl rfl ?_
    refine HQ.pu Pu.lss ⟨rfl, rfl, trivial⟩ rfl rfl rfl ?_
    refine HQ.done ?_
    refine HQ.keep [(0, _), (1, _), (4, _), (5, _), (9, _)] ⟨rfl, rfl, rfl, rfl, rfl, trivial⟩ ?_
    rcases brk H with ⟨hc, H⟩ | ⟨hc, H⟩
    · refine HQ.condT rfl hc ?_
      clear hc
      refine HQ.skipThen ?_
      refine HQ.seq ?_
      refine HQ.block ?_
      refine HQ.rseq ?_
      refine HQ.pu Pu.move ⟨rfl, trivial⟩ rfl rfl rfl ?_
      refine HQ.pu Pu.move ⟨rfl, trivial⟩ rfl rfl rfl ?_
      refine HQ.pu Pu.move ⟨rfl, trivial⟩ rfl rfl rfl ?_
      obtain ⟨h32, H⟩ := asr H
      refine HQ.op [1] [1] (OT.indexO ul58 sz81 h32) ⟨rfl, rfl, trivial⟩ ⟨rfl, trivial⟩ rfl rfl rfl rfl (fun _ => rfl) fun _ => ?_
      refine HQ.pu (Pu.fieldE fo81_0 rfl) ⟨rfl, trivial⟩ rfl rfl rfl ?_
      refine HQ.opN [1] [1] [] (OT.storeO (⟨i16, (gt l15 i17).N⟩ : TChange) sz3 rfl rfl rfl h32 rfl (fun _ => rfl) rfl) ⟨rfl, rfl, trivial⟩ ⟨rfl, trivial⟩ rfl rfl rfl (fun _ => rfl) fun _ => ?_
      obtain ⟨l33, h34, H⟩ := bnd H
      replace h34 := Option.some.inj h34
      refine HQ.reR (B := OwnS kTChange a_0 c_0 l33) 1 rfl (by intro _ _ hb; rw [← h34]; exact hb) ?_
      have h35 : List.length l33 = List.length l15 := by rw [← h34, List.length_set]
      refine HQ.re (v' := .slice a_0 (List.length l33) c_0) 0 rfl (by simp [h35]) ?_
      refine HQ.re (v' := .slice a_0 (List.length l33) c_0) 12 rfl (by simp [h35]) ?_
      refine HQ.done ?_
      refine HQ.keep [(0, _), (1, _), (4, _), (5, _)] ⟨rfl, rfl, rfl, rfl, trivial⟩ ?_
      refine HQ.rseq ?_
      refine HQ.pu Pu.move ⟨rfl, trivial⟩ rfl rfl rfl ?_
      refine HQ.pu Pu.add ⟨rfl, rfl, trivial⟩ rfl rfl rfl ?_
      refine HQ.pu Pu.assign ⟨rfl, trivial⟩ rfl rfl rfl ?_
      refine HQ.done ?_
      refine HQ.keep [(0, _), (1, _), (4, _), (5, _)] ⟨rfl, rfl, rfl, rfl, trivial⟩ ?_
      refine HQ.rseq ?_
      refine HQ.pu Pu.move ⟨rfl, trivial⟩ rfl rfl rfl ?_
      refine HQ.pu Pu.move ⟨rfl, trivial⟩ rfl rfl rfl ?_
      refine HQ.pu Pu.move ⟨rfl, trivial⟩ rfl rfl rfl ?_
      refine HQ.pu (Pu.rem (by decide)) ⟨rfl, rfl, trivial⟩ rfl rfl rfl ?_
      refine HQ.pu Pu.eql ⟨rfl, rfl, trivial⟩ rfl rfl rfl ?_
      obtain ⟨h36, H⟩ := asr H
      refine HQ.op [1] [1] (OT.indexO ul58 sz81 h36) ⟨rfl, rfl, trivial⟩ ⟨rfl, trivial⟩ rfl rfl rfl rfl (fun _ => rfl) fun _ => ?_
      refine HQ.pu (Pu.fieldE fo81_1 rfl) ⟨rfl, trivial⟩ rfl rfl rfl ?_
      refine HQ.pu (Pu.fieldE fo79_0 rfl) ⟨rfl, trivial⟩ rfl rfl rfl ?_
      refine HQ.opN [1] [1] [] (OT.storeO (⟨(gt l33 i17).Page, (⟨(decide ((Int.tmod (wrap64 (i16 + 1)) 3) = 0)), (gt l33 i17).N.L⟩ : TNode)⟩ : TChange) sz4 rfl rfl rfl h36 rfl (fun _ => rfl) rfl) ⟨rfl, rfl, trivial⟩ ⟨rfl, trivial⟩ rfl rfl rfl (fun _ => rfl) fun _ => ?_
      obtain ⟨l37, h38, H⟩ := bnd H
      replace h38 := Option.some.inj h38
      refine HQ.reR (B := OwnS kTChange a_0 c_0 l37) 1 rfl (by intro _ _ hb; rw [← h38]; exact hb) ?_
      have h39 : List.length l37 = List.length l33 := by rw [← h38, List.length_set]
      refine HQ.re (v' := .slice a_0 (List.length l37) c_0) 0 rfl (by simp [h35, h39]) ?_
      refine HQ.re (v' := .slice a_0 (List.length l37) c_0) 19 rfl (by simp [h35, h39]) ?_
      refine HQ.done ?_
      refine HQ.keep [(0, _), (1, _), (4, _), (5, _)] ⟨rfl, rfl, rfl, rfl, trivial⟩ ?_
      refine HQ.rseq ?_
      refine HQ.pu Pu.move ⟨rfl, trivial⟩ rfl rfl rfl ?_
      refine HQ.pu Pu.add ⟨rfl, rfl, trivial⟩ rfl rfl rfl ?_
      refine HQ.pu Pu.assign ⟨rfl, trivial⟩ rfl rfl rfl ?_
      refine HQ.done ?_
      refine HQ.keep [(0, _), (1, _), (4, _), (5, _)] ⟨rfl, rfl, rfl, rfl, trivial⟩ ?_
      refine HQ.regionQ ?_
      refine HQ.pu Pu.move ⟨rfl, trivial⟩ rfl rfl rfl ?_
      refine HQ.pu Pu.move ⟨rfl, trivial⟩ rfl rfl rfl ?_
      obtain ⟨h40, H⟩ := asr H
      refine HQ.op [1] [1] (OT.indexO ul58 sz81 h40) ⟨rfl, rfl, trivial⟩ ⟨rfl, trivial⟩ rfl rfl rfl rfl (fun _ => rfl) fun _ => ?_
      refine HQ.pu (Pu.fieldE fo81_1 rfl) ⟨rfl, trivial⟩ rfl rfl rfl ?_
      refine HQ.pu (Pu.fieldE fo79_1 rfl) ⟨rfl, trivial⟩ rfl rfl rfl ?_
      refine HQ.op [1] [1, 4] (OT.focus (v := fun a41 c42 => .slice a41 (List.length ((gt l37 i17).N.L)) c42) (fun x ys => (⟨x.Page, (⟨x.N.Leaf, ys⟩ : TNode)⟩ : TChange)) sc77 h40 (fun _ _ => rfl) (fun _ _ _ => rfl) (fun _ _ => rfl)) ⟨rfl, trivial⟩ ⟨rfl, trivial⟩ rfl rfl rfl rfl (fun _ => rfl) fun ⟨a41, c42⟩ => ?_
      refine HQ.pu Pu.move ⟨rfl, trivial⟩ rfl rfl rfl ?_
      obtain ⟨t43, h44, H⟩ := bnd H
      obtain ⟨h45, H⟩ := asr H
      refine HQ.op [4] [4] (OT.callM (us := [_, _]) (PreX := [OwnS kTEntry a41 c42 ((gt l37 i17).N.L)]) (PreL := []) [.tmp 34, .tmp 35] Try.call143 rfl rfl fun w FX FL hs1 hF1 hs2 hF2 hp => laws_markEntryS_c (p0 := (gt l37 i17).N.L) (p1 := (wrap64 ((wrap64 (i16 + 1)) + 1))) hs1 hF1 h44) ⟨rfl, rfl, rfl, trivial⟩ ⟨rfl, trivial⟩ rfl rfl rfl rfl (fun _ => rfl) fun _ => ?_
      refine HQ.re (v' := .slice a41 (List.length t43.2) c42) 34 rfl (by simp [h35, h39, h45]) ?_
      refine HQ.pu Pu.assign ⟨rfl, trivial⟩ rfl rfl rfl ?_
      refine HQ.done ?_
      refine HQ.keep [(0, _), (1, _), (4, _), (5, _)] ⟨rfl, rfl, rfl, rfl, trivial⟩ ?_
      refine HQ.blkN ?_
      refine HQ.thenN ?_
      refine HQ.regionQ ?_
      refine HQ.pu Pu.move ⟨rfl, trivial⟩ rfl rfl rfl ?_
      refine HQ.pu Pu.add ⟨rfl, rfl, trivial⟩ rfl rfl rfl ?_
      refine HQ.pu Pu.assign ⟨rfl, trivial⟩ rfl rfl rfl ?_
      refine HQ.done ?_
      refine HQ.keep [(0, _), (1, _), (4, _), (5, _)] ⟨rfl, rfl, rfl, rfl, trivial⟩ ?_
      refine HQ.unfocus (xs' := (List.set l37 (Int.toNat i17) (⟨(gt l37 i17).Page, (⟨(gt l37 i17).N.Leaf, t43.2⟩ : TNode)⟩ : TChange))) 1 4 rfl rfl rfl (by simp [h35, h39, h45]) rfl ?_
      refine HQ.re (v' := .slice a_0 (List.length (List.set l37 (Int.toNat i17) (⟨(gt l37 i17).Page, (⟨(gt l37 i17).N.Leaf, t43.2⟩ : TNode)⟩ : TChange))) c_0) 0 rfl (by simp [h35, h39, h45]) ?_
      obtain rfl := Option.some.inj H
      exact HQ.next () ⟨rfl, rfl, rfl, rfl, trivial⟩ ⟨rfl, trivial⟩ rfl
    · refine HQ.condF rfl hc ?_
      clear hc
      refine HQ.exit ?_
      refine HQ.thenE ?_
      obtain rfl := Option.some.inj H
      exact HQ.out () ⟨rfl, rfl, rfl, rfl, trivial⟩ ⟨rfl, trivial⟩ rfl
  · rintro ⟨l47, i48, i49⟩ rfl _
    clear h50
    replace H := H
    refine HQ.keep [(0, _), (1, _), (4, _), (5, _)] ⟨rfl, rfl, rfl, rfl, trivial⟩ ?_
    refine HQ.keepR [(1, _)] ⟨rfl, trivial⟩ rfl ?_
    refine HQ.blkE ?_
    refine HQ.thenN ?_
    refine HQ.rseq ?_
    refine HQ.pu Pu.move ⟨rfl, trivial⟩ rfl rfl rfl ?_
    refine HQ.pu Pu.assign ⟨rfl, trivial⟩ rfl rfl rfl ?_
    refine HQ.done ?_
    refine HQ.keep [(4, _)] ⟨rfl, trivial⟩ ?_
    refine HQ.ret ?_
    obtain rfl := Option.some.inj H
    exact HQ.fin (vs := [_]) Try.results80 () ⟨rfl, trivial⟩ rfl [1] ⟨rfl, trivial⟩ rfl
  · exact fun r h a w hf => hf.elim

/-! laws.markTxS -/
theorem laws_markTxS_c {w : World} {k : Nat} {p0 : (List TTx)} {p1 : Int} {a_0 : Option Addr} {c_0 : Nat} {F0 : Fp} (hs0 : Sat [OwnS kTTx a_0 c_0 p0] w.heap F0) (hF0 : ∀ b, F0 b → b < w.heap.size)  {r : Int × (List TTx)} (H : laws_markTxS k p0 p1 = some r) :
    Calls Try.prog 21 #[.slice a_0 (List.length p0) c_0, .int .i64 p1] w (Rt w F0 (fun _ : Unit => .int .i64 r.1) (fun _ => [OwnS kTTx a_0 c_0 r.2])) := by
  rw [laws_markTxS] at H
  refine Calls.enter (N := 41) (us := [_, _]) (F0 := F0) (Γ0 := [(1, OwnS kTTx a_0 c_0 p0)]) Try.func21 rfl rfl rfl hs0 hF0 ?_
  refine HQ.rseq ?_
  refine HQ.pu Pu.assign ⟨rfl, trivial⟩ rfl rfl rfl ?_
  refine HQ.done ?_
  refine HQ.keep [(0, _), (1, _), (4, _)] ⟨rfl, rfl, rfl, trivial⟩ ?_
  refine HQ.seq ?_
  refine HQ.rseq ?_
  refine HQ.pu Pu.assign ⟨rfl, trivial⟩ rfl rfl rfl ?_
  refine HQ.done ?_
  refine HQ.keep [(0, _), (1, _), (4, _), (5, _)] ⟨rfl, rfl, rfl, rfl, trivial⟩ ?_
  refine HQ.block ?_
  obtain ⟨o58, h62, H⟩ := bnd H
  refine HQ.loop h62 0 (fun (s : (List TTx) × Int × Int) (g : Unit) => match s, g with | (l19, i20, i21), () => [(0, .slice a_0 (List.length l19) c_0), (1, .int .i64 i20), (4, .int .i64 0), (5, .int .i64 i21)]) (fun (s : (List TTx) × Int × Int) (g : Unit) => match s, g with | (l19, i20, i21), () => [(1, OwnS kTTx a_0 c_0 l19)]) (fun _ _ _ => False) () ⟨rfl, rfl, rfl, rfl, trivial⟩ ⟨rfl, trivial⟩ rfl ?_ ?_ ?_
  · clear H h62
    rintro ⟨l19, i20, i21⟩ _ o H
    rw [laws_markTxS_b0] at H
    refine HQ.keep [(0, _), (1, _), (4, _), (5, _)] ⟨rfl, rfl, rfl, rfl, trivial⟩ ?_
    refine HQ.keepR [(1, _)] ⟨rfl, trivial⟩ rfl ?_
    refine HQ.seq ?_
    refine HQ.rseq ?_
    refine HQ.pu Pu.move ⟨rfl, trivial⟩ rfl rfl rfl ?_
    refine HQ.pu Pu.move ⟨rfl, trivial⟩ rfl rfl rfl ?_
    refine HQ.pu (Pu.len ul26) ⟨rfl, trivial⟩ rfl rfl rfl ?_
    refine HQ.pu Pu.lss ⟨rfl, rfl, trivial⟩ rfl rfl rfl ?_
    refine HQ.done ?_
    refine HQ.keep [(0, _), (1, _), (4, _), (5, _), (9, _)] ⟨rfl, rfl, rfl, rfl, rfl, trivial⟩ ?_
    rcases brk H with ⟨hc, H⟩ | ⟨hc, H⟩
    · refine HQ.condT rfl hc ?_
      clear hc
      refine HQ.skipThen ?_
      refine HQ.seq ?_
      refine HQ.block ?_
      refine HQ.rseq ?_
      refine HQ.pu Pu.move ⟨rfl, trivial⟩ rfl rfl rfl ?_
      refine HQ.pu Pu.move ⟨rfl, trivial⟩ rfl rfl rfl ?_
      refine HQ.pu Pu.move ⟨rfl, trivial⟩ rfl rfl rfl ?_
      obtain ⟨h40, H⟩ := asr H
      refine HQ.op [1] [1] (OT.indexO ul26 sz60 h40) ⟨rfl, rfl, trivial⟩ ⟨rfl, trivial⟩ rfl rfl rfl rfl (fun _ => rfl) fun _ => ?_
      refine HQ.pu (Pu.fieldE fo60_0 rfl) ⟨rfl, trivial⟩ rfl rfl rfl ?_
      refine HQ.opN [1] [1] [] (OT.storeO (⟨i20, (gt l19 i21).Root, (gt l19 i21).Size, (gt l19 i21).Puts⟩ : TTx) sz3 rfl rfl rfl h40 rfl (fun _ => rfl) rfl) ⟨rfl, rfl, trivial⟩ ⟨rfl, trivial⟩ rfl rfl rfl (fun _ => rfl) fun _ => ?_
      obtain ⟨l41, h42, H⟩ := bnd H
      replace h42 := Option.some.inj h42
      refine HQ.reR (B := OwnS kTTx a_0 c_0 l41) 1 rfl (by intro _ _ hb; rw [← h42]; exact hb) ?_
      have h43 : List.length l41 = List.length l19 := by rw [← h42, List.length_set]
      refine HQ.re (v' := .slice a_0 (List.length l41) c_0) 0 rfl (by simp [h43]) ?_
      refine HQ.re (v' := .slice a_0 (List.length l41) c_0) 12 rfl (by simp [h43]) ?_
      refine HQ.done ?_
      refine HQ.keep [(0, _), (1, _), (4, _), (5, _)] ⟨rfl, rfl, rfl, rfl, trivial⟩ ?_
      refine HQ.rseq ?_
      refine HQ.pu Pu.move ⟨rfl, trivial⟩ rfl rfl rfl ?_
      refine HQ.pu Pu.add ⟨rfl, rfl, trivial⟩ rfl rfl rfl ?_
      refine HQ.pu Pu.assign ⟨rfl, trivial⟩ rfl rfl rfl ?_
      refine HQ.done ?_
      refine HQ.keep [(0, _), (1, _), (4, _), (5, _)] ⟨rfl, rfl, rfl, rfl, trivial⟩ ?_
      refine HQ.rseq ?_
      refine HQ.pu Pu.move ⟨rfl, trivial⟩ rfl rfl rfl ?_
      refine HQ.pu Pu.move ⟨rfl, trivial⟩ rfl rfl rfl ?_
      refine HQ.pu Pu.move ⟨rfl, trivial⟩ rfl rfl rfl ?_
      obtain ⟨h44, H⟩ := asr H
      refine HQ.op [1] [1] (OT.indexO ul26 sz60 h44) ⟨rfl, rfl, trivial⟩ ⟨rfl, trivial⟩ rfl rfl rfl rfl (fun _ => rfl) fun _ => ?_
      refine HQ.pu (Pu.fieldE fo60_1 rfl) ⟨rfl, trivial⟩ rfl rfl rfl ?_
      refine HQ.opN [1] [1] [] (OT.storeO (⟨(gt l41 i21).Seq, (wrap64 (i20 + 1)), (gt l41 i21).Size, (gt l41 i21).Puts⟩ : TTx) sz3 rfl rfl rfl h44 rfl (fun _ => rfl) rfl) ⟨rfl, rfl, trivial⟩ ⟨rfl, trivial⟩ rfl rfl rfl (fun _ => rfl) fun _ => ?_
      obtain ⟨l45, h46, H⟩ := bnd H
      replace h46 := Option.some.inj h46
      refine HQ.reR (B := OwnS kTTx a_0 c_0 l45) 1 rfl (by intro _ _ hb; rw [← h46]; exact hb) ?_
      have h47 : List.length l45 = List.length l41 := by rw [← h46, List.length_set]
      refine HQ.re (v' := .slice a_0 (List.length l45) c_0) 0 rfl (by simp [h43, h47]) ?_
      refine HQ.re (v' := .slice a_0 (List.length l45) c_0) 19 rfl (by simp [h43, h47]) ?_
      refine HQ.done ?_
      refine HQ.keep [(0, _), (1, _), (4, _), (5, _)] ⟨rfl, rfl, rfl, rfl, trivial⟩ ?_
      refine HQ.rseq ?_
      refine HQ.pu Pu.move ⟨rfl, trivial⟩ rfl rfl rfl ?_
      refine HQ.pu Pu.add ⟨rfl, rfl, trivial⟩ rfl rfl rfl ?_
      refine HQ.pu Pu.assign ⟨rfl, trivial⟩ rfl rfl rfl ?_
      refine HQ.done ?_
      refine HQ.keep [(0, _), (1, _), (4, _), (5, _)] ⟨rfl, rfl, rfl, rfl, trivial⟩ ?_
      refine HQ.rseq ?_
      refine HQ.pu Pu.move ⟨rfl, trivial⟩ rfl rfl rfl ?_
      refine HQ.pu Pu.move ⟨rfl, trivial⟩ rfl rfl rfl ?_
      refine HQ.pu Pu.move ⟨rfl, trivial⟩ rfl rfl rfl ?_
      obtain ⟨h48, H⟩ := asr H
      refine HQ.op [1] [1] (OT.indexO ul26 sz60 h48) ⟨rfl, rfl, trivial⟩ ⟨rfl, trivial⟩ rfl rfl rfl rfl (fun _ => rfl) fun _ => ?_
      refine HQ.pu (Pu.fieldE fo60_2 rfl) ⟨rfl, trivial⟩ rfl rfl rfl ?_
      refine HQ.opN [1] [1] [] (OT.storeO (⟨(gt l45 i21).Seq, (gt l45 i21).Root, (wrap64 ((wrap64 (i20 + 1)) + 1)), (gt l45 i21).Puts⟩ : TTx) sz3 rfl rfl rfl h48 rfl (fun _ => rfl) rfl) ⟨rfl, rfl, trivial⟩ ⟨rfl, trivial⟩ rfl rfl rfl (fun _ => rfl) fun _ => ?_
      obtain ⟨l49, h50, H⟩ := bnd H
      replace h50 := Option.some.inj h50
      refine HQ.reR (B := OwnS kTTx a_0 c_0 l49) 1 rfl (by intro _ _ hb; rw [← h50]; exact hb) ?_
      have h51 : List.length l49 = List.length l45 := by rw [← h50, List.length_set]
      refine HQ.re (v' := .slice a_0 (List.length l49) c_0) 0 rfl (by simp [h43, h47, h51]) ?_
      refine HQ.re (v' := .slice a_0 (List.length l49) c_0) 26 rfl (by simp [h43, h47, h51]) ?_
      refine HQ.done ?_
      refine HQ.keep [(0, _), (1, _), (4, _), (5, _)] ⟨rfl, rfl, rfl, rfl, trivial⟩ ?_
      refine HQ.rseq ?_
      refine HQ.pu Pu.move ⟨rfl, trivial⟩ rfl rfl rfl ?_
      refine HQ.pu Pu.add ⟨rfl, rfl, trivial⟩ rfl rfl rfl ?_
      refine HQ.pu Pu.assign ⟨rfl, trivial⟩ rfl rfl rfl ?_
      refine HQ.done ?_
      refine HQ.keep [(0, _), (1, _), (4, _), (5, _)] ⟨rfl, rfl, rfl, rfl, trivial⟩ ?_
      refine HQ.regionQ ?_
      refine HQ.pu Pu.move ⟨rfl, trivial⟩ rfl rfl rfl ?_
      refine HQ.pu Pu.move ⟨rfl, trivial⟩ rfl rfl rfl ?_
      obtain ⟨h52, H⟩ := asr H
      refine HQ.op [1] [1] (OT.indexO ul26 sz60 h52) ⟨rfl, rfl, trivial⟩ ⟨rfl, trivial⟩ rfl rfl rfl rfl (fun _ => rfl) fun _ => ?_
      refine HQ.pu (Pu.fieldE fo60_3 rfl) ⟨rfl, trivial⟩ rfl rfl rfl ?_
      refine HQ.op [1] [1, 4] (OT.focus (v := fun a53 c54 => .slice a53 (List.length ((gt l49 i21).Puts)) c54) (fun x ys => (⟨x.Seq, x.Root, x.Size, ys⟩ : TTx)) sc58 h52 (fun _ _ => rfl) (fun _ _ _ => rfl) (fun _ _ => rfl)) ⟨rfl, trivial⟩ ⟨rfl, trivial⟩ rfl rfl rfl rfl (fun _ => rfl) fun ⟨a53, c54⟩ => ?_
      refine HQ.pu Pu.move ⟨rfl, trivial⟩ rfl rfl rfl ?_
      obtain ⟨t55, h56, H⟩ := bnd H
      obtain ⟨h57, H⟩ := asr H
      refine HQ.op [4] [4] (OT.callM (us := [_, _]) (PreX := [OwnS kTChange a53 c54 ((gt l49 i21).Puts)]) (PreL := []) [.tmp 37, .tmp 38] Try.call80 rfl rfl fun w FX FL hs1 hF1 hs2 hF2 hp => laws_markChangeS_c (p0 := (gt l49 i21).Puts) (p1 := (wrap64 ((wrap64 ((wrap64 (i20 + 1)) + 1)) + 1))) hs1 hF1 h56) ⟨rfl, rfl, rfl, trivial⟩ ⟨rfl, trivial⟩ rfl rfl rfl rfl (fun _ => rfl) fun _ => ?_
      refine HQ.re (v' := .slice a53 (List.length t55.2) c54) 37 rfl (by simp [h43, h47, h51, h57]) ?_
      refine HQ.pu Pu.assign ⟨rfl, trivial⟩ rfl rfl rfl ?_
      refine HQ.done ?_
      refine HQ.keep [(0, _), (1, _), (4, _), (5, _)] ⟨rfl, rfl, rfl, rfl, trivial⟩ ?_
      refine HQ.blkN ?_
      refine HQ.thenN ?_
      refine HQ.regionQ ?_
      refine HQ.pu Pu.move ⟨rfl, trivial⟩ rfl rfl rfl ?_
      refine HQ.pu Pu.add ⟨rfl, rfl, trivial⟩ rfl rfl rfl ?_
      refine HQ.pu Pu.assign ⟨rfl, trivial⟩ rfl rfl rfl ?_
      refine HQ.done ?_
      refine HQ.keep [(0, _), (1, _), (4, _), (5, _)] ⟨rfl, rfl, rfl, rfl, trivial⟩ ?_
      refine HQ.unfocus (xs' := (List.set l49 (Int.toNat i21) (⟨(gt l49 i21).Seq, (gt l49 i21).Root, (gt l49 i21).Size, t55.2⟩ : TTx))) 1 4 rfl rfl rfl (by simp [h43, h47, h51, h57]) rfl ?_
      refine HQ.re (v' := .slice a_0 (List.length (List.set l49 (Int.toNat i21) (⟨(gt l49 i21).Seq, (gt l49 i21).Root, (gt l49 i21).Size, t55.2⟩ : TTx))) c_0) 0 rfl (by simp [h43, h47, h51, h57]) ?_
      obtain rfl := Option.some.inj H
      exact HQ.next () ⟨rfl, rfl, rfl, rfl, trivial⟩ ⟨rfl, trivial⟩ rfl
    · refine HQ.condF rfl hc ?_
      clear hc
      refine HQ.exit ?_
      refine HQ.thenE ?_
      obtain rfl := Option.some.inj H
      exact HQ.out () ⟨rfl, rfl, rfl, rfl, trivial⟩ ⟨rfl, trivial⟩ rfl
  · rintro ⟨l59, i60, i61⟩ rfl _
    clear h62
    replace H := H
    refine HQ.keep [(0, _), (1, _), (4, _), (5, _)] ⟨rfl, rfl, rfl, rfl, trivial⟩ ?_
    refine HQ.keepR [(1, _)] ⟨rfl, trivial⟩ rfl ?_
    refine HQ.blkE ?_
    refine HQ.thenN ?_
    refine HQ.rseq ?_
    refine HQ.pu Pu.move ⟨rfl, trivial⟩ rfl rfl rfl ?_
    refine HQ.pu Pu.assign ⟨rfl, trivial⟩ rfl rfl rfl ?_
    refine HQ.done ?_
    refine HQ.keep [(4, _)] ⟨rfl, trivial⟩ ?_
    refine HQ.ret ?_
    obtain rfl := Option.some.inj H
    exact HQ.fin (vs := [_]) Try.results21 () ⟨rfl, trivial⟩ rfl [1] ⟨rfl, trivial⟩ rfl
  · exact fun r h a w hf => hf.elim

/-! laws.markIntS -/
theorem laws_markIntS_c {w : World} {k : Nat} {p0 : (List Int)} {p1 : Int} {a_0 : Option Addr} {c_0 : Nat} {F0 : Fp} (hs0 : Sat [OwnS kI a_0 c_0 p0] w.heap F0) (hF0 : ∀ b, F0 b → b < w.heap.size)  {r : Int × (List Int)} (H : laws_markIntS k p0 p1 = some r) :
    Calls Try.prog 22 #[.slice a_0 (List.length p0) c_0, .int .i64 p1] w (Rt w F0 (fun _ : Unit => .int .i64 r.1) (fun _ => [OwnS kI a_0 c_0 r.2])) := by
  rw [laws_markIntS] at H
  refine Calls.enter (N := 19) (us := [_, _]) (F0 := F0) (Γ0 := [(1, OwnS kI a_0 c_0 p0)]) Try.func22 rfl rfl rfl hs0 hF0 ?_
  refine HQ.rseq ?_
  refine HQ.pu Pu.assign ⟨rfl, trivial⟩ rfl rfl rfl ?_
  refine HQ.done ?_
  refine HQ.keep [(0, _), (1, _), (4, _)] ⟨rfl, rfl, rfl, trivial⟩ ?_
  refine HQ.seq ?_
  refine HQ.rseq ?_
  refine HQ.pu Pu.assign ⟨rfl, trivial⟩ rfl rfl rfl ?_
  refine HQ.done ?_
  refine HQ.keep [(0, _), (1, _), (4, _), (5, _)] ⟨rfl, rfl, rfl, rfl, trivial⟩ ?_
  refine HQ.block ?_
  obtain ⟨o16, h20, H⟩ := bnd H
  refine HQ.loop h20 0 (fun (s : (List Int) × Int × Int) (g : Unit) => match s, g with | (l5, i6, i7), () => [(0, .slice a_0 (List.length l5) c_0), (1, .int .i64 i6), (4, .int .i64 0), (5, .int .i64 i7)]) (fun (s : (List Int) × Int × Int) (g : Unit) => match s, g with | (l5, i6, i7), () => [(1, OwnS kI a_0 c_0 l5)]) (fun _ _ _ => False) () ⟨rfl, rfl, rfl, rfl, trivial⟩ ⟨rfl, trivial⟩ rfl ?_ ?_ ?_
  · clear H h20
    rintro ⟨l5, i6, i7⟩ _ o H
    rw [laws_markIntS_b0] at H
    refine HQ.keep [(0, _), (1, _), (4, _), (5, _)] ⟨rfl, rfl, rfl, rfl, trivial⟩ ?_
    refine HQ.keepR [(1, _)] ⟨rfl, trivial⟩ rfl ?_
    refine HQ.seq ?_
    refine HQ.rseq ?_
    refine HQ.pu Pu.move ⟨rfl, trivial⟩ rfl rfl rfl ?_
    refine HQ.pu Pu.move ⟨rfl, trivial⟩ rfl rfl rfl ?_
    refine HQ.pu (Pu.len ul24) ⟨rfl, trivial⟩ rfl rfl rfl ?_
    refine HQ.pu Pu.lss ⟨rfl, rfl, trivial⟩ rfl rfl rfl ?_
    refine HQ.done ?_
    refine HQ.keep [(0, _), (1, _), (4, _), (5, _), (9, _)] ⟨rfl, rfl, rfl, rfl, rfl, trivial⟩ ?_
    rcases brk H with ⟨hc, H⟩ | ⟨hc, H⟩
    · refine HQ.condT rfl hc ?_
      clear hc
      refine HQ.skipThen ?_
      refine HQ.seq ?_
      refine HQ.block ?_
      refine HQ.rseq ?_
      refine HQ.pu Pu.move ⟨rfl, trivial⟩ rfl rfl rfl ?_
      refine HQ.pu Pu.move ⟨rfl, trivial⟩ rfl rfl rfl ?_
      refine HQ.pu Pu.move ⟨rfl, trivial⟩ rfl rfl rfl ?_
      obtain ⟨h12, H⟩ := asr H
      refine HQ.op [1] [1] (OT.indexO ul24 sz3 h12) ⟨rfl, rfl, trivial⟩ ⟨rfl, trivial⟩ rfl rfl rfl rfl (fun _ => rfl) fun _ => ?_
      refine HQ.opN [1] [1] [] (OT.storeF i6 sz3 rfl rfl rfl h12 rfl rfl) ⟨rfl, rfl, trivial⟩ ⟨rfl, trivial⟩ rfl rfl rfl (fun _ => rfl) fun _ => ?_
      obtain ⟨l13, h14, H⟩ := bnd H
      replace h14 := Option.some.inj h14
      refine HQ.reR (B := OwnS kI a_0 c_0 l13) 1 rfl (by intro _ _ hb; rw [← h14]; exact hb) ?_
      have h15 : List.length l13 = List.length l5 := by rw [← h14, List.length_set]
      refine HQ.re (v' := .slice a_0 (List.length l13) c_0) 0 rfl (by simp [h15]) ?_
      refine HQ.re (v' := .slice a_0 (List.length l13) c_0) 12 rfl (by simp [h15]) ?_
      refine HQ.done ?_
      refine HQ.keep [(0, _), (1, _), (4, _), (5, _)] ⟨rfl, rfl, rfl, rfl, trivial⟩ ?_
      refine HQ.regionQ ?_
      refine HQ.pu Pu.move ⟨rfl, trivial⟩ rfl rfl rfl ?_
      refine HQ.pu Pu.add ⟨rfl, rfl, trivial⟩ rfl rfl rfl ?_
      refine HQ.pu Pu.assign ⟨rfl, trivial⟩ rfl rfl rfl ?_
      refine HQ.done ?_
      refine HQ.keep [(0, _), (1, _), (4, _), (5, _)] ⟨rfl, rfl, rfl, rfl, trivial⟩ ?_
      refine HQ.blkN ?_
      refine HQ.thenN ?_
      refine HQ.regionQ ?_
      refine HQ.pu Pu.move ⟨rfl, trivial⟩ rfl rfl rfl ?_
      refine HQ.pu Pu.add ⟨rfl, rfl, trivial⟩ rfl rfl rfl ?_
      refine HQ.pu Pu.assign ⟨rfl, trivial⟩ rfl rfl rfl ?_
      refine HQ.done ?_
      refine HQ.keep [(0, _), (1, _), (4, _), (5, _)] ⟨rfl, rfl, rfl, rfl, trivial⟩ ?_
      obtain rfl := Option.some.inj H
      exact HQ.next () ⟨rfl, rfl, rfl, rfl, trivial⟩ ⟨rfl, trivial⟩ rfl
    · refine HQ.condF rfl hc ?_
      clear hc
      refine HQ.exit ?_
      refine HQ.thenE ?_
      obtain rfl := Option.some.inj H
      exact HQ.out () ⟨rfl, rfl, rfl, rfl, trivial⟩ ⟨rfl, trivial⟩ rfl
  · rintro ⟨l17, i18, i19⟩ rfl _
    clear h20
    replace H := H
    refine HQ.keep [(0, _), (1, _), (4, _), (5, _)] ⟨rfl, rfl, rfl, rfl, trivial⟩ ?_
    refine HQ.keepR [(1, _)] ⟨rfl, trivial⟩ rfl ?_
    refine HQ.blkE ?_
    refine HQ.thenN ?_
    refine HQ.rseq ?_
    refine HQ.pu Pu.move ⟨rfl, trivial⟩ rfl rfl rfl ?_
    refine HQ.pu Pu.assign ⟨rfl, trivial⟩ rfl rfl rfl ?_
    refine HQ.done ?_
    refine HQ.keep [(4, _)] ⟨rfl, trivial⟩ ?_
    refine HQ.ret ?_
    obtain rfl := Option.some.inj H
    exact HQ.fin (vs := [_]) Try.results22 () ⟨rfl, trivial⟩ rfl [1] ⟨rfl, trivial⟩ rfl
  · exact fun r h a w hf => hf.elim

/-! laws.heldIntS -/
theorem laws_heldIntS_c {w : World} {k : Nat} {p0 : (List Int)} {p1 : Int} {a_0 : Option Addr} {c_0 : Nat} (hb_0 : BorS kI a_0 c_0 p0 w.heap (Lt w Nil)) {r : Int} (H : laws_heldIntS k p0 p1 = some r) :
    Calls Try.prog 23 #[.slice a_0 (List.length p0) c_0, .int .i64 p1] w (Rt w Nil (fun _ : Unit => .int .i64 r) (fun _ => [])) := by
  rw [laws_heldIntS] at H
  refine Calls.enter0 (N := 21) (us := [_, _]) Try.func23 rfl rfl rfl ?_
  refine HQ.rseq ?_
  refine HQ.pu Pu.assign ⟨rfl, trivial⟩ rfl rfl rfl ?_
  refine HQ.done ?_
  refine HQ.keep [(0, _), (1, _), (4, _)] ⟨rfl, rfl, rfl, trivial⟩ ?_
  refine HQ.seq ?_
  refine HQ.rseq ?_
  refine HQ.pu Pu.assign ⟨rfl, trivial⟩ rfl rfl rfl ?_
  refine HQ.done ?_
  refine HQ.keep [(0, _), (1, _), (4, _), (5, _)] ⟨rfl, rfl, rfl, rfl, trivial⟩ ?_
  refine HQ.block ?_
  obtain ⟨o6, h9, H⟩ := bnd H
  refine HQ.loop h9 0 (fun (s : Int × Int) (g : Unit) => match s, g with | (i2, i3), () => [(0, .slice a_0 (List.length p0) c_0), (1, .int .i64 i2), (4, .int .i64 0), (5, .int .i64 i3)]) (fun (s : Int × Int) (g : Unit) => match s, g with | (i2, i3), () => []) (fun r => bodyPost Try.prog Try.f23 (Rt w Nil (fun _ : Unit => .int .i64 r) (fun _ => [])) .ret) () ⟨rfl, rfl, rfl, rfl, trivial⟩ trivial rfl ?_ ?_ ?_
  · clear H h9
    rintro ⟨i2, i3⟩ _ o H
    rw [laws_heldIntS_b0] at H
    refine HQ.keep [(0, _), (1, _), (4, _), (5, _)] ⟨rfl, rfl, rfl, rfl, trivial⟩ ?_
    refine HQ.keepR [] trivial rfl ?_
    refine HQ.seq ?_
    refine HQ.rseq ?_
    refine HQ.pu Pu.move ⟨rfl, trivial⟩ rfl rfl rfl ?_
    refine HQ.pu Pu.move ⟨rfl, trivial⟩ rfl rfl rfl ?_
    refine HQ.pu (Pu.len ul24) ⟨rfl, trivial⟩ rfl rfl rfl ?_
    refine HQ.pu Pu.lss ⟨rfl, rfl, trivial⟩ rfl rfl rfl ?_
    refine HQ.done ?_
    refine HQ.keep [(0, _), (1, _), (4, _), (5, _), (9, _)] ⟨rfl, rfl, rfl, rfl, rfl, trivial⟩ ?_
    rcases brk H with ⟨hc, H⟩ | ⟨hc, H⟩
    · refine HQ.condT rfl hc ?_
      clear hc
      refine HQ.skipThen ?_
      refine HQ.seq ?_
      refine HQ.block ?_
      refine HQ.seq ?_
      refine HQ.rseq ?_
      refine HQ.pu Pu.move ⟨rfl, trivial⟩ rfl rfl rfl ?_
      refine HQ.pu Pu.move ⟨rfl, trivial⟩ rfl rfl rfl ?_
      obtain ⟨h5, H⟩ := asr H
      refine HQ.op [] [] (OT.indexB ul24 sz3 hb_0 h5) ⟨rfl, rfl, trivial⟩ trivial rfl rfl rfl rfl (fun _ => rfl) fun _ => ?_
      refine HQ.op [] [] (OT.loadF sc3 hb_0 h5 rfl) ⟨rfl, trivial⟩ trivial rfl rfl rfl rfl (fun _ => rfl) fun _ => ?_
      refine HQ.pu Pu.move ⟨rfl, trivial⟩ rfl rfl rfl ?_
      refine HQ.pu Pu.neq ⟨rfl, rfl, trivial⟩ rfl rfl rfl ?_
      refine HQ.done ?_
      refine HQ.keep [(0, _), (1, _), (4, _), (5, _), (17, _)] ⟨rfl, rfl, rfl, rfl, rfl, trivial⟩ ?_
      rcases brk H with ⟨hc, H⟩ | ⟨hc, H⟩
      · refine HQ.condT rfl hc ?_
        clear hc
        refine HQ.rseq ?_
        refine HQ.pu Pu.assign ⟨rfl, trivial⟩ rfl rfl rfl ?_
        refine HQ.done ?_
        refine HQ.keep [(0, _), (1, _), (4, _), (5, _)] ⟨rfl, rfl, rfl, rfl, trivial⟩ ?_
        refine HQ.ret ?_
        refine HQ.thenR ?_
        refine HQ.blkR ?_
        refine HQ.thenR ?_
        obtain rfl := Option.some.inj H
        refine HQ.retL ?_
        exact HQ.fin (vs := [_]) Try.results23 () ⟨rfl, trivial⟩ rfl [] trivial rfl
      · refine HQ.condF rfl hc ?_
        clear hc
        refine HQ.skipThen ?_
        refine HQ.regionQ ?_
        refine HQ.pu Pu.move ⟨rfl, trivial⟩ rfl rfl rfl ?_
        refine HQ.pu Pu.add ⟨rfl, rfl, trivial⟩ rfl rfl rfl ?_
        refine HQ.pu Pu.assign ⟨rfl, trivial⟩ rfl rfl rfl ?_
        refine HQ.done ?_
        refine HQ.keep [(0, _), (1, _), (4, _), (5, _)] ⟨rfl, rfl, rfl, rfl, trivial⟩ ?_
        refine HQ.blkN ?_
        refine HQ.thenN ?_
        refine HQ.regionQ ?_
        refine HQ.pu Pu.move ⟨rfl, trivial⟩ rfl rfl rfl ?_
        refine HQ.pu Pu.add ⟨rfl, rfl, trivial⟩ rfl rfl rfl ?_
        refine HQ.pu Pu.assign ⟨rfl, trivial⟩ rfl rfl rfl ?_
        refine HQ.done ?_
        refine HQ.keep [(0, _), (1, _), (4, _), (5, _)] ⟨rfl, rfl, rfl, rfl, trivial⟩ ?_
        obtain rfl := Option.some.inj H
        exact HQ.next () ⟨rfl, rfl, rfl, rfl, trivial⟩ trivial rfl
    · refine HQ.condF rfl hc ?_
      clear hc
      refine HQ.exit ?_
      refine HQ.thenE ?_
      obtain rfl := Option.some.inj H
      exact HQ.out () ⟨rfl, rfl, rfl, rfl, trivial⟩ trivial rfl
  · rintro ⟨i7, i8⟩ rfl _
    clear h9
    replace H := H
    refine HQ.keep [(0, _), (1, _), (4, _), (5, _)] ⟨rfl, rfl, rfl, rfl, trivial⟩ ?_
    refine HQ.keepR [] trivial rfl ?_
    refine HQ.blkE ?_
    refine HQ.thenN ?_
    refine HQ.rseq ?_
    refine HQ.pu Pu.move ⟨rfl, trivial⟩ rfl rfl rfl ?_
    refine HQ.pu Pu.assign ⟨rfl, trivial⟩ rfl rfl rfl ?_
    refine HQ.done ?_
    refine HQ.keep [(4, _)] ⟨rfl, trivial⟩ ?_
    refine HQ.ret ?_
    obtain rfl := Option.some.inj H
    exact HQ.fin (vs := [_]) Try.results23 () ⟨rfl, trivial⟩ rfl [] trivial rfl
  · rintro r rfl a w hr
    obtain rfl := Option.some.inj H
    exact hr

/-! laws.FnExactChangedBy -/
theorem laws_FnExactChangedBy_c {w : World} {k : Nat} {p0 : (List TTx)} {a_0 : Option Addr} {c_0 : Nat} (hb_0 : BorS kTTx a_0 c_0 p0 w.heap (Lt w Nil)) {r : Bool} (H : laws_FnExactChangedBy k p0 = some r) :
    Calls Try.prog 3 #[.slice a_0 (List.length p0) c_0] w (Rt w Nil (fun _ : Unit => .bool r) (fun _ => [])) := by
  rw [laws_FnExactChangedBy] at H
  refine Calls.enter0 (N := 69) (us := [_]) Try.func3 rfl rfl rfl ?_
  refine HQ.rseq ?_
  refine HQ.pu Pu.assign ⟨rfl, trivial⟩ rfl rfl rfl ?_
  refine HQ.done ?_
  refine HQ.keep [(0, _), (2, _)] ⟨rfl, rfl, trivial⟩ ?_
  refine HQ.rseq ?_
  refine HQ.pu Pu.assign ⟨rfl, trivial⟩ rfl rfl rfl ?_
  refine HQ.done ?_
  refine HQ.keep [(0, _), (2, _), (3, _)] ⟨rfl, rfl, rfl, trivial⟩ ?_
  refine HQ.rseq ?_
  refine HQ.pu Pu.move ⟨rfl, trivial⟩ rfl rfl rfl ?_
  refine HQ.pu Pu.move ⟨rfl, trivial⟩ rfl rfl rfl ?_
  obtain ⟨t1, h2, H⟩ := bnd H
  refine HQ.op [] [] (OT.call (us := [_, _]) (Pre := []) [.tmp 11, .tmp 12] Try.call15 rfl rfl fun w F hs hF hp => laws_szTxS_c (hb_0.pass hp) h2) ⟨rfl, rfl, rfl, trivial⟩ trivial rfl rfl rfl rfl (fun _ => rfl) fun _ => ?_
  refine HQ.pu Pu.assign ⟨rfl, trivial⟩ rfl rfl rfl ?_
  refine HQ.done ?_
  refine HQ.keep [(0, _), (2, _), (3, _)] ⟨rfl, rfl, rfl, trivial⟩ ?_
  refine HQ.seq ?_
  refine HQ.rseq ?_
  refine HQ.pu Pu.move ⟨rfl, trivial⟩ rfl rfl rfl ?_
  refine HQ.pu Pu.lss ⟨rfl, rfl, trivial⟩ rfl rfl rfl ?_
  refine HQ.done ?_
  refine HQ.keep [(0, _), (2, _), (15, _)] ⟨rfl, rfl, rfl, trivial⟩ ?_
  rcases brk H with ⟨hc, H⟩ | ⟨hc, H⟩
  · refine HQ.condT rfl hc ?_
    clear hc
    refine HQ.rseq ?_
    refine HQ.pu Pu.assign ⟨rfl, trivial⟩ rfl rfl rfl ?_
    refine HQ.done ?_
    refine HQ.keep [(0, _), (2, _)] ⟨rfl, rfl, trivial⟩ ?_
    refine HQ.ret ?_
    refine HQ.thenR ?_
    obtain rfl := Option.some.inj H
    exact HQ.fin (vs := [_]) Try.results3 () ⟨rfl, trivial⟩ rfl [] trivial rfl
  · refine HQ.condF rfl hc ?_
    clear hc
    refine HQ.skipThen ?_
    refine HQ.rseq ?_
    refine HQ.pu Pu.move ⟨rfl, trivial⟩ rfl rfl rfl ?_
    obtain ⟨t3, h4, H⟩ := bnd H
    refine HQ.op [] [1] (OT.call (us := [_]) (Pre := []) [.tmp 16] Try.call17 rfl rfl fun w F hs hF hp => laws_toTxS_c (hb_0.pass hp) h4) ⟨rfl, rfl, trivial⟩ trivial rfl rfl rfl rfl (fun _ => rfl) fun ⟨a5, c6⟩ => ?_
    obtain ⟨t7, h8, H⟩ := bnd H
    refine HQ.op [1] [2, 1] (OT.call (us := [_]) (Pre := [OwnS kTTx a5 c6 t3]) [.tmp 17] Try.call16 rfl rfl fun w F hs hF hp => spec_ChangedBy_c (hs.lend hF 0 rfl) h8) ⟨rfl, rfl, trivial⟩ ⟨rfl, trivial⟩ rfl rfl rfl rfl (fun _ => rfl) fun ⟨a9, c10⟩ => ?_
    refine HQ.pu Pu.assign ⟨rfl, trivial⟩ rfl rfl rfl ?_
    refine HQ.done ?_
    refine HQ.keep [(0, _), (2, _), (4, _)] ⟨rfl, rfl, rfl, trivial⟩ ?_
    refine HQ.rseq ?_
    refine HQ.pu Pu.move ⟨rfl, trivial⟩ rfl rfl rfl ?_
    obtain ⟨t11, h12, H⟩ := bnd H
    refine HQ.op [] [3] (OT.call (us := [_]) (Pre := []) [.tmp 19] Try.call17 rfl rfl fun w F hs hF hp => laws_toTxS_c (hb_0.pass hp) h12) ⟨rfl, rfl, trivial⟩ trivial rfl rfl rfl rfl (fun _ => rfl) fun ⟨a13, c14⟩ => ?_
    refine HQ.pu Pu.assign ⟨rfl, trivial⟩ rfl rfl rfl ?_
    refine HQ.done ?_
    refine HQ.keep [(0, _), (2, _), (4, _), (5, _)] ⟨rfl, rfl, rfl, rfl, trivial⟩ ?_
    refine HQ.rseq ?_
    refine HQ.pu Pu.move ⟨rfl, trivial⟩ rfl rfl rfl ?_
    obtain ⟨t15, h16, H⟩ := bnd H
    refine HQ.op [3] [4, 3] (OT.call (us := [_]) (Pre := [OwnS kTTx a13 c14 t11]) [.tmp 21] Try.call18 rfl rfl fun w F hs hF hp => impl_ChangedBy_c (hs.lend hF 0 rfl) h16) ⟨rfl, rfl, trivial⟩ ⟨rfl, trivial⟩ rfl rfl rfl rfl (fun _ => rfl) fun ⟨a17, c18⟩ => ?_
    refine HQ.pu Pu.assign ⟨rfl, trivial⟩ rfl rfl rfl ?_
    refine HQ.done ?_
    refine HQ.keep [(0, _), (2, _), (4, _), (5, _), (6, _)] ⟨rfl, rfl, rfl, rfl, rfl, trivial⟩ ?_
    refine HQ.seq ?_
    refine HQ.rseq ?_
    refine HQ.pu Pu.move ⟨rfl, trivial⟩ rfl rfl rfl ?_
    refine HQ.pu Pu.move ⟨rfl, trivial⟩ rfl rfl rfl ?_
    obtain ⟨t19, h20, H⟩ := bnd H
    refine HQ.op [4, 2] [4, 2] (OT.call (us := [_, _]) (Pre := [OwnS kI a17 c18 t15, OwnS kI a9 c10 t7]) [.tmp 23, .tmp 24] Try.call19 rfl rfl fun w F hs hF hp => laws_eqIntS_c (hs.lend hF 0 rfl) (hs.lend hF 1 rfl) h20) ⟨rfl, rfl, rfl, trivial⟩ ⟨rfl, rfl, trivial⟩ rfl rfl rfl rfl (fun _ => rfl) fun _ => ?_
    refine HQ.pu Pu.not ⟨rfl, trivial⟩ rfl rfl rfl ?_
    refine HQ.done ?_
    refine HQ.keep [(0, _), (2, _), (4, _), (5, _), (6, _), (26, _)] ⟨rfl, rfl, rfl, rfl, rfl, rfl, trivial⟩ ?_
    rcases brk H with ⟨hc, H⟩ | ⟨hc, H⟩
    · refine HQ.condT rfl hc ?_
      clear hc
      refine HQ.rseq ?_
      refine HQ.pu Pu.assign ⟨rfl, trivial⟩ rfl rfl rfl ?_
      refine HQ.done ?_
      refine HQ.keep [(0, _), (2, _), (4, _), (5, _), (6, _)] ⟨rfl, rfl, rfl, rfl, rfl, trivial⟩ ?_
      refine HQ.ret ?_
      refine HQ.thenR ?_
      obtain rfl := Option.some.inj H
      exact HQ.fin (vs := [_]) Try.results3 () ⟨rfl, trivial⟩ rfl [] trivial rfl
    · refine HQ.condF rfl hc ?_
      clear hc
      refine HQ.skipThen ?_
      refine HQ.seq ?_
      refine HQ.rseq ?_
      refine HQ.pu Pu.move ⟨rfl, trivial⟩ rfl rfl rfl ?_
      refine HQ.pu Pu.move ⟨rfl, trivial⟩ rfl rfl rfl ?_
      obtain ⟨t21, h22, H⟩ := bnd H
      refine HQ.op [] [5] (OT.call (us := [_]) (Pre := []) [.tmp 28] Try.call17 rfl rfl fun w F hs hF hp => laws_toTxS_c (hb_0.pass hp) h22) ⟨rfl, rfl, trivial⟩ trivial rfl rfl rfl rfl (fun _ => rfl) fun ⟨a23, c24⟩ => ?_
      obtain ⟨t25, h26, H⟩ := bnd H
      refine HQ.op [3, 5] [3, 5] (OT.call (us := [_, _]) (Pre := [OwnS kTTx a13 c14 t11, OwnS kTTx a23 c24 t21]) [.tmp 27, .tmp 29] Try.call20 rfl rfl fun w F hs hF hp => laws_eqTxS_c (hs.lend hF 0 rfl) (hs.lend hF 1 rfl) h26) ⟨rfl, rfl, rfl, trivial⟩ ⟨rfl, rfl, trivial⟩ rfl rfl rfl rfl (fun _ => rfl) fun _ => ?_
      refine HQ.pu Pu.not ⟨rfl, trivial⟩ rfl rfl rfl ?_
      refine HQ.done ?_
      refine HQ.keep [(0, _), (2, _), (4, _), (5, _), (6, _), (31, _)] ⟨rfl, rfl, rfl, rfl, rfl, rfl, trivial⟩ ?_
      rcases brk H with ⟨hc, H⟩ | ⟨hc, H⟩
      · refine HQ.condT rfl hc ?_
        clear hc
        refine HQ.rseq ?_
        refine HQ.pu Pu.assign ⟨rfl, trivial⟩ rfl rfl rfl ?_
        refine HQ.done ?_
        refine HQ.keep [(0, _), (2, _), (4, _), (5, _), (6, _)] ⟨rfl, rfl, rfl, rfl, rfl, trivial⟩ ?_
        refine HQ.ret ?_
        refine HQ.thenR ?_
        obtain rfl := Option.some.inj H
        exact HQ.fin (vs := [_]) Try.results3 () ⟨rfl, trivial⟩ rfl [] trivial rfl
      · refine HQ.condF rfl hc ?_
        clear hc
        refine HQ.skipThen ?_
        refine HQ.rseq ?_
        refine HQ.pu Pu.assign ⟨rfl, trivial⟩ rfl rfl rfl ?_
        refine HQ.done ?_
        refine HQ.keep [(0, _), (2, _), (4, _), (5, _), (6, _), (7, _)] ⟨rfl, rfl, rfl, rfl, rfl, rfl, trivial⟩ ?_
        refine HQ.rseq ?_
        refine HQ.pu Pu.move ⟨rfl, trivial⟩ rfl rfl rfl ?_
        refine HQ.pu Pu.move ⟨rfl, trivial⟩ rfl rfl rfl ?_
        obtain ⟨t27, h28, H⟩ := bnd H
        obtain ⟨h29, H⟩ := asr H
        refine HQ.op [3] [3] (OT.callM (us := [_, _]) (PreX := [OwnS kTTx a13 c14 t11]) (PreL := []) [.tmp 32, .tmp 33] Try.call21 rfl rfl fun w FX FL hs1 hF1 hs2 hF2 hp => laws_markTxS_c (p0 := t11) (p1 := 1) hs1 hF1 h28) ⟨rfl, rfl, rfl, trivial⟩ ⟨rfl, trivial⟩ rfl rfl rfl rfl (fun _ => rfl) fun _ => ?_
        refine HQ.re (v' := .slice a13 (List.length t27.2) c14) 5 rfl (by simp [h29]) ?_
        refine HQ.re (v' := .slice a13 (List.length t27.2) c14) 32 rfl (by simp [h29]) ?_
        refine HQ.pu Pu.assign ⟨rfl, trivial⟩ rfl rfl rfl ?_
        refine HQ.done ?_
        refine HQ.keep [(0, _), (2, _), (4, _), (6, _), (7, _)] ⟨rfl, rfl, rfl, rfl, rfl, trivial⟩ ?_
        refine HQ.seq ?_
        refine HQ.rseq ?_
        refine HQ.pu Pu.move ⟨rfl, trivial⟩ rfl rfl rfl ?_
        refine HQ.pu Pu.lss ⟨rfl, rfl, trivial⟩ rfl rfl rfl ?_
        refine HQ.pu Pu.move ⟨rfl, trivial⟩ rfl rfl rfl ?_
        obtain ⟨c33, h34, H⟩ := bnd H
        refine HQ.cutAt 5 [(42, .bool c33), (0, .slice a_0 (List.length p0) c_0), (2, .bool false), (4, .slice a9 (List.length t7) c10), (6, .slice a17 (List.length t15) c18)] [(1, OwnS kTTx a5 c6 t3), (2, OwnS kI a9 c10 t7), (3, OwnS kTTx a13 c14 t27.2), (4, OwnS kI a17 c18 t15), (5, OwnS kTTx a23 c24 t21)] ?_ ?_
        · clear H
          have H := h34
          rcases brk H with ⟨hg30, H⟩ | ⟨hg30, H⟩
          · obtain rfl := Option.some.inj H
            refine HQ.off rfl rfl hg30 rfl ?_
            refine HQ.off rfl rfl hg30 rfl ?_
            refine HQ.off rfl rfl hg30 rfl ?_
            refine HQ.off rfl rfl hg30 rfl ?_
            refine HQ.pu (Pu.pickC1 hg30) ⟨rfl, rfl, trivial⟩ rfl rfl rfl ?_
            exact HQ.mid ⟨rfl, rfl, rfl, rfl, rfl, trivial⟩ ⟨rfl, rfl, rfl, rfl, rfl, trivial⟩ rfl
          · refine HQ.on rfl rfl hg30 ?_
            refine HQ.pu Pu.move ⟨rfl, trivial⟩ rfl rfl rfl ?_
            refine HQ.on rfl rfl hg30 ?_
            refine HQ.pu Pu.move ⟨rfl, trivial⟩ rfl rfl rfl ?_
            refine HQ.on rfl rfl hg30 ?_
            obtain ⟨t31, h32, H⟩ := bnd H
            refine HQ.op [4, 2] [4, 2] (OT.call (us := [_, _]) (Pre := [OwnS kI a17 c18 t15, OwnS kI a9 c10 t7]) [.tmp 38, .tmp 39] Try.call19 rfl rfl fun w F hs hF hp => laws_eqIntS_c (hs.lend hF 0 rfl) (hs.lend hF 1 rfl) h32) ⟨rfl, rfl, rfl, trivial⟩ ⟨rfl, rfl, trivial⟩ rfl rfl rfl rfl (fun _ => rfl) fun _ => ?_
            refine HQ.on rfl rfl hg30 ?_
            refine HQ.pu Pu.not ⟨rfl, trivial⟩ rfl rfl rfl ?_
            obtain rfl := Option.some.inj H
            refine HQ.pu (Pu.pickC0 hg30) ⟨rfl, rfl, trivial⟩ rfl rfl rfl ?_
            exact HQ.mid ⟨rfl, rfl, rfl, rfl, rfl, trivial⟩ ⟨rfl, rfl, rfl, rfl, rfl, trivial⟩ rfl
        refine HQ.done ?_
        refine HQ.keep [(42, _), (0, _), (2, _), (4, _), (6, _)] ⟨rfl, rfl, rfl, rfl, rfl, trivial⟩ ?_
        rcases brk H with ⟨hc, H⟩ | ⟨hc, H⟩
        · refine HQ.condT rfl hc ?_
          clear hc
          refine HQ.rseq ?_
          refine HQ.pu Pu.assign ⟨rfl, trivial⟩ rfl rfl rfl ?_
          refine HQ.done ?_
          refine HQ.keep [(0, _), (2, _), (4, _), (6, _)] ⟨rfl, rfl, rfl, rfl, trivial⟩ ?_
          refine HQ.ret ?_
          refine HQ.thenR ?_
          obtain rfl := Option.some.inj H
          exact HQ.fin (vs := [_]) Try.results3 () ⟨rfl, trivial⟩ rfl [] trivial rfl
        · refine HQ.condF rfl hc ?_
          clear hc
          refine HQ.skipThen ?_
          refine HQ.rseq ?_
          refine HQ.pu Pu.assign ⟨rfl, trivial⟩ rfl rfl rfl ?_
          refine HQ.done ?_
          refine HQ.keep [(0, _), (2, _), (4, _), (6, _), (8, _)] ⟨rfl, rfl, rfl, rfl, rfl, trivial⟩ ?_
          refine HQ.rseq ?_
          refine HQ.pu Pu.move ⟨rfl, trivial⟩ rfl rfl rfl ?_
          refine HQ.pu Pu.move ⟨rfl, trivial⟩ rfl rfl rfl ?_
          obtain ⟨t35, h36, H⟩ := bnd H
          obtain ⟨h37, H⟩ := asr H
          refine HQ.op [4] [4] (OT.callM (us := [_, _]) (PreX := [OwnS kI a17 c18 t15]) (PreL := []) [.tmp 43, .tmp 44] Try.call22 rfl rfl fun w FX FL hs1 hF1 hs2 hF2 hp => laws_markIntS_c (p0 := t15) (p1 := 1) hs1 hF1 h36) ⟨rfl, rfl, rfl, trivial⟩ ⟨rfl, trivial⟩ rfl rfl rfl rfl (fun _ => rfl) fun _ => ?_
          refine HQ.re (v' := .slice a17 (List.length t35.2) c18) 6 rfl (by simp [h29, h37]) ?_
          refine HQ.re (v' := .slice a17 (List.length t35.2) c18) 43 rfl (by simp [h29, h37]) ?_
          refine HQ.pu Pu.assign ⟨rfl, trivial⟩ rfl rfl rfl ?_
          refine HQ.done ?_
          refine HQ.keep [(0, _), (2, _), (4, _), (6, _), (8, _)] ⟨rfl, rfl, rfl, rfl, rfl, trivial⟩ ?_
          refine HQ.rseq ?_
          refine HQ.pu Pu.assign ⟨rfl, trivial⟩ rfl rfl rfl ?_
          refine HQ.done ?_
          refine HQ.keep [(0, _), (2, _), (4, _), (6, _), (8, _), (9, _)] ⟨rfl, rfl, rfl, rfl, rfl, rfl, trivial⟩ ?_
          refine HQ.rseq ?_
          refine HQ.pu Pu.move ⟨rfl, trivial⟩ rfl rfl rfl ?_
          refine HQ.pu Pu.move ⟨rfl, trivial⟩ rfl rfl rfl ?_
          obtain ⟨t38, h39, H⟩ := bnd H
          refine HQ.op [4] [4] (OT.call (us := [_, _]) (Pre := [OwnS kI a17 c18 t35.2]) [.tmp 46, .tmp 47] Try.call23 rfl rfl fun w F hs hF hp => laws_heldIntS_c (hs.lend hF 0 rfl) h39) ⟨rfl, rfl, rfl, trivial⟩ ⟨rfl, trivial⟩ rfl rfl rfl rfl (fun _ => rfl) fun _ => ?_
          refine HQ.pu Pu.assign ⟨rfl, trivial⟩ rfl rfl rfl ?_
          refine HQ.done ?_
          refine HQ.keep [(0, _), (2, _), (4, _), (6, _), (8, _), (9, _)] ⟨rfl, rfl, rfl, rfl, rfl, rfl, trivial⟩ ?_
          refine HQ.seq ?_
          refine HQ.rseq ?_
          refine HQ.pu Pu.move ⟨rfl, trivial⟩ rfl rfl rfl ?_
          refine HQ.pu Pu.lss ⟨rfl, rfl, trivial⟩ rfl rfl rfl ?_
          refine HQ.done ?_
          refine HQ.keep [(0, _), (2, _), (4, _), (6, _), (8, _), (9, _), (50, _)] ⟨rfl, rfl, rfl, rfl, rfl, rfl, rfl, trivial⟩ ?_
          rcases brk H with ⟨hc, H⟩ | ⟨hc, H⟩
          · refine HQ.condT rfl hc ?_
            clear hc
            refine HQ.rseq ?_
            refine HQ.pu Pu.assign ⟨rfl, trivial⟩ rfl rfl rfl ?_
            refine HQ.done ?_
            refine HQ.keep [(0, _), (2, _), (4, _), (6, _), (8, _), (9, _)] ⟨rfl, rfl, rfl, rfl, rfl, rfl, trivial⟩ ?_
            refine HQ.ret ?_
            refine HQ.thenR ?_
            obtain rfl := Option.some.inj H
            exact HQ.fin (vs := [_]) Try.results3 () ⟨rfl, trivial⟩ rfl [] trivial rfl
          · refine HQ.condF rfl hc ?_
            clear hc
            refine HQ.skipThen ?_
            refine HQ.seq ?_
            refine HQ.rseq ?_
            refine HQ.pu Pu.move ⟨rfl, trivial⟩ rfl rfl rfl ?_
            refine HQ.pu Pu.move ⟨rfl, trivial⟩ rfl rfl rfl ?_
            refine HQ.pu Pu.neq ⟨rfl, rfl, trivial⟩ rfl rfl rfl ?_
            refine HQ.done ?_
            refine HQ.keep [(0, _), (2, _), (4, _), (6, _), (8, _), (53, _)] ⟨rfl, rfl, rfl, rfl, rfl, rfl, trivial⟩ ?_
            rcases brk H with ⟨hc, H⟩ | ⟨hc, H⟩
            · refine HQ.condT rfl hc ?_
              clear hc
              refine HQ.rseq ?_
              refine HQ.pu Pu.assign ⟨rfl, trivial⟩ rfl rfl rfl ?_
              refine HQ.done ?_
              refine HQ.keep [(0, _), (2, _), (4, _), (6, _), (8, _)] ⟨rfl, rfl, rfl, rfl, rfl, trivial⟩ ?_
              refine HQ.ret ?_
              refine HQ.thenR ?_
              obtain rfl := Option.some.inj H
              exact HQ.fin (vs := [_]) Try.results3 () ⟨rfl, trivial⟩ rfl [] trivial rfl
            · refine HQ.condF rfl hc ?_
              clear hc
              refine HQ.skipThen ?_
              refine HQ.rseq ?_
              refine HQ.pu Pu.move ⟨rfl, trivial⟩ rfl rfl rfl ?_
              obtain ⟨t40, h41, H⟩ := bnd H
              refine HQ.op [] [6] (OT.call (us := [_]) (Pre := []) [.tmp 54] Try.call17 rfl rfl fun w F hs hF hp => laws_toTxS_c (hb_0.pass hp) h41) ⟨rfl, rfl, trivial⟩ trivial rfl rfl rfl rfl (fun _ => rfl) fun ⟨a42, c43⟩ => ?_
              obtain ⟨t44, h45, H⟩ := bnd H
              refine HQ.op [6] [7, 6] (OT.call (us := [_]) (Pre := [OwnS kTTx a42 c43 t40]) [.tmp 55] Try.call18 rfl rfl fun w F hs hF hp => impl_ChangedBy_c (hs.lend hF 0 rfl) h45) ⟨rfl, rfl, trivial⟩ ⟨rfl, trivial⟩ rfl rfl rfl rfl (fun _ => rfl) fun ⟨a46, c47⟩ => ?_
              refine HQ.pu Pu.assign ⟨rfl, trivial⟩ rfl rfl rfl ?_
              refine HQ.done ?_
              refine HQ.keep [(2, _), (4, _), (6, _), (8, _), (10, _)] ⟨rfl, rfl, rfl, rfl, rfl, trivial⟩ ?_
              refine HQ.seq ?_
              refine HQ.rseq ?_
              refine HQ.pu Pu.move ⟨rfl, trivial⟩ rfl rfl rfl ?_
              refine HQ.pu Pu.move ⟨rfl, trivial⟩ rfl rfl rfl ?_
              obtain ⟨t48, h49, H⟩ := bnd H
              refine HQ.op [7, 2] [7, 2] (OT.call (us := [_, _]) (Pre := [OwnS kI a46 c47 t44, OwnS kI a9 c10 t7]) [.tmp 57, .tmp 58] Try.call19 rfl rfl fun w F hs hF hp => laws_eqIntS_c (hs.lend hF 0 rfl) (hs.lend hF 1 rfl) h49) ⟨rfl, rfl, rfl, trivial⟩ ⟨rfl, rfl, trivial⟩ rfl rfl rfl rfl (fun _ => rfl) fun _ => ?_
              refine HQ.pu Pu.not ⟨rfl, trivial⟩ rfl rfl rfl ?_
              refine HQ.done ?_
              refine HQ.keep [(2, _), (6, _), (8, _), (60, _)] ⟨rfl, rfl, rfl, rfl, trivial⟩ ?_
              rcases brk H with ⟨hc, H⟩ | ⟨hc, H⟩
              · refine HQ.condT rfl hc ?_
                clear hc
                refine HQ.rseq ?_
                refine HQ.pu Pu.assign ⟨rfl, trivial⟩ rfl rfl rfl ?_
                refine HQ.done ?_
                refine HQ.keep [(2, _), (6, _), (8, _)] ⟨rfl, rfl, rfl, trivial⟩ ?_
                refine HQ.ret ?_
                refine HQ.thenR ?_
                obtain rfl := Option.some.inj H
                exact HQ.fin (vs := [_]) Try.results3 () ⟨rfl, trivial⟩ rfl [] trivial rfl
              · refine HQ.condF rfl hc ?_
                clear hc
                refine HQ.skipThen ?_
                refine HQ.rseq ?_
                refine HQ.pu Pu.assign ⟨rfl, trivial⟩ rfl rfl rfl ?_
                refine HQ.done ?_
                refine HQ.keep [(2, _), (6, _), (8, _), (9, _)] ⟨rfl, rfl, rfl, rfl, trivial⟩ ?_
                refine HQ.rseq ?_
                refine HQ.pu Pu.move ⟨rfl, trivial⟩ rfl rfl rfl ?_
                refine HQ.pu Pu.move ⟨rfl, trivial⟩ rfl rfl rfl ?_
                obtain ⟨t50, h51, H⟩ := bnd H
                refine HQ.op [4] [4] (OT.call (us := [_, _]) (Pre := [OwnS kI a17 c18 t35.2]) [.tmp 61, .tmp 62] Try.call23 rfl rfl fun w F hs hF hp => laws_heldIntS_c (hs.lend hF 0 rfl) h51) ⟨rfl, rfl, rfl, trivial⟩ ⟨rfl, trivial⟩ rfl rfl rfl rfl (fun _ => rfl) fun _ => ?_
                refine HQ.pu Pu.assign ⟨rfl, trivial⟩ rfl rfl rfl ?_
                refine HQ.done ?_
                refine HQ.keep [(2, _), (8, _), (9, _)] ⟨rfl, rfl, rfl, trivial⟩ ?_
                refine HQ.seq ?_
                refine HQ.rseq ?_
                refine HQ.pu Pu.move ⟨rfl, trivial⟩ rfl rfl rfl ?_
                refine HQ.pu Pu.lss ⟨rfl, rfl, trivial⟩ rfl rfl rfl ?_
                refine HQ.done ?_
                refine HQ.keep [(2, _), (8, _), (9, _), (65, _)] ⟨rfl, rfl, rfl, rfl, trivial⟩ ?_
                rcases brk H with ⟨hc, H⟩ | ⟨hc, H⟩
                · refine HQ.condT rfl hc ?_
                  clear hc
                  refine HQ.rseq ?_
                  refine HQ.pu Pu.assign ⟨rfl, trivial⟩ rfl rfl rfl ?_
                  refine HQ.done ?_
                  refine HQ.keep [(2, _), (8, _), (9, _)] ⟨rfl, rfl, rfl, trivial⟩ ?_
                  refine HQ.ret ?_
                  refine HQ.thenR ?_
                  obtain rfl := Option.some.inj H
                  exact HQ.fin (vs := [_]) Try.results3 () ⟨rfl, trivial⟩ rfl [] trivial rfl
                · refine HQ.condF rfl hc ?_
                  clear hc
                  refine HQ.skipThen ?_
                  refine HQ.seq ?_
                  refine HQ.rseq ?_
                  refine HQ.pu Pu.move ⟨rfl, trivial⟩ rfl rfl rfl ?_
                  refine HQ.pu Pu.move ⟨rfl, trivial⟩ rfl rfl rfl ?_
                  refine HQ.pu Pu.neq ⟨rfl, rfl, trivial⟩ rfl rfl rfl ?_
                  refine HQ.done ?_
                  refine HQ.keep [(2, _), (68, _)] ⟨rfl, rfl, trivial⟩ ?_
                  rcases brk H with ⟨hc, H⟩ | ⟨hc, H⟩
                  · refine HQ.condT rfl hc ?_
                    clear hc
                    refine HQ.rseq ?_
                    refine HQ.pu Pu.assign ⟨rfl, trivial⟩ rfl rfl rfl ?_
                    refine HQ.done ?_
                    refine HQ.keep [(2, _)] ⟨rfl, trivial⟩ ?_
                    refine HQ.ret ?_
                    refine HQ.thenR ?_
                    obtain rfl := Option.some.inj H
                    exact HQ.fin (vs := [_]) Try.results3 () ⟨rfl, trivial⟩ rfl [] trivial rfl
                  · refine HQ.condF rfl hc ?_
                    clear hc
                    refine HQ.skipThen ?_
                    refine HQ.rseq ?_
                    refine HQ.pu Pu.assign ⟨rfl, trivial⟩ rfl rfl rfl ?_
                    refine HQ.done ?_
                    refine HQ.keep [(2, _)] ⟨rfl, trivial⟩ ?_
                    refine HQ.ret ?_
                    obtain rfl := Option.some.inj H
                    exact HQ.fin (vs := [_]) Try.results3 () ⟨rfl, trivial⟩ rfl [] trivial rfl

end Go.Proofs.Sx
