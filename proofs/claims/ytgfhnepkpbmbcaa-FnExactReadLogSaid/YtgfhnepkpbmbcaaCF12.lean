import Derived.Test.YtgfhnepkpbmbcaaCF11
import Derived.KernelRfl
namespace Go.Proofs.Sx
open Go.RowKit
set_option linter.unusedVariables false
set_option linter.unusedSimpArgs false
set_option maxRecDepth 20000
set_option maxHeartbeats 1000000
/-! laws.markCellS -/
theorem laws_markCellS_c {w : World} {k : Nat} {p0 : (List TCell)} {p1 : Int} {a_0 : Option Addr} {c_0 : Nat} {F0 : Fp} (hs0 : Sat [OwnS kTCell a_0 c_0 p0] w.heap F0) (hF0 : ∀ b, F0 b → b < w.heap.size)  {r : Int × (List TCell)} (H : laws_markCellS k p0 p1 = some r) :
    Calls Try.prog 95 #[.slice a_0 (List.length p0) c_0, .int .i64 p1] w (Rt w F0 (fun _ : Unit => .int .i64 r.1) (fun _ => [OwnS kTCell a_0 c_0 r.2])) := by
  rw [laws_markCellS] at H
  refine Calls.enter (N := 29) (us := [_, _]) (F0 := F0) (Γ0 := [(1, OwnS kTCell a_0 c_0 p0)]) Try.func95 rfl rfl rfl hs0 hF0 ?_
  refine HQ.rseq ?_
  refine HQ.pu Pu.assign ⟨rfl, trivial⟩ rfl rfl rfl ?_
  refine HQ.done ?_
  refine HQ.keep [(0, _), (1, _), (4, _)] ⟨rfl, rfl, rfl, trivial⟩ ?_
  refine HQ.seq ?_
  refine HQ.rseq ?_
  refine HQ.pu Pu.assign ⟨rfl, trivial⟩ rfl rfl rfl ?_
  refine HQ.done ?_
  refine HQ.keep [(0, _), (1, _), (4, _), (5, _)] ⟨rfl, rfl, rfl, rfl, trivial⟩ ?_
  refine HQ.block ?_
  obtain ⟨o34, h38, H⟩ := bnd H
  refine HQ.loop h38 0 (fun (s : (List TCell) × Int × Int) (g : Unit) => match s, g with | (l11, i12, i13), () => [(0, .slice a_0 (List.length l11) c_0), (1, .int .i64 i12), (4, .int .i64 0), (5, .int .i64 i13)]) (fun (s : (List TCell) × Int × Int) (g : Unit) => match s, g with | (l11, i12, i13), () => [(1, OwnS kTCell a_0 c_0 l11)]) (fun _ _ _ => False) () ⟨rfl, rfl, rfl, rfl, trivial⟩ ⟨rfl, trivial⟩ rfl ?_ ?_ ?_
  · clear H h38
    rintro ⟨l11, i12, i13⟩ _ o H
    rw [laws_markCellS_b0] at H
    refine HQ.keep [(0, _), (1, _), (4, _), (5, _)] ⟨rfl, rfl, rfl, rfl, trivial⟩ ?_
    refine HQ.keepR [(1, _)] ⟨rfl, trivial⟩ rfl ?_
    refine HQ.seq ?_
    refine HQ.rseq ?_
    refine HQ.pu Pu.move ⟨rfl, trivial⟩ rfl rfl rfl ?_
    refine HQ.pu Pu.move ⟨rfl, trivial⟩ rfl rfl rfl ?_
    refine HQ.pu (Pu.len ul39) ⟨rfl, trivial⟩ rfl rfl rfl ?_
    refine HQ.pu Pu.lss ⟨rfl, rfl, trivial⟩ rfl rfl rfl ?_
    refine HQ.done ?_
    refine HQ.keep [(0, _), (1, _), (4, _), (5, _), (9, _)] ⟨rfl, rfl, rfl, rfl, rfl, trivial⟩ ?_
    rcases brk H with ⟨hc, H⟩ | ⟨hc, H⟩
    · refine HQ.condT rfl hc ?_
      clear hc
      refine HQ.skipThen ?_
      refine HQ.seq ?_
      refine HQ.block ?_
      refine HQ.rseq ?_
      refine HQ.pu Pu.move ⟨rfl, trivial⟩ rfl rfl rfl ?_
      refine HQ.pu Pu.move ⟨rfl, trivial⟩ rfl rfl rfl ?_
      refine HQ.pu Pu.move ⟨rfl, trivial⟩ rfl rfl rfl ?_
      refine HQ.pu (Pu.rem (by decide)) ⟨rfl, rfl, trivial⟩ rfl rfl rfl ?_
      refine HQ.pu Pu.eql ⟨rfl, rfl, trivial⟩ rfl rfl rfl ?_
      obtain ⟨h24, H⟩ := asr H
      refine HQ.op [1] [1] (OT.indexO ul39 sz140 h24) ⟨rfl, rfl, trivial⟩ ⟨rfl, trivial⟩ rfl rfl rfl rfl (fun _ => rfl) fun _ => ?_
      refine HQ.pu (Pu.fieldE fo140_0 rfl) ⟨rfl, trivial⟩ rfl rfl rfl ?_
      refine HQ.opN [1] [1] [] (OT.storeO (⟨(decide ((Int.tmod i12 3) = 0)), (gt l11 i13).B⟩ : TCell) sz4 rfl rfl rfl h24 rfl (fun _ => rfl) rfl) ⟨rfl, rfl, trivial⟩ ⟨rfl, trivial⟩ rfl rfl rfl (fun _ => rfl) fun _ => ?_
      obtain ⟨l25, h26, H⟩ := bnd H
      replace h26 := Option.some.inj h26
      refine HQ.reR (B := OwnS kTCell a_0 c_0 l25) 1 rfl (by intro _ _ hb; rw [← h26]; exact hb) ?_
      have h27 : List.length l25 = List.length l11 := by rw [← h26, List.length_set]
      refine HQ.re (v' := .slice a_0 (List.length l25) c_0) 0 rfl (by simp [h27]) ?_
      refine HQ.re (v' := .slice a_0 (List.length l25) c_0) 12 rfl (by simp [h27]) ?_
      refine HQ.done ?_
      refine HQ.keep [(0, _), (1, _), (4, _), (5, _)] ⟨rfl, rfl, rfl, rfl, trivial⟩ ?_
      refine HQ.rseq ?_
      refine HQ.pu Pu.move ⟨rfl, trivial⟩ rfl rfl rfl ?_
      refine HQ.pu Pu.add ⟨rfl, rfl, trivial⟩ rfl rfl rfl ?_
      refine HQ.pu Pu.assign ⟨rfl, trivial⟩ rfl rfl rfl ?_
      refine HQ.done ?_
      refine HQ.keep [(0, _), (1, _), (4, _), (5, _)] ⟨rfl, rfl, rfl, rfl, trivial⟩ ?_
      refine HQ.regionQ ?_
      refine HQ.pu Pu.move ⟨rfl, trivial⟩ rfl rfl rfl ?_
      refine HQ.pu Pu.move ⟨rfl, trivial⟩ rfl rfl rfl ?_
      obtain ⟨h28, H⟩ := asr H
      refine HQ.op [1] [1] (OT.indexO ul39 sz140 h28) ⟨rfl, rfl, trivial⟩ ⟨rfl, trivial⟩ rfl rfl rfl rfl (fun _ => rfl) fun _ => ?_
      refine HQ.pu (Pu.fieldE fo140_1 rfl) ⟨rfl, trivial⟩ rfl rfl rfl ?_
      refine HQ.op [1] [1, 4] (OT.focus (v := fun a29 c30 => .slice a29 (List.length ((gt l25 i13).B)) c30) (fun x ys => (⟨x.Bad, ys⟩ : TCell)) sc37 h28 (fun _ _ => rfl) (fun _ _ _ => rfl) (fun _ _ => rfl)) ⟨rfl, trivial⟩ ⟨rfl, trivial⟩ rfl rfl rfl rfl (fun _ => rfl) fun ⟨a29, c30⟩ => ?_
      refine HQ.pu Pu.move ⟨rfl, trivial⟩ rfl rfl rfl ?_
      obtain ⟨t31, h32, H⟩ := bnd H
      obtain ⟨h33, H⟩ := asr H
      refine HQ.op [4] [4] (OT.callM (us := [_, _]) (PreX := [OwnS kU8 a29 c30 ((gt l25 i13).B)]) (PreL := []) [.tmp 25, .tmp 26] Try.call32 rfl rfl fun w FX FL hs1 hF1 hs2 hF2 hp => laws_markByteS_c (p0 := (gt l25 i13).B) (p1 := (wrap64 (i12 + 1))) hs1 hF1 h32) ⟨rfl, rfl, rfl, trivial⟩ ⟨rfl, trivial⟩ rfl rfl rfl rfl (fun _ => rfl) fun _ => ?_
      refine HQ.re (v' := .slice a29 (List.length t31.2) c30) 25 rfl (by simp [h27, h33]) ?_
      refine HQ.pu Pu.assign ⟨rfl, trivial⟩ rfl rfl rfl ?_
      refine HQ.done ?_
      refine HQ.keep [(0, _), (1, _), (4, _), (5, _)] ⟨rfl, rfl, rfl, rfl, trivial⟩ ?_
      refine HQ.blkN ?_
      refine HQ.thenN ?_
      refine HQ.regionQ ?_
      refine HQ.pu Pu.move ⟨rfl, trivial⟩ rfl rfl rfl ?_
      refine HQ.pu Pu.add ⟨rfl, rfl, trivial⟩ rfl rfl rfl ?_
      refine HQ.pu Pu.assign ⟨rfl, trivial⟩ rfl rfl rfl ?_
      refine HQ.done ?_
      refine HQ.keep [(0, _), (1, _), (4, _), (5, _)] ⟨rfl, rfl, rfl, rfl, trivial⟩ ?_
      refine HQ.unfocus (xs' := (List.set l25 (Int.toNat i13) (⟨(gt l25 i13).Bad, t31.2⟩ : TCell))) 1 4 rfl rfl rfl (by simp [h27, h33]) rfl ?_
      refine HQ.re (v' := .slice a_0 (List.length (List.set l25 (Int.toNat i13) (⟨(gt l25 i13).Bad, t31.2⟩ : TCell))) c_0) 0 rfl (by simp [h27, h33]) ?_
      obtain rfl := Option.some.inj H
      exact HQ.next () ⟨rfl, rfl, rfl, rfl, trivial⟩ ⟨rfl, trivial⟩ rfl
    · refine HQ.condF rfl hc ?_
      clear hc
      refine HQ.exit ?_
      refine HQ.thenE ?_
      obtain rfl := Option.some.inj H
      exact HQ.out () ⟨rfl, rfl, rfl, rfl, trivial⟩ ⟨rfl, trivial⟩ rfl
  · rintro ⟨l35, i36, i37⟩ rfl _
    clear h38
    replace H := H
    refine HQ.keep [(0, _), (1, _), (4, _), (5, _)] ⟨rfl, rfl, rfl, rfl, trivial⟩ ?_
    refine HQ.keepR [(1, _)] ⟨rfl, trivial⟩ rfl ?_
    refine HQ.blkE ?_
    refine HQ.thenN ?_
    refine HQ.rseq ?_
    refine HQ.pu Pu.move ⟨rfl, trivial⟩ rfl rfl rfl ?_
    refine HQ.pu Pu.assign ⟨rfl, trivial⟩ rfl rfl rfl ?_
    refine HQ.done ?_
    refine HQ.keep [(4, _)] ⟨rfl, trivial⟩ ?_
    refine HQ.ret ?_
    obtain rfl := Option.some.inj H
    exact HQ.fin (vs := [_]) Try.results95 () ⟨rfl, trivial⟩ rfl [1] ⟨rfl, trivial⟩ rfl
  · exact fun r h a w hf => hf.elim

/-! laws.markWetS -/
theorem laws_markWetS_c {w : World} {k : Nat} {p0 : (List TWet)} {p1 : Int} {a_0 : Option Addr} {c_0 : Nat} {F0 : Fp} (hs0 : Sat [OwnS kTWet a_0 c_0 p0] w.heap F0) (hF0 : ∀ b, F0 b → b < w.heap.size)  {r : Int × (List TWet)} (H : laws_markWetS k p0 p1 = some r) :
    Calls Try.prog 96 #[.slice a_0 (List.length p0) c_0, .int .i64 p1] w (Rt w F0 (fun _ : Unit => .int .i64 r.1) (fun _ => [OwnS kTWet a_0 c_0 r.2])) := by
  rw [laws_markWetS] at H
  refine Calls.enter (N := 27) (us := [_, _]) (F0 := F0) (Γ0 := [(1, OwnS kTWet a_0 c_0 p0)]) Try.func96 rfl rfl rfl hs0 hF0 ?_
  refine HQ.rseq ?_
  refine HQ.pu Pu.assign ⟨rfl, trivial⟩ rfl rfl rfl ?_
  refine HQ.done ?_
  refine HQ.keep [(0, _), (1, _), (4, _)] ⟨rfl, rfl, rfl, trivial⟩ ?_
  refine HQ.seq ?_
  refine HQ.rseq ?_
  refine HQ.pu Pu.assign ⟨rfl, trivial⟩ rfl rfl rfl ?_
  refine HQ.done ?_
  refine HQ.keep [(0, _), (1, _), (4, _), (5, _)] ⟨rfl, rfl, rfl, rfl, trivial⟩ ?_
  refine HQ.block ?_
  obtain ⟨o34, h38, H⟩ := bnd H
  refine HQ.loop h38 0 (fun (s : (List TWet) × Int × Int) (g : Unit) => match s, g with | (l11, i12, i13), () => [(0, .slice a_0 (List.length l11) c_0), (1, .int .i64 i12), (4, .int .i64 0), (5, .int .i64 i13)]) (fun (s : (List TWet) × Int × Int) (g : Unit) => match s, g with | (l11, i12, i13), () => [(1, OwnS kTWet a_0 c_0 l11)]) (fun _ _ _ => False) () ⟨rfl, rfl, rfl, rfl, trivial⟩ ⟨rfl, trivial⟩ rfl ?_ ?_ ?_
  · clear H h38
    rintro ⟨l11, i12, i13⟩ _ o H
    rw [laws_markWetS_b0] at H
    refine HQ.keep [(0, _), (1, _), (4, _), (5, _)] ⟨rfl, rfl, rfl, rfl, trivial⟩ ?_
    refine HQ.keepR [(1, _)] ⟨rfl, trivial⟩ rfl ?_
    refine HQ.seq ?_
    refine HQ.rseq ?_
    refine HQ.pu Pu.move ⟨rfl, trivial⟩ rfl rfl rfl ?_
    refine HQ.pu Pu.move ⟨rfl, trivial⟩ rfl rfl rfl ?_
    refine HQ.pu (Pu.len ul40) ⟨rfl, trivial⟩ rfl rfl rfl ?_
    refine HQ.pu Pu.lss ⟨rfl, rfl, trivial⟩ rfl rfl rfl ?_
    refine HQ.done ?_
    refine HQ.keep [(0, _), (1, _), (4, _), (5, _), (9, _)] ⟨rfl, rfl, rfl, rfl, rfl, trivial⟩ ?_
    rcases brk H with ⟨hc, H⟩ | ⟨hc, H⟩
    · refine HQ.condT rfl hc ?_
      clear hc
      refine HQ.skipThen ?_
      refine HQ.seq ?_
      refine HQ.block ?_
      refine HQ.rseq ?_
      refine HQ.pu Pu.move ⟨rfl, trivial⟩ rfl rfl rfl ?_
      refine HQ.pu Pu.move ⟨rfl, trivial⟩ rfl rfl rfl ?_
      refine HQ.pu Pu.move ⟨rfl, trivial⟩ rfl rfl rfl ?_
      obtain ⟨h24, H⟩ := asr H
      refine HQ.op [1] [1] (OT.indexO ul40 sz130 h24) ⟨rfl, rfl, trivial⟩ ⟨rfl, trivial⟩ rfl rfl rfl rfl (fun _ => rfl) fun _ => ?_
      refine HQ.pu (Pu.fieldE fo130_0 rfl) ⟨rfl, trivial⟩ rfl rfl rfl ?_
      refine HQ.opN [1] [1] [] (OT.storeO (⟨i12, (gt l11 i13).B⟩ : TWet) sz3 rfl rfl rfl h24 rfl (fun _ => rfl) rfl) ⟨rfl, rfl, trivial⟩ ⟨rfl, trivial⟩ rfl rfl rfl (fun _ => rfl) fun _ => ?_
      obtain ⟨l25, h26, H⟩ := bnd H
      replace h26 := Option.some.inj h26
      refine HQ.reR (B := OwnS kTWet a_0 c_0 l25) 1 rfl (by intro _ _ hb; rw [← h26]; exact hb) ?_
      have h27 : List.length l25 = List.length l11 := by rw [← h26, List.length_set]
      refine HQ.re (v' := .slice a_0 (List.length l25) c_0) 0 rfl (by simp [h27]) ?_
      refine HQ.re (v' := .slice a_0 (List.length l25) c_0) 12 rfl (by simp [h27]) ?_
      refine HQ.done ?_
      refine HQ.keep [(0, _), (1, _), (4, _), (5, _)] ⟨rfl, rfl, rfl, rfl, trivial⟩ ?_
      refine HQ.rseq ?_
      refine HQ.pu Pu.move ⟨rfl, trivial⟩ rfl rfl rfl ?_
      refine HQ.pu Pu.add ⟨rfl, rfl, trivial⟩ rfl rfl rfl ?_
      refine HQ.pu Pu.assign ⟨rfl, trivial⟩ rfl rfl rfl ?_
      refine HQ.done ?_
      refine HQ.keep [(0, _), (1, _), (4, _), (5, _)] ⟨rfl, rfl, rfl, rfl, trivial⟩ ?_
      refine HQ.regionQ ?_
      refine HQ.pu Pu.move ⟨rfl, trivial⟩ rfl rfl rfl ?_
      refine HQ.pu Pu.move ⟨rfl, trivial⟩ rfl rfl rfl ?_
      obtain ⟨h28, H⟩ := asr H
      refine HQ.op [1] [1] (OT.indexO ul40 sz130 h28) ⟨rfl, rfl, trivial⟩ ⟨rfl, trivial⟩ rfl rfl rfl rfl (fun _ => rfl) fun _ => ?_
      refine HQ.pu (Pu.fieldE fo130_1 rfl) ⟨rfl, trivial⟩ rfl rfl rfl ?_
      refine HQ.op [1] [1, 4] (OT.focus (v := fun a29 c30 => .slice a29 (List.length ((gt l25 i13).B)) c30) (fun x ys => (⟨x.At, ys⟩ : TWet)) sc37 h28 (fun _ _ => rfl) (fun _ _ _ => rfl) (fun _ _ => rfl)) ⟨rfl, trivial⟩ ⟨rfl, trivial⟩ rfl rfl rfl rfl (fun _ => rfl) fun ⟨a29, c30⟩ => ?_
      refine HQ.pu Pu.move ⟨rfl, trivial⟩ rfl rfl rfl ?_
      obtain ⟨t31, h32, H⟩ := bnd H
      obtain ⟨h33, H⟩ := asr H
      refine HQ.op [4] [4] (OT.callM (us := [_, _]) (PreX := [OwnS kU8 a29 c30 ((gt l25 i13).B)]) (PreL := []) [.tmp 23, .tmp 24] Try.call32 rfl rfl fun w FX FL hs1 hF1 hs2 hF2 hp => laws_markByteS_c (p0 := (gt l25 i13).B) (p1 := (wrap64 (i12 + 1))) hs1 hF1 h32) ⟨rfl, rfl, rfl, trivial⟩ ⟨rfl, trivial⟩ rfl rfl rfl rfl (fun _ => rfl) fun _ => ?_
      refine HQ.re (v' := .slice a29 (List.length t31.2) c30) 23 rfl (by simp [h27, h33]) ?_
      refine HQ.pu Pu.assign ⟨rfl, trivial⟩ rfl rfl rfl ?_
      refine HQ.done ?_
      refine HQ.keep [(0, _), (1, _), (4, _), (5, _)] ⟨rfl, rfl, rfl, rfl, trivial⟩ ?_
      refine HQ.blkN ?_
      refine HQ.thenN ?_
      refine HQ.regionQ ?_
      refine HQ.pu Pu.move ⟨rfl, trivial⟩ rfl rfl rfl ?_
      refine HQ.pu Pu.add ⟨rfl, rfl, trivial⟩ rfl rfl rfl ?_
      refine HQ.pu Pu.assign ⟨rfl, trivial⟩ rfl rfl rfl ?_
      refine HQ.done ?_
      refine HQ.keep [(0, _), (1, _), (4, _), (5, _)] ⟨rfl, rfl, rfl, rfl, trivial⟩ ?_
      refine HQ.unfocus (xs' := (List.set l25 (Int.toNat i13) (⟨(gt l25 i13).At, t31.2⟩ : TWet))) 1 4 rfl rfl rfl (by simp [h27, h33]) rfl ?_
      refine HQ.re (v' := .slice a_0 (List.length (List.set l25 (Int.toNat i13) (⟨(gt l25 i13).At, t31.2⟩ : TWet))) c_0) 0 rfl (by simp [h27, h33]) ?_
      obtain rfl := Option.some.inj H
      exact HQ.next () ⟨rfl, rfl, rfl, rfl, trivial⟩ ⟨rfl, trivial⟩ rfl
    · refine HQ.condF rfl hc ?_
      clear hc
      refine HQ.exit ?_
      refine HQ.thenE ?_
      obtain rfl := Option.some.inj H
      exact HQ.out () ⟨rfl, rfl, rfl, rfl, trivial⟩ ⟨rfl, trivial⟩ rfl
  · rintro ⟨l35, i36, i37⟩ rfl _
    clear h38
    replace H := H
    refine HQ.keep [(0, _), (1, _), (4, _), (5, _)] ⟨rfl, rfl, rfl, rfl, trivial⟩ ?_
    refine HQ.keepR [(1, _)] ⟨rfl, trivial⟩ rfl ?_
    refine HQ.blkE ?_
    refine HQ.thenN ?_
    refine HQ.rseq ?_
    refine HQ.pu Pu.move ⟨rfl, trivial⟩ rfl rfl rfl ?_
    refine HQ.pu Pu.assign ⟨rfl, trivial⟩ rfl rfl rfl ?_
    refine HQ.done ?_
    refine HQ.keep [(4, _)] ⟨rfl, trivial⟩ ?_
    refine HQ.ret ?_
    obtain rfl := Option.some.inj H
    exact HQ.fin (vs := [_]) Try.results96 () ⟨rfl, trivial⟩ rfl [1] ⟨rfl, trivial⟩ rfl
  · exact fun r h a w hf => hf.elim

/-! laws.markDisk -/
theorem laws_markDisk_c {w : World} {k : Nat} {p0 : TDisk} {p1 : Int} {a_0 : Option Addr} {c_0 : Nat} {a_1 : Option Addr} {c_1 : Nat} {F0 : Fp} (hs0 : Sat [OwnS kTCell a_0 c_0 p0.Cells, OwnS kTWet a_1 c_1 p0.Wet] w.heap F0) (hF0 : ∀ b, F0 b → b < w.heap.size)  {r : Int × (List TCell) × (List TWet)} (H : laws_markDisk k p0 p1 = some r) :
    Calls Try.prog 31 #[.agg #[.slice a_0 (List.length p0.Cells) c_0, .slice a_1 (List.length p0.Wet) c_1, .int .i64 p0.Fuse, .bool p0.Dead], .int .i64 p1] w (Rt w F0 (fun _ : Unit => .int .i64 r.1) (fun _ => [OwnS kTCell a_0 c_0 r.2.1, OwnS kTWet a_1 c_1 r.2.2])) := by
  rw [laws_markDisk] at H
  refine Calls.enter (N := 14) (us := [_, _]) (F0 := F0) (Γ0 := [(1, OwnS kTCell a_0 c_0 p0.Cells), (2, OwnS kTWet a_1 c_1 p0.Wet)]) Try.func31 rfl rfl rfl hs0 hF0 ?_
  refine HQ.rseq ?_
  refine HQ.op [] [3] (OT.box (cs := [.slice a_0 (List.length p0.Cells) c_0, .slice a_1 (List.length p0.Wet) c_1, .int .i64 p0.Fuse, .bool p0.Dead]) rfl) ⟨rfl, trivial⟩ trivial rfl rfl rfl rfl (fun _ => rfl) fun b1 => ?_
  refine HQ.pu Pu.assign ⟨rfl, trivial⟩ rfl rfl rfl ?_
  refine HQ.done ?_
  refine HQ.keep [(1, _), (2, _), (4, _)] ⟨rfl, rfl, rfl, trivial⟩ ?_
  refine HQ.rseq ?_
  refine HQ.pu (Pu.fieldB fo42_0 rfl) ⟨rfl, trivial⟩ rfl rfl rfl ?_
  refine HQ.op [3] [3] (OT.loadB sc39 rfl) ⟨rfl, trivial⟩ ⟨rfl, trivial⟩ rfl rfl rfl rfl (fun _ => rfl) fun _ => ?_
  refine HQ.pu Pu.move ⟨rfl, trivial⟩ rfl rfl rfl ?_
  obtain ⟨t2, h3, H⟩ := bnd H
  obtain ⟨h4, H⟩ := asr H
  refine HQ.op [1] [1] (OT.callM (us := [_, _]) (PreX := [OwnS kTCell a_0 c_0 p0.Cells]) (PreL := []) [.tmp 6, .tmp 7] Try.call95 rfl rfl fun w FX FL hs1 hF1 hs2 hF2 hp => laws_markCellS_c (p0 := p0.Cells) (p1 := p1) hs1 hF1 h3) ⟨rfl, rfl, rfl, trivial⟩ ⟨rfl, trivial⟩ rfl rfl rfl rfl (fun _ => rfl) fun _ => ?_
  refine HQ.re (v' := .slice a_0 (List.length t2.2) c_0) 6 rfl (by simp [h4]) ?_
  refine HQ.reR (B := Box b1 [.slice a_0 (List.length t2.2) c_0, .slice a_1 (List.length p0.Wet) c_1, .int .i64 p0.Fuse, .bool p0.Dead]) 3 rfl (fun _ _ hb => by rw [show List.length t2.2 = List.length p0.Cells from (by simp [h4])]; exact hb) ?_
  refine HQ.pu Pu.assign ⟨rfl, trivial⟩ rfl rfl rfl ?_
  refine HQ.done ?_
  refine HQ.keep [(1, _), (2, _), (4, _)] ⟨rfl, rfl, rfl, trivial⟩ ?_
  refine HQ.rseq ?_
  refine HQ.pu (Pu.fieldB fo42_1 rfl) ⟨rfl, trivial⟩ rfl rfl rfl ?_
  refine HQ.op [3] [3] (OT.loadB sc40 rfl) ⟨rfl, trivial⟩ ⟨rfl, trivial⟩ rfl rfl rfl rfl (fun _ => rfl) fun _ => ?_
  refine HQ.pu Pu.move ⟨rfl, trivial⟩ rfl rfl rfl ?_
  obtain ⟨t5, h6, H⟩ := bnd H
  obtain ⟨h7, H⟩ := asr H
  refine HQ.op [2] [2] (OT.callM (us := [_, _]) (PreX := [OwnS kTWet a_1 c_1 p0.Wet]) (PreL := []) [.tmp 10, .tmp 11] Try.call96 rfl rfl fun w FX FL hs1 hF1 hs2 hF2 hp => laws_markWetS_c (p0 := p0.Wet) (p1 := t2.1) hs1 hF1 h6) ⟨rfl, rfl, rfl, trivial⟩ ⟨rfl, trivial⟩ rfl rfl rfl rfl (fun _ => rfl) fun _ => ?_
  refine HQ.re (v' := .slice a_1 (List.length t5.2) c_1) 10 rfl (by simp [h4, h7]) ?_
  refine HQ.reR (B := Box b1 [.slice a_0 (List.length t2.2) c_0, .slice a_1 (List.length t5.2) c_1, .int .i64 p0.Fuse, .bool p0.Dead]) 3 rfl (fun _ _ hb => by rw [show List.length t5.2 = List.length p0.Wet from (by simp [h4, h7])]; exact hb) ?_
  refine HQ.pu Pu.assign ⟨rfl, trivial⟩ rfl rfl rfl ?_
  refine HQ.done ?_
  refine HQ.keep [(1, _), (4, _)] ⟨rfl, rfl, trivial⟩ ?_
  refine HQ.rseq ?_
  refine HQ.pu Pu.move ⟨rfl, trivial⟩ rfl rfl rfl ?_
  refine HQ.pu Pu.assign ⟨rfl, trivial⟩ rfl rfl rfl ?_
  refine HQ.done ?_
  refine HQ.keep [(4, _)] ⟨rfl, trivial⟩ ?_
  refine HQ.ret ?_
  obtain rfl := Option.some.inj H
  exact HQ.fin (vs := [_]) Try.results31 () ⟨rfl, trivial⟩ rfl [1, 2] ⟨rfl, rfl, trivial⟩ rfl

/-! laws.markEntryS -/
theorem laws_markEntryS_c {w : World} {k : Nat} {p0 : (List TEntry)} {p1 : Int} {a_0 : Option Addr} {c_0 : Nat} {F0 : Fp} (hs0 : Sat [OwnS kTEntry a_0 c_0 p0] w.heap F0) (hF0 : ∀ b, F0 b → b < w.heap.size)  {r : Int × (List TEntry)} (H : laws_markEntryS k p0 p1 = some r) :
    Calls Try.prog 143 #[.slice a_0 (List.length p0) c_0, .int .i64 p1] w (Rt w F0 (fun _ : Unit => .int .i64 r.1) (fun _ => [OwnS kTEntry a_0 c_0 r.2])) := by
  rw [laws_markEntryS] at H
  refine Calls.enter (N := 52) (us := [_, _]) (F0 := F0) (Γ0 := [(1, OwnS kTEntry a_0 c_0 p0)]) Try.func143 rfl rfl rfl hs0 hF0 ?_
  refine HQ.rseq ?_
  refine HQ.pu Pu.assign ⟨rfl, trivial⟩ rfl rfl rfl ?_
  refine HQ.done ?_
  refine HQ.keep [(0, _), (1, _), (4, _)] ⟨rfl, rfl, rfl, trivial⟩ ?_
  refine HQ.seq ?_
  refine HQ.rseq ?_
  refine HQ.pu Pu.assign ⟨rfl, trivial⟩ rfl rfl rfl ?_
  refine HQ.done ?_
  refine HQ.keep [(0, _), (1, _), (4, _), (5, _)] ⟨rfl, rfl, rfl, rfl, trivial⟩ ?_
  refine HQ.block ?_
  obtain ⟨o64, h68, H⟩ := bnd H
  refine HQ.loop h68 0 (fun (s : (List TEntry) × Int × Int) (g : Unit) => match s, g with | (l21, i22, i23), () => [(0, .slice a_0 (List.length l21) c_0), (1, .int .i64 i22), (4, .int .i64 0), (5, .int .i64 i23)]) (fun (s : (List TEntry) × Int × Int) (g : Unit) => match s, g with | (l21, i22, i23), () => [(1, OwnS kTEntry a_0 c_0 l21)]) (fun _ _ _ => False) () ⟨rfl, rfl, rfl, rfl, trivial⟩ ⟨rfl, trivial⟩ rfl ?_ ?_ ?_
  · clear H h68
    rintro ⟨l21, i22, i23⟩ _ o H
    rw [laws_markEntryS_b0] at H
    refine HQ.keep [(0, _), (1, _), (4, _), (5, _)] ⟨rfl, rfl, rfl, rfl, trivial⟩ ?_
    refine HQ.keepR [(1, _)] ⟨rfl, trivial⟩ rfl ?_
    refine HQ.seq ?_
    refine HQ.rseq ?_
    refine HQ.pu Pu.move ⟨rfl, trivial⟩ rfl rfl rfl ?_
    refine HQ.pu Pu.move ⟨rfl, trivial⟩ rfl rfl rfl ?_
    refine HQ.pu (Pu.len ul77) ⟨rfl, trivial⟩ rfl rfl rfl ?_
    refine HQ.pu Pu.lss ⟨rfl, rfl, trivial⟩ rfl rfl rfl ?_
    refine HQ.done ?_
    refine HQ.keep [(0, _), (1, _), (4, _), (5, _), (9, _)] ⟨rfl, rfl, rfl, rfl, rfl, trivial⟩ ?_
    rcases brk H with ⟨hc, H⟩ | ⟨hc, H⟩
    · refine HQ.condT rfl hc ?_
      clear hc
      refine HQ.skipThen ?_
      refine HQ.seq ?_
      refine HQ.block ?_
      refine HQ.rseq ?_
      refine HQ.pu Pu.move ⟨rfl, trivial⟩ rfl rfl rfl ?_
      refine HQ.pu Pu.move ⟨rfl, trivial⟩ rfl rfl rfl ?_
      refine HQ.pu Pu.move ⟨rfl, trivial⟩ rfl rfl rfl ?_
      obtain ⟨h44, H⟩ := asr H
      refine HQ.op [1] [1] (OT.indexO ul77 sz196 h44) ⟨rfl, rfl, trivial⟩ ⟨rfl, trivial⟩ rfl rfl rfl rfl (fun _ => rfl) fun _ => ?_
      refine HQ.pu (Pu.fieldE fo196_0 rfl) ⟨rfl, trivial⟩ rfl rfl rfl ?_
      refine HQ.opN [1] [1] [] (OT.storeF (⟨i22, (gt l21 i23).R⟩ : TEntry) sz3 rfl rfl rfl h44 rfl rfl) ⟨rfl, rfl, trivial⟩ ⟨rfl, trivial⟩ rfl rfl rfl (fun _ => rfl) fun _ => ?_
      obtain ⟨l45, h46, H⟩ := bnd H
      replace h46 := Option.some.inj h46
      refine HQ.reR (B := OwnS kTEntry a_0 c_0 l45) 1 rfl (by intro _ _ hb; rw [← h46]; exact hb) ?_
      have h47 : List.length l45 = List.length l21 := by rw [← h46, List.length_set]
      refine HQ.re (v' := .slice a_0 (List.length l45) c_0) 0 rfl (by simp [h47]) ?_
      refine HQ.re (v' := .slice a_0 (List.length l45) c_0) 12 rfl (by simp [h47]) ?_
      refine HQ.done ?_
      refine HQ.keep [(0, _), (1, _), (4, _), (5, _)] ⟨rfl, rfl, rfl, rfl, trivial⟩ ?_
      refine HQ.rseq ?_
      refine HQ.pu Pu.move ⟨rfl, trivial⟩ rfl rfl rfl ?_
      refine HQ.pu Pu.add ⟨rfl, rfl, trivial⟩ rfl rfl rfl ?_
      refine HQ.pu Pu.assign ⟨rfl, trivial⟩ rfl rfl rfl ?_
      refine HQ.done ?_
      refine HQ.keep [(0, _), (1, _), (4, _), (5, _)] ⟨rfl, rfl, rfl, rfl, trivial⟩ ?_
      refine HQ.rseq ?_
      refine HQ.pu Pu.move ⟨rfl, trivial⟩ rfl rfl rfl ?_
      refine HQ.pu Pu.move ⟨rfl, trivial⟩ rfl rfl rfl ?_
      refine HQ.pu Pu.move ⟨rfl, trivial⟩ rfl rfl rfl ?_
      obtain ⟨h48, H⟩ := asr H
      refine HQ.op [1] [1] (OT.indexO ul77 sz196 h48) ⟨rfl, rfl, trivial⟩ ⟨rfl, trivial⟩ rfl rfl rfl rfl (fun _ => rfl) fun _ => ?_
      refine HQ.pu (Pu.fieldE fo196_1 rfl) ⟨rfl, trivial⟩ rfl rfl rfl ?_
      refine HQ.pu (Pu.fieldE fo194_0 rfl) ⟨rfl, trivial⟩ rfl rfl rfl ?_
      refine HQ.opN [1] [1] [] (OT.storeF (⟨(gt l45 i23).N, (⟨(wrap64 (i22 + 1)), (gt l45 i23).R.Y0, (gt l45 i23).R.X1, (gt l45 i23).R.Y1⟩ : TBox)⟩ : TEntry) sz3 rfl rfl rfl h48 rfl rfl) ⟨rfl, rfl, trivial⟩ ⟨rfl, trivial⟩ rfl rfl rfl (fun _ => rfl) fun _ => ?_
      obtain ⟨l49, h50, H⟩ := bnd H
      replace h50 := Option.some.inj h50
      refine HQ.reR (B := OwnS kTEntry a_0 c_0 l49) 1 rfl (by intro _ _ hb; rw [← h50]; exact hb) ?_
      have h51 : List.length l49 = List.length l45 := by rw [← h50, List.length_set]
      refine HQ.re (v' := .slice a_0 (List.length l49) c_0) 0 rfl (by simp [h47, h51]) ?_
      refine HQ.re (v' := .slice a_0 (List.length l49) c_0) 19 rfl (by simp [h47, h51]) ?_
      refine HQ.done ?_
      refine HQ.keep [(0, _), (1, _), (4, _), (5, _)] ⟨rfl, rfl, rfl, rfl, trivial⟩ ?_
      refine HQ.rseq ?_
      refine HQ.pu Pu.move ⟨rfl, trivial⟩ rfl rfl rfl ?_
      refine HQ.pu Pu.add ⟨rfl, rfl, trivial⟩ rfl rfl rfl ?_
      refine HQ.pu Pu.assign ⟨rfl, trivial⟩ rfl rfl rfl ?_
      refine HQ.done ?_
      refine HQ.keep [(0, _), (1, _), (4, _), (5, _)] ⟨rfl, rfl, rfl, rfl, trivial⟩ ?_
      refine HQ.rseq ?_
      refine HQ.pu Pu.move ⟨rfl, trivial⟩ rfl rfl rfl ?_
      refine HQ.pu Pu.move ⟨rfl, trivial⟩ rfl rfl rfl ?_
      refine HQ.pu Pu.move ⟨rfl, trivial⟩ rfl rfl rfl ?_
      obtain ⟨h52, H⟩ := asr H
      refine HQ.op [1] [1] (OT.indexO ul77 sz196 h52) ⟨rfl, rfl, trivial⟩ ⟨rfl, trivial⟩ rfl rfl rfl rfl (fun _ => rfl) fun _ => ?_
      refine HQ.pu (Pu.fieldE fo196_1 rfl) ⟨rfl, trivial⟩ rfl rfl rfl ?_
      refine HQ.pu (Pu.fieldE fo194_1 rfl) ⟨rfl, trivial⟩ rfl rfl rfl ?_
      refine HQ.opN [1] [1] [] (OT.storeF (⟨(gt l49 i23).N, (⟨(gt l49 i23).R.X0, (wrap64 ((wrap64 (i22 + 1)) + 1)), (gt l49 i23).R.X1, (gt l49 i23).R.Y1⟩ : TBox)⟩ : TEntry) sz3 rfl rfl rfl h52 rfl rfl) ⟨rfl, rfl, trivial⟩ ⟨rfl, trivial⟩ rfl rfl rfl (fun _ => rfl) fun _ => ?_
      obtain ⟨l53, h54, H⟩ := bnd H
      replace h54 := Option.some.inj h54
      refine HQ.reR (B := OwnS kTEntry a_0 c_0 l53) 1 rfl (by intro _ _ hb; rw [← h54]; exact hb) ?_
      have h55 : List.length l53 = List.length l49 := by rw [← h54, List.length_set]
      refine HQ.re (v' := .slice a_0 (List.length l53) c_0) 0 rfl (by simp [h47, h51, h55]) ?_
      refine HQ.re (v' := .slice a_0 (List.length l53) c_0) 27 rfl (by simp [h47, h51, h55]) ?_
      refine HQ.done ?_
      refine HQ.keep [(0, _), (1, _), (4, _), (5, _)] ⟨rfl, rfl, rfl, rfl, trivial⟩ ?_
      refine HQ.rseq ?_
      refine HQ.pu Pu.move ⟨rfl, trivial⟩ rfl rfl rfl ?_
      refine HQ.pu Pu.add ⟨rfl, rfl, trivial⟩ rfl rfl rfl ?_
      refine HQ.pu Pu.assign ⟨rfl, trivial⟩ rfl rfl rfl ?_
      refine HQ.done ?_
      refine HQ.keep [(0, _), (1, _), (4, _), (5, _)] ⟨rfl, rfl, rfl, rfl, trivial⟩ ?_
      refine HQ.rseq ?_
      refine HQ.pu Pu.move ⟨rfl, trivial⟩ rfl rfl rfl ?_
      refine HQ.pu Pu.move ⟨rfl, trivial⟩ rfl rfl rfl ?_
      refine HQ.pu Pu.move ⟨rfl, trivial⟩ rfl rfl rfl ?_
      obtain ⟨h56, H⟩ := asr H
      refine HQ.op [1] [1] (OT.indexO ul77 sz196 h56) ⟨rfl, rfl, trivial⟩ ⟨rfl, trivial⟩ rfl rfl rfl rfl (fun _ => rfl) fun _ => ?_
      refine HQ.pu (Pu.fieldE fo196_1 rfl) ⟨rfl, trivial⟩ rfl rfl rfl ?_
      refine HQ.pu (Pu.fieldE fo194_2 rfl) ⟨rfl, trivial⟩ rfl rfl rfl ?_
      refine HQ.opN [1] [1] [] (OT.storeF (⟨(gt l53 i23).N, (⟨(gt l53 i23).R.X0, (gt l53 i23).R.Y0, (wrap64 ((wrap64 ((wrap64 (i22 + 1)) + 1)) + 1)), (gt l53 i23).R.Y1⟩ : TBox)⟩ : TEntry) sz3 rfl rfl rfl h56 rfl rfl) ⟨rfl, rfl, trivial⟩ ⟨rfl, trivial⟩ rfl rfl rfl (fun _ => rfl) fun _ => ?_
      obtain ⟨l57, h58, H⟩ := bnd H
      replace h58 := Option.some.inj h58
      refine HQ.reR (B := OwnS kTEntry a_0 c_0 l57) 1 rfl (by intro _ _ hb; rw [← h58]; exact hb) ?_
      have h59 : List.length l57 = List.length l53 := by rw [← h58, List.length_set]
      refine HQ.re (v' := .slice a_0 (List.length l57) c_0) 0 rfl (by simp [h47, h51, h55, h59]) ?_
      refine HQ.re (v' := .slice a_0 (List.length l57) c_0) 35 rfl (by simp [h47, h51, h55, h59]) ?_
      refine HQ.done ?_
      refine HQ.keep [(0, _), (1, _), (4, _), (5, _)] ⟨rfl, rfl, rfl, rfl, trivial⟩ ?_
      refine HQ.rseq ?_
      refine HQ.pu Pu.move ⟨rfl, trivial⟩ rfl rfl rfl ?_
      refine HQ.pu Pu.add ⟨rfl, rfl, trivial⟩ rfl rfl rfl ?_
      refine HQ.pu Pu.assign ⟨rfl, trivial⟩ rfl rfl rfl ?_
      refine HQ.done ?_
      refine HQ.keep [(0, _), (1, _), (4, _), (5, _)] ⟨rfl, rfl, rfl, rfl, trivial⟩ ?_
      refine HQ.rseq ?_
      refine HQ.pu Pu.move ⟨rfl, trivial⟩ rfl rfl rfl ?_
      refine HQ.pu Pu.move ⟨rfl, trivial⟩ rfl rfl rfl ?_
      refine HQ.pu Pu.move ⟨rfl, trivial⟩ rfl rfl rfl ?_
      obtain ⟨h60, H⟩ := asr H
      refine HQ.op [1] [1] (OT.indexO ul77 sz196 h60) ⟨rfl, rfl, trivial⟩ ⟨rfl, trivial⟩ rfl rfl rfl rfl (fun _ => rfl) fun _ => ?_
      refine HQ.pu (Pu.fieldE fo196_1 rfl) ⟨rfl, trivial⟩ rfl rfl rfl ?_
      refine HQ.pu (Pu.fieldE fo194_3 rfl) ⟨rfl, trivial⟩ rfl rfl rfl ?_
      refine HQ.opN [1] [1] [] (OT.storeF (⟨(gt l57 i23).N, (⟨(gt l57 i23).R.X0, (gt l57 i23).R.Y0, (gt l57 i23).R.X1, (wrap64 ((wrap64 ((wrap64 ((wrap64 (i22 + 1)) + 1)) + 1)) + 1))⟩ : TBox)⟩ : TEntry) sz3 rfl rfl rfl h60 rfl rfl) ⟨rfl, rfl, trivial⟩ ⟨rfl, trivial⟩ rfl rfl rfl (fun _ => rfl) fun _ => ?_
      obtain ⟨l61, h62, H⟩ := bnd H
      replace h62 := Option.some.inj h62
      refine HQ.reR (B := OwnS kTEntry a_0 c_0 l61) 1 rfl (by intro _ _ hb; rw [← h62]; exact hb) ?_
      have h63 : List.length l61 = List.length l57 := by rw [← h62, List.length_set]
      refine HQ.re (v' := .slice a_0 (List.length l61) c_0) 0 rfl (by simp [h47, h51, h55, h59, h63]) ?_
      refine HQ.re (v' := .slice a_0 (List.length l61) c_0) 43 rfl (by simp [h47, h51, h55, h59, h63]) ?_
      refine HQ.done ?_
      refine HQ.keep [(0, _), (1, _), (4, _), (5, _)] ⟨rfl, rfl, rfl, rfl, trivial⟩ ?_
      refine HQ.regionQ ?_
      refine HQ.pu Pu.move ⟨rfl, trivial⟩ rfl rfl rfl ?_
      refine HQ.pu Pu.add ⟨rfl, rfl, trivial⟩ rfl rfl rfl ?_
      refine HQ.pu Pu.assign ⟨rfl, trivial⟩ rfl rfl rfl ?_
      refine HQ.done ?_
      refine HQ.keep [(0, _), (1, _), (4, _), (5, _)] ⟨rfl, rfl, rfl, rfl, trivial⟩ ?_
      refine HQ.blkN ?_
      refine HQ.thenN ?_
      refine HQ.regionQ ?_
      refine HQ.pu Pu.move ⟨rfl, trivial⟩ rfl rfl rfl ?_
      refine HQ.pu Pu.add ⟨rfl, rfl, trivial⟩ rfl rfl rfl ?_
      refine HQ.pu Pu.assign ⟨rfl, trivial⟩ rfl rfl rfl ?_
      refine HQ.done ?_
      refine HQ.keep [(0, _), (1, _), (4, _), (5, _)] ⟨rfl, rfl, rfl, rfl, trivial⟩ ?_
      obtain rfl := Option.some.inj H
      exact HQ.next () ⟨rfl, rfl, rfl, rfl, trivial⟩ ⟨rfl, trivial⟩ rfl
    · refine HQ.condF rfl hc ?_
      clear hc
      refine HQ.exit ?_
      refine HQ.thenE ?_
      obtain rfl := Option.some.inj H
      exact HQ.out () ⟨rfl, rfl, rfl, rfl, trivial⟩ ⟨rfl, trivial⟩ rfl
  · rintro ⟨l65, i66, i67⟩ rfl _
    clear h68
    replace H := H
    refine HQ.keep [(0, _), (1, _), (4, _), (5, _)] ⟨rfl, rfl, rfl, rfl, trivial⟩ ?_
    refine HQ.keepR [(1, _)] ⟨rfl, trivial⟩ rfl ?_
    refine HQ.blkE ?_
    refine HQ.thenN ?_
    refine HQ.rseq ?_
    refine HQ.pu Pu.move ⟨rfl, trivial⟩ rfl rfl rfl ?_
    refine HQ.pu Pu.assign ⟨rfl, trivial⟩ rfl rfl rfl ?_
    refine HQ.done ?_
    refine HQ.keep [(4, _)] ⟨rfl, trivial⟩ ?_
    refine HQ.ret ?_
    obtain rfl := Option.some.inj H
    exact HQ.fin (vs := [_]) Try.results143 () ⟨rfl, trivial⟩ rfl [1] ⟨rfl, trivial⟩ rfl
  · exact fun r h a w hf => hf.elim

/-! laws.markChangeS -/
theorem laws_markChangeS_c {w : World} {k : Nat} {p0 : (List TChange)} {p1 : Int} {a_0 : Option Addr} {c_0 : Nat} {F0 : Fp} (hs0 : Sat [OwnS kTChange a_0 c_0 p0] w.heap F0) (hF0 : ∀ b, F0 b → b < w.heap.size)  {r : Int × (List TChange)} (H : laws_markChangeS k p0 p1 = some r) :
    Calls Try.prog 80 #[.slice a_0 (List.length p0) c_0, .int .i64 p1] w (Rt w F0 (fun _ : Unit => .int .i64 r.1) (fun _ => [OwnS kTChange a_0 c_0 r.2])) := by
  rw [laws_markChangeS] at H
  refine Calls.enter (N := 38) (us := [_, _]) (F0 := F0) (Γ0 := [(1, OwnS kTChange a_0 c_0 p0)]) Try.func80 rfl rfl rfl hs0 hF0 ?_
  refine HQ.rseq ?_
  refine HQ.pu Pu.assign ⟨rfl, trivial⟩ rfl rfl rfl ?_
  refine HQ.done ?_
  refine HQ.keep [(0, _), (1, _), (4, _)] ⟨rfl, rfl, rfl, trivial⟩ ?_
  refine HQ.seq ?_
  refine HQ.rseq ?_
  refine HQ.pu Pu.assign ⟨rfl, trivial⟩ rfl rfl rfl ?_
  refine HQ.done ?_
  refine HQ.keep [(0, _), (1, _), (4, _), (5, _)] ⟨rfl, rfl, rfl, rfl, trivial⟩ ?_
  refine HQ.block ?_
  obtain ⟨o46, h50, H⟩ := bnd H
  refine HQ.loop h50 0 (fun (s : (List TChange) × Int × Int) (g : Unit) => match s, g with | (l15, i16, i17), () => [(0, .slice a_0 (List.length l15) c_0), (1, .int .i64 i16), (4, .int .i64 0), (5, .int .i64 i17)]) (fun (s : (List TChange) × Int × Int) (g : Unit) => match s, g with | (l15, i16, i17), () => [(1, OwnS kTChange a_0 c_0 l15)]) (fun _ _ _ => False) () ⟨rfl, rfl, rfl, rfl, trivial⟩ ⟨rfl, trivial⟩ rfl ?_ ?_ ?_
  · clear H h50
    rintro ⟨l15, i16, i17⟩ _ o H
    rw [laws_markChangeS_b0] at H
    refine HQ.keep [(0, _), (1, _), (4, _), (5, _)] ⟨rfl, rfl, rfl, rfl, trivial⟩ ?_
    refine HQ.keepR [(1, _)] ⟨rfl, trivial⟩ rfl ?_
    refine HQ.seq ?_
    refine HQ.rseq ?_
    refine HQ.pu Pu.move ⟨rfl, trivial⟩ rfl rfl rfl ?_
    refine HQ.pu Pu.move ⟨rfl, trivial⟩ rfl rfl rfl ?_
    refine HQ.pu (Pu.len ul58) ⟨rfl, trivial⟩ rfl rfl rfl ?_
    refine HQ.pu Pu.lss ⟨rfl, rfl, trivial⟩ rfl rfl rfl ?_
    refine HQ.done ?_
    refine HQ.keep [(0, _), (1, _), (4, _), (5, _), (9, _)] ⟨rfl, rfl, rfl, rfl, rfl, trivial⟩ ?_
    rcases brk H with ⟨hc, H⟩ | ⟨hc, H⟩
    · refine HQ.condT rfl hc ?_
      clear hc
      refine HQ.skipThen ?_
      refine HQ.seq ?_
      refine HQ.block ?_
      refine HQ.rseq ?_
      refine HQ.pu Pu.move ⟨rfl, trivial⟩ rfl rfl rfl ?_
      refine HQ.pu Pu.move ⟨rfl, trivial⟩ rfl rfl rfl ?_
      refine HQ.pu Pu.move ⟨rfl, trivial⟩ rfl rfl rfl ?_
      obtain ⟨h32, H⟩ := asr H
      refine HQ.op [1] [1] (OT.indexO ul58 sz81 h32) ⟨rfl, rfl, trivial⟩ ⟨rfl, trivial⟩ rfl rfl rfl rfl (fun _ => rfl) fun _ => ?_
      refine HQ.pu (Pu.fieldE fo81_0 rfl) ⟨rfl, trivial⟩ rfl rfl rfl ?_
      refine HQ.opN [1] [1] [] (OT.storeO (⟨i16, (gt l15 i17).N⟩ : TChange) sz3 rfl rfl rfl h32 rfl (fun _ => rfl) rfl) ⟨rfl, rfl, trivial⟩ ⟨rfl, trivial⟩ rfl rfl rfl (fun _ => rfl) fun _ => ?_
      obtain ⟨l33, h34, H⟩ := bnd H
      replace h34 := Option.some.inj h34
      refine HQ.reR (B := OwnS kTChange a_0 c_0 l33) 1 rfl (by intro _ _ hb; rw [← h34]; exact hb) ?_
      have h35 : List.length l33 = List.length l15 := by rw [← h34, List.length_set]
      refine HQ.re (v' := .slice a_0 (List.length l33) c_0) 0 rfl (by simp [h35]) ?_
      refine HQ.re (v' := .slice a_0 (List.length l33) c_0) 12 rfl (by simp [h35]) ?_
      refine HQ.done ?_
      refine HQ.keep [(0, _), (1, _), (4, _), (5, _)] ⟨rfl, rfl, rfl, rfl, trivial⟩ ?_
      refine HQ.rseq ?_
      refine HQ.pu Pu.move ⟨rfl, trivial⟩ rfl rfl rfl ?_
      refine HQ.pu Pu.add ⟨rfl, rfl, trivial⟩ rfl rfl rfl ?_
      refine HQ.pu Pu.assign ⟨rfl, trivial⟩ rfl rfl rfl ?_
      refine HQ.done ?_
      refine HQ.keep [(0, _), (1, _), (4, _), (5, _)] ⟨rfl, rfl, rfl, rfl, trivial⟩ ?_
      refine HQ.rseq ?_
      refine HQ.pu Pu.move ⟨rfl, trivial⟩ rfl rfl rfl ?_
      refine HQ.pu Pu.move ⟨rfl, trivial⟩ rfl rfl rfl ?_
      refine HQ.pu Pu.move ⟨rfl, trivial⟩ rfl rfl rfl ?_
      refine HQ.pu (Pu.rem (by decide)) ⟨rfl, rfl, trivial⟩ rfl rfl rfl ?_
      refine HQ.pu Pu.eql ⟨rfl, rfl, trivial⟩ rfl rfl rfl ?_
      obtain ⟨h36, H⟩ := asr H
      refine HQ.op [1] [1] (OT.indexO ul58 sz81 h36) ⟨rfl, rfl, trivial⟩ ⟨rfl, trivial⟩ rfl rfl rfl rfl (fun _ => rfl) fun _ => ?_
      refine HQ.pu (Pu.fieldE fo81_1 rfl) ⟨rfl, trivial⟩ rfl rfl rfl ?_
      refine HQ.pu (Pu.fieldE fo79_0 rfl) ⟨rfl, trivial⟩ rfl rfl rfl ?_
      refine HQ.opN [1] [1] [] (OT.storeO (⟨(gt l33 i17).Page, (⟨(decide ((Int.tmod (wrap64 (i16 + 1)) 3) = 0)), (gt l33 i17).N.L⟩ : TNode)⟩ : TChange) sz4 rfl rfl rfl h36 rfl (fun _ => rfl) rfl) ⟨rfl, rfl, trivial⟩ ⟨rfl, trivial⟩ rfl rfl rfl (fun _ => rfl) fun _ => ?_
      obtain ⟨l37, h38, H⟩ := bnd H
      replace h38 := Option.some.inj h38
      refine HQ.reR (B := OwnS kTChange a_0 c_0 l37) 1 rfl (by intro _ _ hb; rw [← h38]; exact hb) ?_
      have h39 : List.length l37 = List.length l33 := by rw [← h38, List.length_set]
      refine HQ.re (v' := .slice a_0 (List.length l37) c_0) 0 rfl (by simp [h35, h39]) ?_
      refine HQ.re (v' := .slice a_0 (List.length l37) c_0) 19 rfl (by simp [h35, h39]) ?_
      refine HQ.done ?_
      refine HQ.keep [(0, _), (1, _), (4, _), (5, _)] ⟨rfl, rfl, rfl, rfl, trivial⟩ ?_
      refine HQ.rseq ?_
      refine HQ.pu Pu.move ⟨rfl, trivial⟩ rfl rfl rfl ?_
      refine HQ.pu Pu.add ⟨rfl, rfl, trivial⟩ rfl rfl rfl ?_
      refine HQ.pu Pu.assign ⟨rfl, trivial⟩ rfl rfl rfl ?_
      refine HQ.done ?_
      refine HQ.keep [(0, _), (1, _), (4, _), (5, _)] ⟨rfl, rfl, rfl, rfl, trivial⟩ ?_
      refine HQ.regionQ ?_
      refine HQ.pu Pu.move ⟨rfl, trivial⟩ rfl rfl rfl ?_
      refine HQ.pu Pu.move ⟨rfl, trivial⟩ rfl rfl rfl ?_
      obtain ⟨h40, H⟩ := asr H
      refine HQ.op [1] [1] (OT.indexO ul58 sz81 h40) ⟨rfl, rfl, trivial⟩ ⟨rfl, trivial⟩ rfl rfl rfl rfl (fun _ => rfl) fun _ => ?_
      refine HQ.pu (Pu.fieldE fo81_1 rfl) ⟨rfl, trivial⟩ rfl rfl rfl ?_
      refine HQ.pu (Pu.fieldE fo79_1 rfl) ⟨rfl, trivial⟩ rfl rfl rfl ?_
      refine HQ.op [1] [1, 4] (OT.focus (v := fun a41 c42 => .slice a41 (List.length ((gt l37 i17).N.L)) c42) (fun x ys => (⟨x.Page, (⟨x.N.Leaf, ys⟩ : TNode)⟩ : TChange)) sc77 h40 (fun _ _ => rfl) (fun _ _ _ => rfl) (fun _ _ => rfl)) ⟨rfl, trivial⟩ ⟨rfl, trivial⟩ rfl rfl rfl rfl (fun _ => rfl) fun ⟨a41, c42⟩ => ?_
      refine HQ.pu Pu.move ⟨rfl, trivial⟩ rfl rfl rfl ?_
      obtain ⟨t43, h44, H⟩ := bnd H
      obtain ⟨h45, H⟩ := asr H
      refine HQ.op [4] [4] (OT.callM (us := [_, _]) (PreX := [OwnS kTEntry a41 c42 ((gt l37 i17).N.L)]) (PreL := []) [.tmp 34, .tmp 35] Try.call143 rfl rfl fun w FX FL hs1 hF1 hs2 hF2 hp => laws_markEntryS_c (p0 := (gt l37 i17).N.L) (p1 := (wrap64 ((wrap64 (i16 + 1)) + 1))) hs1 hF1 h44) ⟨rfl, rfl, rfl, trivial⟩ ⟨rfl, trivial⟩ rfl rfl rfl rfl (fun _ => rfl) fun _ => ?_
      refine HQ.re (v' := .slice a41 (List.length t43.2) c42) 34 rfl (by simp [h35, h39, h45]) ?_
      refine HQ.pu Pu.assign ⟨rfl, trivial⟩ rfl rfl rfl ?_
      refine HQ.done ?_
      refine HQ.keep [(0, _), (1, _), (4, _), (5, _)] ⟨rfl, rfl, rfl, rfl, trivial⟩ ?_
      refine HQ.blkN ?_
      refine HQ.thenN ?_
      refine HQ.regionQ ?_
      refine HQ.pu Pu.move ⟨rfl, trivial⟩ rfl rfl rfl ?_
      refine HQ.pu Pu.add ⟨rfl, rfl, trivial⟩ rfl rfl rfl ?_
      refine HQ.pu Pu.assign ⟨rfl, trivial⟩ rfl rfl rfl ?_
      refine HQ.done ?_
      refine HQ.keep [(0, _), (1, _), (4, _), (5, _)] ⟨rfl, rfl, rfl, rfl, trivial⟩ ?_
      refine HQ.unfocus (xs' := (List.set l37 (Int.toNat i17) (⟨(gt l37 i17).Page, (⟨(gt l37 i17).N.Leaf, t43.2⟩ : TNode)⟩ : TChange))) 1 4 rfl rfl rfl (by simp [h35, h39, h45]) rfl ?_
      refine HQ.re (v' := .slice a_0 (List.length (List.set l37 (Int.toNat i17) (⟨(gt l37 i17).Page, (⟨(gt l37 i17).N.Leaf, t43.2⟩ : TNode)⟩ : TChange))) c_0) 0 rfl (by simp [h35, h39, h45]) ?_
      obtain rfl := Option.some.inj H
      exact HQ.next () ⟨rfl, rfl, rfl, rfl, trivial⟩ ⟨rfl, trivial⟩ rfl
    · refine HQ.condF rfl hc ?_
      clear hc
      refine HQ.exit ?_
      refine HQ.thenE ?_
      obtain rfl := Option.some.inj H
      exact HQ.out () ⟨rfl, rfl, rfl, rfl, trivial⟩ ⟨rfl, trivial⟩ rfl
  · rintro ⟨l47, i48, i49⟩ rfl _
    clear h50
    replace H := H
    refine HQ.keep [(0, _), (1, _), (4, _), (5, _)] ⟨rfl, rfl, rfl, rfl, trivial⟩ ?_
    refine HQ.keepR [(1, _)] ⟨rfl, trivial⟩ rfl ?_
    refine HQ.blkE ?_
    refine HQ.thenN ?_
    refine HQ.rseq ?_
    refine HQ.pu Pu.move ⟨rfl, trivial⟩ rfl rfl rfl ?_
    refine HQ.pu Pu.assign ⟨rfl, trivial⟩ rfl rfl rfl ?_
    refine HQ.done ?_
    refine HQ.keep [(4, _)] ⟨rfl, trivial⟩ ?_
    refine HQ.ret ?_
    obtain rfl := Option.some.inj H
    exact HQ.fin (vs := [_]) Try.results80 () ⟨rfl, trivial⟩ rfl [1] ⟨rfl, trivial⟩ rfl
  · exact fun r h a w hf => hf.elim

/-! laws.markTxS -/
theorem laws_markTxS_c {w : World} {k : Nat} {p0 : (List TTx)} {p1 : Int} {a_0 : Option Addr} {c_0 : Nat} {F0 : Fp} (hs0 : Sat [OwnS kTTx a_0 c_0 p0] w.heap F0) (hF0 : ∀ b, F0 b → b < w.heap.size)  {r : Int × (List TTx)} (H : laws_markTxS k p0 p1 = some r) :
    Calls Try.prog 21 #[.slice a_0 (List.length p0) c_0, .int .i64 p1] w (Rt w F0 (fun _ : Unit => .int .i64 r.1) (fun _ => [OwnS kTTx a_0 c_0 r.2])) := by
  rw [laws_markTxS] at H
  refine Calls.enter (N := 41) (us := [_, _]) (F0 := F0) (Γ0 := [(1, OwnS kTTx a_0 c_0 p0)]) Try.func21 rfl rfl rfl hs0 hF0 ?_
  refine HQ.rseq ?_
  refine HQ.pu Pu.assign ⟨rfl, trivial⟩ rfl rfl rfl ?_
  refine HQ.done ?_
  refine HQ.keep [(0, _), (1, _), (4, _)] ⟨rfl, rfl, rfl, trivial⟩ ?_
  refine HQ.seq ?_
  refine HQ.rseq ?_
  refine HQ.pu Pu.assign ⟨rfl, trivial⟩ rfl rfl rfl ?_
  refine HQ.done ?_
  refine HQ.keep [(0, _), (1, _), (4, _), (5, _)] ⟨rfl, rfl, rfl, rfl, trivial⟩ ?_
  refine HQ.block ?_
  obtain ⟨o58, h62, H⟩ := bnd H
  refine HQ.loop h62 0 (fun (s : (List TTx) × Int × Int) (g : Unit) => match s, g with | (l19, i20, i21), () => [(0, .slice a_0 (List.length l19) c_0), (1, .int .i64 i20), (4, .int .i64 0), (5, .int .i64 i21)]) (fun (s : (List TTx) × Int × Int) (g : Unit) => match s, g with | (l19, i20, i21), () => [(1, OwnS kTTx a_0 c_0 l19)]) (fun _ _ _ => False) () ⟨rfl, rfl, rfl, rfl, trivial⟩ ⟨rfl, trivial⟩ rfl ?_ ?_ ?_
  · clear H h62
    rintro ⟨l19, i20, i21⟩ _ o H
    rw [laws_markTxS_b0] at H
    refine HQ.keep [(0, _), (1, _), (4, _), (5, _)] ⟨rfl, rfl, rfl, rfl, trivial⟩ ?_
    refine HQ.keepR [(1, _)] ⟨rfl, trivial⟩ rfl ?_
    refine HQ.seq ?_
    refine HQ.rseq ?_
    refine HQ.pu Pu.move ⟨rfl, trivial⟩ rfl rfl rfl ?_
    refine HQ.pu Pu.move ⟨rfl, trivial⟩ rfl rfl rfl ?_
    refine HQ.pu (Pu.len ul26) ⟨rfl, trivial⟩ rfl rfl rfl ?_
    refine HQ.pu Pu.lss ⟨rfl, rfl, trivial⟩ rfl rfl rfl ?_
    refine HQ.done ?_
    refine HQ.keep [(0, _), (1, _), (4, _), (5, _), (9, _)] ⟨rfl, rfl, rfl, rfl, rfl, trivial⟩ ?_
    rcases brk H with ⟨hc, H⟩ | ⟨hc, H⟩
    · refine HQ.condT rfl hc ?_
      clear hc
      refine HQ.skipThen ?_
      refine HQ.seq ?_
      refine HQ.block ?_
      refine HQ.rseq ?_
      refine HQ.pu Pu.move ⟨rfl, trivial⟩ rfl rfl rfl ?_
      refine HQ.pu Pu.move ⟨rfl, trivial⟩ rfl rfl rfl ?_
      refine HQ.pu Pu.move ⟨rfl, trivial⟩ rfl rfl rfl ?_
      obtain ⟨h40, H⟩ := asr H
      refine HQ.op [1] [1] (OT.indexO ul26 sz60 h40) ⟨rfl, rfl, trivial⟩ ⟨rfl, trivial⟩ rfl rfl rfl rfl (fun _ => rfl) fun _ => ?_
      refine HQ.pu (Pu.fieldE fo60_0 rfl) ⟨rfl, trivial⟩ rfl rfl rfl ?_
      refine HQ.opN [1] [1] [] (OT.storeO (⟨i20, (gt l19 i21).Root, (gt l19 i21).Size, (gt l19 i21).Puts⟩ : TTx) sz3 rfl rfl rfl h40 rfl (fun _ => rfl) rfl) ⟨rfl, rfl, trivial⟩ ⟨rfl, trivial⟩ rfl rfl rfl (fun _ => rfl) fun _ => ?_
      obtain ⟨l41, h42, H⟩ := bnd H
      replace h42 := Option.some.inj h42
      refine HQ.reR (B := OwnS kTTx a_0 c_0 l41) 1 rfl (by intro _ _ hb; rw [← h42]; exact hb) ?_
      have h43 : List.length l41 = List.length l19 := by rw [← h42, List.length_set]
      refine HQ.re (v' := .slice a_0 (List.length l41) c_0) 0 rfl (by simp [h43]) ?_
      refine HQ.re (v' := .slice a_0 (List.length l41) c_0) 12 rfl (by simp [h43]) ?_
      refine HQ.done ?_
      refine HQ.keep [(0, _), (1, _), (4, _), (5, _)] ⟨rfl, rfl, rfl, rfl, trivial⟩ ?_
      refine HQ.rseq ?_
      refine HQ.pu Pu.move ⟨rfl, trivial⟩ rfl rfl rfl ?_
      refine HQ.pu Pu.add ⟨rfl, rfl, trivial⟩ rfl rfl rfl ?_
      refine HQ.pu Pu.assign ⟨rfl, trivial⟩ rfl rfl rfl ?_
      refine HQ.done ?_
      refine HQ.keep [(0, _), (1, _), (4, _), (5, _)] ⟨rfl, rfl, rfl, rfl, trivial⟩ ?_
      refine HQ.rseq ?_
      refine HQ.pu Pu.move ⟨rfl, trivial⟩ rfl rfl rfl ?_
      refine HQ.pu Pu.move ⟨rfl, trivial⟩ rfl rfl rfl ?_
      refine HQ.pu Pu.move ⟨rfl, trivial⟩ rfl rfl rfl ?_
      obtain ⟨h44, H⟩ := asr H
      refine HQ.op [1] [1] (OT.indexO ul26 sz60 h44) ⟨rfl, rfl, trivial⟩ ⟨rfl, trivial⟩ rfl rfl rfl rfl (fun _ => rfl) fun _ => ?_
      refine HQ.pu (Pu.fieldE fo60_1 rfl) ⟨rfl, trivial⟩ rfl rfl rfl ?_
      refine HQ.opN [1] [1] [] (OT.storeO (⟨(gt l41 i21).Seq, (wrap64 (i20 + 1)), (gt l41 i21).Size, (gt l41 i21).Puts⟩ : TTx) sz3 rfl rfl rfl h44 rfl (fun _ => rfl) rfl) ⟨rfl, rfl, trivial⟩ ⟨rfl, trivial⟩ rfl rfl rfl (fun _ => rfl) fun _ => ?_
      obtain ⟨l45, h46, H⟩ := bnd H
      replace h46 := Option.some.inj h46
      refine HQ.reR (B := OwnS kTTx a_0 c_0 l45) 1 rfl (by intro _ _ hb; rw [← h46]; exact hb) ?_
      have h47 : List.length l45 = List.length l41 := by rw [← h46, List.length_set]
      refine HQ.re (v' := .slice a_0 (List.length l45) c_0) 0 rfl (by simp [h43, h47]) ?_
      refine HQ.re (v' := .slice a_0 (List.length l45) c_0) 19 rfl (by simp [h43, h47]) ?_
      refine HQ.done ?_
      refine HQ.keep [(0, _), (1, _), (4, _), (5, _)] ⟨rfl, rfl, rfl, rfl, trivial⟩ ?_
      refine HQ.rseq ?_
      refine HQ.pu Pu.move ⟨rfl, trivial⟩ rfl rfl rfl ?_
      refine HQ.pu Pu.add ⟨rfl, rfl, trivial⟩ rfl rfl rfl ?_
      refine HQ.pu Pu.assign ⟨rfl, trivial⟩ rfl rfl rfl ?_
      refine HQ.done ?_
      refine HQ.keep [(0, _), (1, _), (4, _), (5, _)] ⟨rfl, rfl, rfl, rfl, trivial⟩ ?_
      refine HQ.rseq ?_
      refine HQ.pu Pu.move ⟨rfl, trivial⟩ rfl rfl rfl ?_
      refine HQ.pu Pu.move ⟨rfl, trivial⟩ rfl rfl rfl ?_
      refine HQ.pu Pu.move ⟨rfl, trivial⟩ rfl rfl rfl ?_
      obtain ⟨h48, H⟩ := asr H
      refine HQ.op [1] [1] (OT.indexO ul26 sz60 h48) ⟨rfl, rfl, trivial⟩ ⟨rfl, trivial⟩ rfl rfl rfl rfl (fun _ => rfl) fun _ => ?_
      refine HQ.pu (Pu.fieldE fo60_2 rfl) ⟨rfl, trivial⟩ rfl rfl rfl ?_
      refine HQ.opN [1] [1] [] (OT.storeO (⟨(gt l45 i21).Seq, (gt l45 i21).Root, (wrap64 ((wrap64 (i20 + 1)) + 1)), (gt l45 i21).Puts⟩ : TTx) sz3 rfl rfl rfl h48 rfl (fun _ => rfl) rfl) ⟨rfl, rfl, trivial⟩ ⟨rfl, trivial⟩ rfl rfl rfl (fun _ => rfl) fun _ => ?_
      obtain ⟨l49, h50, H⟩ := bnd H
      replace h50 := Option.some.inj h50
      refine HQ.reR (B := OwnS kTTx a_0 c_0 l49) 1 rfl (by intro _ _ hb; rw [← h50]; exact hb) ?_
      have h51 : List.length l49 = List.length l45 := by rw [← h50, List.length_set]
      refine HQ.re (v' := .slice a_0 (List.length l49) c_0) 0 rfl (by simp [h43, h47, h51]) ?_
      refine HQ.re (v' := .slice a_0 (List.length l49) c_0) 26 rfl (by simp [h43, h47, h51]) ?_
      refine HQ.done ?_
      refine HQ.keep [(0, _), (1, _), (4, _), (5, _)] ⟨rfl, rfl, rfl, rfl, trivial⟩ ?_
      refine HQ.rseq ?_
      refine HQ.pu Pu.move ⟨rfl, trivial⟩ rfl rfl rfl ?_
      refine HQ.pu Pu.add ⟨rfl, rfl, trivial⟩ rfl rfl rfl ?_
      refine HQ.pu Pu.assign ⟨rfl, trivial⟩ rfl rfl rfl ?_
      refine HQ.done ?_
      refine HQ.keep [(0, _), (1, _), (4, _), (5, _)] ⟨rfl, rfl, rfl, rfl, trivial⟩ ?_
      refine HQ.regionQ ?_
      refine HQ.pu Pu.move ⟨rfl, trivial⟩ rfl rfl rfl ?_
      refine HQ.pu Pu.move ⟨rfl, trivial⟩ rfl rfl rfl ?_
      obtain ⟨h52, H⟩ := asr H
      refine HQ.op [1] [1] (OT.indexO ul26 sz60 h52) ⟨rfl, rfl, trivial⟩ ⟨rfl, trivial⟩ rfl rfl rfl rfl (fun _ => rfl) fun _ => ?_
      refine HQ.pu (Pu.fieldE fo60_3 rfl) ⟨rfl, trivial⟩ rfl rfl rfl ?_
      refine HQ.op [1] [1, 4] (OT.focus (v := fun a53 c54 => .slice a53 (List.length ((gt l49 i21).Puts)) c54) (fun x ys => (⟨x.Seq, x.Root, x.Size, ys⟩ : TTx)) sc58 h52 (fun _ _ => rfl) (fun _ _ _ => rfl) (fun _ _ => rfl)) ⟨rfl, trivial⟩ ⟨rfl, trivial⟩ rfl rfl rfl rfl (fun _ => rfl) fun ⟨a53, c54⟩ => ?_
      refine HQ.pu Pu.move ⟨rfl, trivial⟩ rfl rfl rfl ?_
      obtain ⟨t55, h56, H⟩ := bnd H
      obtain ⟨h57, H⟩ := asr H
      refine HQ.op [4] [4] (OT.callM (us := [_, _]) (PreX := [OwnS kTChange a53 c54 ((gt l49 i21).Puts)]) (PreL := []) [.tmp 37, .tmp 38] Try.call80 rfl rfl fun w FX FL hs1 hF1 hs2 hF2 hp => laws_markChangeS_c (p0 := (gt l49 i21).Puts) (p1 := (wrap64 ((wrap64 ((wrap64 (i20 + 1)) + 1)) + 1))) hs1 hF1 h56) ⟨rfl, rfl, rfl, trivial⟩ ⟨rfl, trivial⟩ rfl rfl rfl rfl (fun _ => rfl) fun _ => ?_
      refine HQ.re (v' := .slice a53 (List.length t55.2) c54) 37 rfl (by simp [h43, h47, h51, h57]) ?_
      refine HQ.pu Pu.assign ⟨rfl, trivial⟩ rfl rfl rfl ?_
      refine HQ.done ?_
      refine HQ.keep [(0, _), (1, _), (4, _), (5, _)] ⟨rfl, rfl, rfl, rfl, trivial⟩ ?_
      refine HQ.blkN ?_
      refine HQ.thenN ?_
      refine HQ.regionQ ?_
      refine HQ.pu Pu.move ⟨rfl, trivial⟩ rfl rfl rfl ?_
      refine HQ.pu Pu.add ⟨rfl, rfl, trivial⟩ rfl rfl rfl ?_
      refine HQ.pu Pu.assign ⟨rfl, trivial⟩ rfl rfl rfl ?_
      refine HQ.done ?_
      refine HQ.keep [(0, _), (1, _), (4, _), (5, _)] ⟨rfl, rfl, rfl, rfl, trivial⟩ ?_
      refine HQ.unfocus (xs' := (List.set l49 (Int.toNat i21) (⟨(gt l49 i21).Seq, (gt l49 i21).Root, (gt l49 i21).Size, t55.2⟩ : TTx))) 1 4 rfl rfl rfl (by simp [h43, h47, h51, h57]) rfl ?_
      refine HQ.re (v' := .slice a_0 (List.length (List.set l49 (Int.toNat i21) (⟨(gt l49 i21).Seq, (gt l49 i21).Root, (gt l49 i21).Size, t55.2⟩ : TTx))) c_0) 0 rfl (by simp [h43, h47, h51, h57]) ?_
      obtain rfl := Option.some.inj H
      exact HQ.next () ⟨rfl, rfl, rfl, rfl, trivial⟩ ⟨rfl, trivial⟩ rfl
    · refine HQ.condF rfl hc ?_
      clear hc
      refine HQ.exit ?_
      refine HQ.thenE ?_
      obtain rfl := Option.some.inj H
      exact HQ.out () ⟨rfl, rfl, rfl, rfl, trivial⟩ ⟨rfl, trivial⟩ rfl
  · rintro ⟨l59, i60, i61⟩ rfl _
    clear h62
    replace H := H
    refine HQ.keep [(0, _), (1, _), (4, _), (5, _)] ⟨rfl, rfl, rfl, rfl, trivial⟩ ?_
    refine HQ.keepR [(1, _)] ⟨rfl, trivial⟩ rfl ?_
    refine HQ.blkE ?_
    refine HQ.thenN ?_
    refine HQ.rseq ?_
    refine HQ.pu Pu.move ⟨rfl, trivial⟩ rfl rfl rfl ?_
    refine HQ.pu Pu.assign ⟨rfl, trivial⟩ rfl rfl rfl ?_
    refine HQ.done ?_
    refine HQ.keep [(4, _)] ⟨rfl, trivial⟩ ?_
    refine HQ.ret ?_
    obtain rfl := Option.some.inj H
    exact HQ.fin (vs := [_]) Try.results21 () ⟨rfl, trivial⟩ rfl [1] ⟨rfl, trivial⟩ rfl
  · exact fun r h a w hf => hf.elim

end Go.Proofs.Sx
