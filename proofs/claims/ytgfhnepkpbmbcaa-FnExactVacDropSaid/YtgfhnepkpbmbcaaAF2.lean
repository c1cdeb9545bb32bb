import Derived.Test.YtgfhnepkpbmbcaaAF1
import Derived.KernelRfl
namespace Go.Proofs.Sx
open Go.RowKit
set_option linter.unusedVariables false
set_option linter.unusedSimpArgs false
set_option maxRecDepth 20000
set_option maxHeartbeats 1000000
/-! laws.toIntS -/
theorem laws_toIntS_c {w : World} {k : Nat} {p0 : (List Int)} {a_0 : Option Addr} {c_0 : Nat} (hb_0 : BorS kI a_0 c_0 p0 w.heap (Lt w Nil)) {r : (List Int)} (H : laws_toIntS k p0 = some r) :
    Calls Try.prog 47 #[.slice a_0 (List.length p0) c_0] w (Rt w Nil (fun g : Option Addr × Nat => .slice g.1 (List.length r) g.2) (fun g => [OwnS kI g.1 g.2 r])) := by
  rw [laws_toIntS] at H
  refine Calls.enter0 (N := 22) (us := [_]) Try.func47 rfl rfl rfl ?_
  refine HQ.rseq ?_
  refine HQ.pu Pu.assign ⟨rfl, trivial⟩ rfl rfl rfl ?_
  refine HQ.done ?_
  refine HQ.keep [(0, _), (2, _)] ⟨rfl, rfl, trivial⟩ ?_
  refine HQ.rseq ?_
  refine HQ.pu Pu.move ⟨rfl, trivial⟩ rfl rfl rfl ?_
  refine HQ.pu (Pu.len ul24) ⟨rfl, trivial⟩ rfl rfl rfl ?_
  obtain ⟨h3, H⟩ := asr H
  refine HQ.op [] [1] (OT.make (K := kI) (z := (0 : Int)) sl24 h3 (fun _ => ⟨rfl, fun _ h => h⟩)) ⟨rfl, rfl, trivial⟩ trivial rfl rfl rfl rfl (fun _ => rfl) fun ⟨a1, c2⟩ => ?_
  refine HQ.pu Pu.assign ⟨rfl, trivial⟩ rfl rfl rfl ?_
  refine HQ.done ?_
  refine HQ.keep [(0, _), (2, _), (3, _)] ⟨rfl, rfl, rfl, trivial⟩ ?_
  refine HQ.seq ?_
  refine HQ.rseq ?_
  refine HQ.pu Pu.assign ⟨rfl, trivial⟩ rfl rfl rfl ?_
  refine HQ.done ?_
  refine HQ.keep [(0, _), (2, _), (3, _), (4, _)] ⟨rfl, rfl, rfl, rfl, trivial⟩ ?_
  refine HQ.block ?_
  obtain ⟨o21, h24, H⟩ := bnd H
  refine HQ.loop h24 0 (fun (s : (List Int) × Int) (g : Unit) => match s, g with | (l9, i10), () => [(0, .slice a_0 (List.length p0) c_0), (2, .slice none 0 0), (3, .slice a1 (List.length l9) c2), (4, .int .i64 i10)]) (fun (s : (List Int) × Int) (g : Unit) => match s, g with | (l9, i10), () => [(1, OwnS kI a1 c2 l9)]) (fun _ _ _ => False) () ⟨rfl, rfl, rfl, rfl, trivial⟩ ⟨rfl, trivial⟩ rfl ?_ ?_ ?_
  · clear H h24
    rintro ⟨l9, i10⟩ _ o H
    rw [laws_toIntS_b0] at H
    refine HQ.keep [(0, _), (2, _), (3, _), (4, _)] ⟨rfl, rfl, rfl, rfl, trivial⟩ ?_
    refine HQ.keepR [(1, _)] ⟨rfl, trivial⟩ rfl ?_
    refine HQ.seq ?_
    refine HQ.rseq ?_
    refine HQ.pu Pu.move ⟨rfl, trivial⟩ rfl rfl rfl ?_
    refine HQ.pu Pu.move ⟨rfl, trivial⟩ rfl rfl rfl ?_
    refine HQ.pu (Pu.len ul24) ⟨rfl, trivial⟩ rfl rfl rfl ?_
    refine HQ.pu Pu.lss ⟨rfl, rfl, trivial⟩ rfl rfl rfl ?_
    refine HQ.done ?_
    refine HQ.keep [(0, _), (2, _), (3, _), (4, _), (11, _)] ⟨rfl, rfl, rfl, rfl, rfl, trivial⟩ ?_
    rcases brk H with ⟨hc, H⟩ | ⟨hc, H⟩
    · refine HQ.condT rfl hc ?_
      clear hc
      refine HQ.skipThen ?_
      refine HQ.seq ?_
      refine HQ.block ?_
      refine HQ.regionQ ?_
      refine HQ.pu Pu.move ⟨rfl, trivial⟩ rfl rfl rfl ?_
      refine HQ.pu Pu.move ⟨rfl, trivial⟩ rfl rfl rfl ?_
      refine HQ.pu Pu.move ⟨rfl, trivial⟩ rfl rfl rfl ?_
      refine HQ.pu Pu.move ⟨rfl, trivial⟩ rfl rfl rfl ?_
      obtain ⟨h16, H⟩ := asr H
      refine HQ.op [] [] (OT.indexB ul24 sz3 hb_0 h16) ⟨rfl, rfl, trivial⟩ trivial rfl rfl rfl rfl (fun _ => rfl) fun _ => ?_
      refine HQ.op [] [] (OT.loadF sc3 hb_0 h16 rfl) ⟨rfl, trivial⟩ trivial rfl rfl rfl rfl (fun _ => rfl) fun _ => ?_
      obtain ⟨h17, H⟩ := asr H
      refine HQ.op [1] [1] (OT.indexO ul24 sz3 h17) ⟨rfl, rfl, trivial⟩ ⟨rfl, trivial⟩ rfl rfl rfl rfl (fun _ => rfl) fun _ => ?_
      refine HQ.opN [1] [1] [] (OT.storeF (gt p0 i10) sz3 rfl rfl rfl h17 rfl rfl) ⟨rfl, rfl, trivial⟩ ⟨rfl, trivial⟩ rfl rfl rfl (fun _ => rfl) fun _ => ?_
      obtain ⟨l18, h19, H⟩ := bnd H
      replace h19 := Option.some.inj h19
      refine HQ.reR (B := OwnS kI a1 c2 l18) 1 rfl (by intro _ _ hb; rw [← h19]; exact hb) ?_
      have h20 : List.length l18 = List.length l9 := by rw [← h19, List.length_set]
      refine HQ.re (v' := .slice a1 (List.length l18) c2) 3 rfl (by simp [h20]) ?_
      refine HQ.re (v' := .slice a1 (List.length l18) c2) 14 rfl (by simp [h20]) ?_
      refine HQ.done ?_
      refine HQ.keep [(0, _), (2, _), (3, _), (4, _)] ⟨rfl, rfl, rfl, rfl, trivial⟩ ?_
      refine HQ.blkN ?_
      refine HQ.thenN ?_
      refine HQ.regionQ ?_
      refine HQ.pu Pu.move ⟨rfl, trivial⟩ rfl rfl rfl ?_
      refine HQ.pu Pu.add ⟨rfl, rfl, trivial⟩ rfl rfl rfl ?_
      refine HQ.pu Pu.assign ⟨rfl, trivial⟩ rfl rfl rfl ?_
      refine HQ.done ?_
      refine HQ.keep [(0, _), (2, _), (3, _), (4, _)] ⟨rfl, rfl, rfl, rfl, trivial⟩ ?_
      obtain rfl := Option.some.inj H
      exact HQ.next () ⟨rfl, rfl, rfl, rfl, trivial⟩ ⟨rfl, trivial⟩ rfl
    · refine HQ.condF rfl hc ?_
      clear hc
      refine HQ.exit ?_
      refine HQ.thenE ?_
      obtain rfl := Option.some.inj H
      exact HQ.out () ⟨rfl, rfl, rfl, rfl, trivial⟩ ⟨rfl, trivial⟩ rfl
  · rintro ⟨l22, i23⟩ rfl _
    clear h24
    replace H := H
    refine HQ.keep [(0, _), (2, _), (3, _), (4, _)] ⟨rfl, rfl, rfl, rfl, trivial⟩ ?_
    refine HQ.keepR [(1, _)] ⟨rfl, trivial⟩ rfl ?_
    refine HQ.blkE ?_
    refine HQ.thenN ?_
    refine HQ.rseq ?_
    refine HQ.pu Pu.move ⟨rfl, trivial⟩ rfl rfl rfl ?_
    refine HQ.pu Pu.assign ⟨rfl, trivial⟩ rfl rfl rfl ?_
    refine HQ.done ?_
    refine HQ.keep [(2, _)] ⟨rfl, trivial⟩ ?_
    refine HQ.ret ?_
    obtain rfl := Option.some.inj H
    exact HQ.fin (vs := [_]) Try.results47 (a1, c2) ⟨rfl, trivial⟩ rfl [1] ⟨rfl, trivial⟩ rfl
  · exact fun r h a w hf => hf.elim

/-! laws.toItem -/
theorem laws_toItem_c {w : World} {p0 : TItem}   {r : TItem} (H : laws_toItem p0 = some r) :
    Calls Try.prog 172 #[.agg #[.int .i64 p0.Id, .int .i64 p0.R.X0, .int .i64 p0.R.Y0, .int .i64 p0.R.X1, .int .i64 p0.R.Y1]] w (Rt w Nil (fun _ : Unit => .agg #[.int .i64 r.Id, .int .i64 r.R.X0, .int .i64 r.R.Y0, .int .i64 r.R.X1, .int .i64 r.R.Y1]) (fun _ => [])) := by
  rw [laws_toItem] at H
  refine Calls.enter0 (N := 12) (us := [_]) Try.func172 rfl rfl rfl ?_
  refine HQ.rseq ?_
  refine HQ.op [] [1] (OT.box (cs := [.int .i64 p0.Id, .int .i64 p0.R.X0, .int .i64 p0.R.Y0, .int .i64 p0.R.X1, .int .i64 p0.R.Y1]) rfl) ⟨rfl, trivial⟩ trivial rfl rfl rfl rfl (fun _ => rfl) fun b1 => ?_
  refine HQ.op [] [2] (OT.alloc zc207) trivial trivial rfl rfl rfl rfl (fun _ => rfl) fun b2 => ?_
  refine HQ.done ?_
  refine HQ.keep [(1, _), (2, _)] ⟨rfl, rfl, trivial⟩ ?_
  refine HQ.rseq ?_
  refine HQ.op [] [3] (OT.alloc zc207) trivial trivial rfl rfl rfl rfl (fun _ => rfl) fun b3 => ?_
  refine HQ.done ?_
  refine HQ.keep [(1, _), (2, _), (3, _)] ⟨rfl, rfl, rfl, trivial⟩ ?_
  refine HQ.rseq ?_
  refine HQ.pu (Pu.fieldB fo211_0 rfl) ⟨rfl, trivial⟩ rfl rfl rfl ?_
  refine HQ.op [1] [1] (OT.loadB sc3 rfl) ⟨rfl, trivial⟩ ⟨rfl, trivial⟩ rfl rfl rfl rfl (fun _ => rfl) fun _ => ?_
  refine HQ.pu (Pu.fieldB fo207_0 rfl) ⟨rfl, trivial⟩ rfl rfl rfl ?_
  refine HQ.opN [3] [3] [] (OT.storeC (cs' := [.int .i64 p0.Id, .int .i64 0, .int .i64 0, .int .i64 0, .int .i64 0]) sz3 rfl rfl rfl rfl rfl) ⟨rfl, rfl, trivial⟩ ⟨rfl, trivial⟩ rfl rfl rfl (fun _ => rfl) fun _ => ?_
  refine HQ.done ?_
  refine HQ.keep [(1, _), (2, _), (3, _)] ⟨rfl, rfl, rfl, trivial⟩ ?_
  refine HQ.rseq ?_
  refine HQ.pu (Pu.fieldB fo211_1 rfl) ⟨rfl, trivial⟩ rfl rfl rfl ?_
  refine HQ.op [1] [1] (OT.loadBA (vs := [.int .i64 p0.R.X0, .int .i64 p0.R.Y0, .int .i64 p0.R.X1, .int .i64 p0.R.Y1]) ag209 sz209 rfl rfl) ⟨rfl, trivial⟩ ⟨rfl, trivial⟩ rfl rfl rfl rfl (fun _ => rfl) fun _ => ?_
  obtain ⟨t4, h5, H⟩ := bnd H
  refine HQ.op [] [] (OT.call (us := [_]) (Pre := []) [.tmp 8] Try.call188 rfl rfl fun w F hs hF hp => laws_toBox_c h5) ⟨rfl, rfl, trivial⟩ trivial rfl rfl rfl rfl (fun _ => rfl) fun _ => ?_
  refine HQ.pu (Pu.fieldB fo207_1 rfl) ⟨rfl, trivial⟩ rfl rfl rfl ?_
  refine HQ.opN [3] [3] [] (OT.storeC (cs' := [.int .i64 p0.Id, .int .i64 t4.X0, .int .i64 t4.Y0, .int .i64 t4.X1, .int .i64 t4.Y1]) sz194 rfl rfl rfl rfl rfl) ⟨rfl, rfl, trivial⟩ ⟨rfl, trivial⟩ rfl rfl rfl (fun _ => rfl) fun _ => ?_
  refine HQ.done ?_
  refine HQ.keep [(2, _), (3, _)] ⟨rfl, rfl, trivial⟩ ?_
  refine HQ.rseq ?_
  refine HQ.op [3] [3] (OT.loadBA (vs := [.int .i64 p0.Id, .int .i64 t4.X0, .int .i64 t4.Y0, .int .i64 t4.X1, .int .i64 t4.Y1]) ag207 sz207 rfl rfl) ⟨rfl, trivial⟩ ⟨rfl, trivial⟩ rfl rfl rfl rfl (fun _ => rfl) fun _ => ?_
  refine HQ.opN [2] [2] [] (OT.storeC (cs' := [.int .i64 p0.Id, .int .i64 t4.X0, .int .i64 t4.Y0, .int .i64 t4.X1, .int .i64 t4.Y1]) sz207 rfl rfl rfl rfl rfl) ⟨rfl, rfl, trivial⟩ ⟨rfl, trivial⟩ rfl rfl rfl (fun _ => rfl) fun _ => ?_
  refine HQ.done ?_
  refine HQ.keep [(2, _)] ⟨rfl, trivial⟩ ?_
  refine HQ.ret ?_
  obtain rfl := Option.some.inj H
  exact HQ.fin (vs := [_]) Try.results172 () ⟨⟨_, _, 2, rfl, rfl, ag207, sz207, rfl⟩, trivial⟩ rfl [] trivial rfl

/-! laws.toItemS -/
theorem laws_toItemS_c {w : World} {k : Nat} {p0 : (List TItem)} {a_0 : Option Addr} {c_0 : Nat} (hb_0 : BorS kTItem a_0 c_0 p0 w.heap (Lt w Nil)) {r : (List TItem)} (H : laws_toItemS k p0 = some r) :
    Calls Try.prog 133 #[.slice a_0 (List.length p0) c_0] w (Rt w Nil (fun g : Option Addr × Nat => .slice g.1 (List.length r) g.2) (fun g => [OwnS kTItem g.1 g.2 r])) := by
  rw [laws_toItemS] at H
  refine Calls.enter0 (N := 23) (us := [_]) Try.func133 rfl rfl rfl ?_
  refine HQ.rseq ?_
  refine HQ.pu Pu.assign ⟨rfl, trivial⟩ rfl rfl rfl ?_
  refine HQ.done ?_
  refine HQ.keep [(0, _), (2, _)] ⟨rfl, rfl, trivial⟩ ?_
  refine HQ.rseq ?_
  refine HQ.pu Pu.move ⟨rfl, trivial⟩ rfl rfl rfl ?_
  refine HQ.pu (Pu.len ul90) ⟨rfl, trivial⟩ rfl rfl rfl ?_
  obtain ⟨h3, H⟩ := asr H
  refine HQ.op [] [1] (OT.make (K := kTItem) (z := (⟨(0 : Int), (⟨(0 : Int), (0 : Int), (0 : Int), (0 : Int)⟩ : TBox)⟩ : TItem)) sl101 h3 (fun _ => ⟨rfl, fun _ h => h⟩)) ⟨rfl, rfl, trivial⟩ trivial rfl rfl rfl rfl (fun _ => rfl) fun ⟨a1, c2⟩ => ?_
  refine HQ.pu Pu.assign ⟨rfl, trivial⟩ rfl rfl rfl ?_
  refine HQ.done ?_
  refine HQ.keep [(0, _), (2, _), (3, _)] ⟨rfl, rfl, rfl, trivial⟩ ?_
  refine HQ.seq ?_
  refine HQ.rseq ?_
  refine HQ.pu Pu.assign ⟨rfl, trivial⟩ rfl rfl rfl ?_
  refine HQ.done ?_
  refine HQ.keep [(0, _), (2, _), (3, _), (4, _)] ⟨rfl, rfl, rfl, rfl, trivial⟩ ?_
  refine HQ.block ?_
  obtain ⟨o27, h30, H⟩ := bnd H
  refine HQ.loop h30 0 (fun (s : (List TItem) × Int) (g : Unit) => match s, g with | (l11, i12), () => [(0, .slice a_0 (List.length p0) c_0), (2, .slice none 0 0), (3, .slice a1 (List.length l11) c2), (4, .int .i64 i12)]) (fun (s : (List TItem) × Int) (g : Unit) => match s, g with | (l11, i12), () => [(1, OwnS kTItem a1 c2 l11)]) (fun _ _ _ => False) () ⟨rfl, rfl, rfl, rfl, trivial⟩ ⟨rfl, trivial⟩ rfl ?_ ?_ ?_
  · clear H h30
    rintro ⟨l11, i12⟩ _ o H
    rw [laws_toItemS_b0] at H
    refine HQ.keep [(0, _), (2, _), (3, _), (4, _)] ⟨rfl, rfl, rfl, rfl, trivial⟩ ?_
    refine HQ.keepR [(1, _)] ⟨rfl, trivial⟩ rfl ?_
    refine HQ.seq ?_
    refine HQ.rseq ?_
    refine HQ.pu Pu.move ⟨rfl, trivial⟩ rfl rfl rfl ?_
    refine HQ.pu Pu.move ⟨rfl, trivial⟩ rfl rfl rfl ?_
    refine HQ.pu (Pu.len ul90) ⟨rfl, trivial⟩ rfl rfl rfl ?_
    refine HQ.pu Pu.lss ⟨rfl, rfl, trivial⟩ rfl rfl rfl ?_
    refine HQ.done ?_
    refine HQ.keep [(0, _), (2, _), (3, _), (4, _), (11, _)] ⟨rfl, rfl, rfl, rfl, rfl, trivial⟩ ?_
    rcases brk H with ⟨hc, H⟩ | ⟨hc, H⟩
    · refine HQ.condT rfl hc ?_
      clear hc
      refine HQ.skipThen ?_
      refine HQ.seq ?_
      refine HQ.block ?_
      refine HQ.regionQ ?_
      refine HQ.pu Pu.move ⟨rfl, trivial⟩ rfl rfl rfl ?_
      refine HQ.pu Pu.move ⟨rfl, trivial⟩ rfl rfl rfl ?_
      refine HQ.pu Pu.move ⟨rfl, trivial⟩ rfl rfl rfl ?_
      refine HQ.pu Pu.move ⟨rfl, trivial⟩ rfl rfl rfl ?_
      obtain ⟨h20, H⟩ := asr H
      refine HQ.op [] [] (OT.indexB ul90 sz211 hb_0 h20) ⟨rfl, rfl, trivial⟩ trivial rfl rfl rfl rfl (fun _ => rfl) fun _ => ?_
      refine HQ.op [] [] (OT.loadFA (vs := [.int .i64 ((gt p0 i12).Id), .int .i64 ((gt p0 i12).R.X0), .int .i64 ((gt p0 i12).R.Y0), .int .i64 ((gt p0 i12).R.X1), .int .i64 ((gt p0 i12).R.Y1)]) ag211 sz211 hb_0 h20 rfl rfl) ⟨rfl, trivial⟩ trivial rfl rfl rfl rfl (fun _ => rfl) fun _ => ?_
      obtain ⟨t21, h22, H⟩ := bnd H
      refine HQ.op [] [] (OT.call (us := [_]) (Pre := []) [.tmp 19] Try.call172 rfl rfl fun w F hs hF hp => laws_toItem_c h22) ⟨rfl, rfl, trivial⟩ trivial rfl rfl rfl rfl (fun _ => rfl) fun _ => ?_
      obtain ⟨h23, H⟩ := asr H
      refine HQ.op [1] [1] (OT.indexO ul101 sz207 h23) ⟨rfl, rfl, trivial⟩ ⟨rfl, trivial⟩ rfl rfl rfl rfl (fun _ => rfl) fun _ => ?_
      refine HQ.opN [1] [1] [] (OT.storeF t21 sz207 rfl rfl rfl h23 rfl rfl) ⟨rfl, rfl, trivial⟩ ⟨rfl, trivial⟩ rfl rfl rfl (fun _ => rfl) fun _ => ?_
      obtain ⟨l24, h25, H⟩ := bnd H
      replace h25 := Option.some.inj h25
      refine HQ.reR (B := OwnS kTItem a1 c2 l24) 1 rfl (by intro _ _ hb; rw [← h25]; exact hb) ?_
      have h26 : List.length l24 = List.length l11 := by rw [← h25, List.length_set]
      refine HQ.re (v' := .slice a1 (List.length l24) c2) 3 rfl (by simp [h26]) ?_
      refine HQ.re (v' := .slice a1 (List.length l24) c2) 14 rfl (by simp [h26]) ?_
      refine HQ.done ?_
      refine HQ.keep [(0, _), (2, _), (3, _), (4, _)] ⟨rfl, rfl, rfl, rfl, trivial⟩ ?_
      refine HQ.blkN ?_
      refine HQ.thenN ?_
      refine HQ.regionQ ?_
      refine HQ.pu Pu.move ⟨rfl, trivial⟩ rfl rfl rfl ?_
      refine HQ.pu Pu.add ⟨rfl, rfl, trivial⟩ rfl rfl rfl ?_
      refine HQ.pu Pu.assign ⟨rfl, trivial⟩ rfl rfl rfl ?_
      refine HQ.done ?_
      refine HQ.keep [(0, _), (2, _), (3, _), (4, _)] ⟨rfl, rfl, rfl, rfl, trivial⟩ ?_
      obtain rfl := Option.some.inj H
      exact HQ.next () ⟨rfl, rfl, rfl, rfl, trivial⟩ ⟨rfl, trivial⟩ rfl
    · refine HQ.condF rfl hc ?_
      clear hc
      refine HQ.exit ?_
      refine HQ.thenE ?_
      obtain rfl := Option.some.inj H
      exact HQ.out () ⟨rfl, rfl, rfl, rfl, trivial⟩ ⟨rfl, trivial⟩ rfl
  · rintro ⟨l28, i29⟩ rfl _
    clear h30
    replace H := H
    refine HQ.keep [(0, _), (2, _), (3, _), (4, _)] ⟨rfl, rfl, rfl, rfl, trivial⟩ ?_
    refine HQ.keepR [(1, _)] ⟨rfl, trivial⟩ rfl ?_
    refine HQ.blkE ?_
    refine HQ.thenN ?_
    refine HQ.rseq ?_
    refine HQ.pu Pu.move ⟨rfl, trivial⟩ rfl rfl rfl ?_
    refine HQ.pu Pu.assign ⟨rfl, trivial⟩ rfl rfl rfl ?_
    refine HQ.done ?_
    refine HQ.keep [(2, _)] ⟨rfl, trivial⟩ ?_
    refine HQ.ret ?_
    obtain rfl := Option.some.inj H
    exact HQ.fin (vs := [_]) Try.results133 (a1, c2) ⟨rfl, trivial⟩ rfl [1] ⟨rfl, trivial⟩ rfl
  · exact fun r h a w hf => hf.elim

/-! laws.toVac -/
theorem laws_toVac_c {w : World} {k : Nat} {p0 : TVac} {a_0 : Option Addr} {c_0 : Nat} {a_1 : Option Addr} {c_1 : Nat} {a_2 : Option Addr} {c_2 : Nat} {a_3 : Option Addr} {c_3 : Nat} {a_4 : Option Addr} {c_4 : Nat} (hb_0 : BorS kI a_0 c_0 p0.Todo w.heap (Lt w Nil)) (hb_1 : BorS kTItem a_1 c_1 p0.Run w.heap (Lt w Nil)) (hb_2 : BorS kTEntry a_2 c_2 p0.Row w.heap (Lt w Nil)) (hb_3 : BorS kTEntry a_3 c_3 p0.Next w.heap (Lt w Nil)) (hb_4 : BorS kI a_4 c_4 p0.Made w.heap (Lt w Nil)) {r : TVac} (H : laws_toVac k p0 = some r) :
    Calls Try.prog 61 #[.agg #[.int .i64 p0.Phase, .slice a_0 (List.length p0.Todo) c_0, .slice a_1 (List.length p0.Run) c_1, .slice a_2 (List.length p0.Row) c_2, .slice a_3 (List.length p0.Next) c_3, .slice a_4 (List.length p0.Made) c_4]] w (Rt w Nil (fun g : (Option Addr × Nat) × (Option Addr × Nat) × (Option Addr × Nat) × (Option Addr × Nat) × (Option Addr × Nat) => .agg #[.int .i64 r.Phase, .slice g.1.1 (List.length r.Todo) g.1.2, .slice g.2.1.1 (List.length r.Run) g.2.1.2, .slice g.2.2.1.1 (List.length r.Row) g.2.2.1.2, .slice g.2.2.2.1.1 (List.length r.Next) g.2.2.2.1.2, .slice g.2.2.2.2.1 (List.length r.Made) g.2.2.2.2.2]) (fun g => [OwnS kI g.1.1 g.1.2 r.Todo, OwnS kTItem g.2.1.1 g.2.1.2 r.Run, OwnS kTEntry g.2.2.1.1 g.2.2.1.2 r.Row, OwnS kTEntry g.2.2.2.1.1 g.2.2.2.1.2 r.Next, OwnS kI g.2.2.2.2.1 g.2.2.2.2.2 r.Made])) := by
  rw [laws_toVac] at H
  refine Calls.enter0 (N := 28) (us := [_]) Try.func61 rfl rfl rfl ?_
  refine HQ.rseq ?_
  refine HQ.op [] [1] (OT.box (cs := [.int .i64 p0.Phase, .slice a_0 (List.length p0.Todo) c_0, .slice a_1 (List.length p0.Run) c_1, .slice a_2 (List.length p0.Row) c_2, .slice a_3 (List.length p0.Next) c_3, .slice a_4 (List.length p0.Made) c_4]) rfl) ⟨rfl, trivial⟩ trivial rfl rfl rfl rfl (fun _ => rfl) fun b1 => ?_
  refine HQ.op [] [2] (OT.alloc zc103) trivial trivial rfl rfl rfl rfl (fun _ => rfl) fun b2 => ?_
  refine HQ.done ?_
  refine HQ.keep [(1, _), (2, _)] ⟨rfl, rfl, trivial⟩ ?_
  refine HQ.rseq ?_
  refine HQ.op [] [3] (OT.alloc zc103) trivial trivial rfl rfl rfl rfl (fun _ => rfl) fun b3 => ?_
  refine HQ.done ?_
  refine HQ.keep [(1, _), (2, _), (3, _)] ⟨rfl, rfl, rfl, trivial⟩ ?_
  refine HQ.rseq ?_
  refine HQ.pu (Pu.fieldB fo93_0 rfl) ⟨rfl, trivial⟩ rfl rfl rfl ?_
  refine HQ.op [1] [1] (OT.loadB sc3 rfl) ⟨rfl, trivial⟩ ⟨rfl, trivial⟩ rfl rfl rfl rfl (fun _ => rfl) fun _ => ?_
  refine HQ.pu (Pu.fieldB fo103_0 rfl) ⟨rfl, trivial⟩ rfl rfl rfl ?_
  refine HQ.opN [3] [3] [] (OT.storeC (cs' := [.int .i64 p0.Phase, .slice none 0 0, .slice none 0 0, .slice none 0 0, .slice none 0 0, .slice none 0 0]) sz3 rfl rfl rfl rfl rfl) ⟨rfl, rfl, trivial⟩ ⟨rfl, trivial⟩ rfl rfl rfl (fun _ => rfl) fun _ => ?_
  refine HQ.done ?_
  refine HQ.keep [(1, _), (2, _), (3, _)] ⟨rfl, rfl, rfl, trivial⟩ ?_
  refine HQ.rseq ?_
  refine HQ.pu (Pu.fieldB fo93_1 rfl) ⟨rfl, trivial⟩ rfl rfl rfl ?_
  refine HQ.op [1] [1] (OT.loadB sc24 rfl) ⟨rfl, trivial⟩ ⟨rfl, trivial⟩ rfl rfl rfl rfl (fun _ => rfl) fun _ => ?_
  obtain ⟨t4, h5, H⟩ := bnd H
  refine HQ.op [] [4] (OT.call (us := [_]) (Pre := []) [.tmp 8] Try.call47 rfl rfl fun w F hs hF hp => laws_toIntS_c (hb_0.pass hp) h5) ⟨rfl, rfl, trivial⟩ trivial rfl rfl rfl rfl (fun _ => rfl) fun ⟨a6, c7⟩ => ?_
  refine HQ.pu (Pu.fieldB fo103_1 rfl) ⟨rfl, trivial⟩ rfl rfl rfl ?_
  refine HQ.opN [3] [3] [] (OT.storeC (cs' := [.int .i64 p0.Phase, .slice a6 (List.length t4) c7, .slice none 0 0, .slice none 0 0, .slice none 0 0, .slice none 0 0]) sz24 rfl rfl rfl rfl rfl) ⟨rfl, rfl, trivial⟩ ⟨rfl, trivial⟩ rfl rfl rfl (fun _ => rfl) fun _ => ?_
  refine HQ.done ?_
  refine HQ.keep [(1, _), (2, _), (3, _)] ⟨rfl, rfl, rfl, trivial⟩ ?_
  refine HQ.rseq ?_
  refine HQ.pu (Pu.fieldB fo93_2 rfl) ⟨rfl, trivial⟩ rfl rfl rfl ?_
  refine HQ.op [1] [1] (OT.loadB sc90 rfl) ⟨rfl, trivial⟩ ⟨rfl, trivial⟩ rfl rfl rfl rfl (fun _ => rfl) fun _ => ?_
  obtain ⟨t8, h9, H⟩ := bnd H
  refine HQ.op [] [5] (OT.call (us := [_]) (Pre := []) [.tmp 12] Try.call133 rfl rfl fun w F hs hF hp => laws_toItemS_c (hb_1.pass hp) h9) ⟨rfl, rfl, trivial⟩ trivial rfl rfl rfl rfl (fun _ => rfl) fun ⟨a10, c11⟩ => ?_
  refine HQ.pu (Pu.fieldB fo103_2 rfl) ⟨rfl, trivial⟩ rfl rfl rfl ?_
  refine HQ.opN [3] [3] [] (OT.storeC (cs' := [.int .i64 p0.Phase, .slice a6 (List.length t4) c7, .slice a10 (List.length t8) c11, .slice none 0 0, .slice none 0 0, .slice none 0 0]) sz101 rfl rfl rfl rfl rfl) ⟨rfl, rfl, trivial⟩ ⟨rfl, trivial⟩ rfl rfl rfl (fun _ => rfl) fun _ => ?_
  refine HQ.done ?_
  refine HQ.keep [(1, _), (2, _), (3, _)] ⟨rfl, rfl, rfl, trivial⟩ ?_
  refine HQ.rseq ?_
  refine HQ.pu (Pu.fieldB fo93_3 rfl) ⟨rfl, trivial⟩ rfl rfl rfl ?_
  refine HQ.op [1] [1] (OT.loadB sc91 rfl) ⟨rfl, trivial⟩ ⟨rfl, trivial⟩ rfl rfl rfl rfl (fun _ => rfl) fun _ => ?_
  obtain ⟨t12, h13, H⟩ := bnd H
  refine HQ.op [] [6] (OT.call (us := [_]) (Pre := []) [.tmp 16] Try.call134 rfl rfl fun w F hs hF hp => laws_toEntryS_c (hb_2.pass hp) h13) ⟨rfl, rfl, trivial⟩ trivial rfl rfl rfl rfl (fun _ => rfl) fun ⟨a14, c15⟩ => ?_
  refine HQ.pu (Pu.fieldB fo103_3 rfl) ⟨rfl, trivial⟩ rfl rfl rfl ?_
  refine HQ.opN [3] [3] [] (OT.storeC (cs' := [.int .i64 p0.Phase, .slice a6 (List.length t4) c7, .slice a10 (List.length t8) c11, .slice a14 (List.length t12) c15, .slice none 0 0, .slice none 0 0]) sz77 rfl rfl rfl rfl rfl) ⟨rfl, rfl, trivial⟩ ⟨rfl, trivial⟩ rfl rfl rfl (fun _ => rfl) fun _ => ?_
  refine HQ.done ?_
  refine HQ.keep [(1, _), (2, _), (3, _)] ⟨rfl, rfl, rfl, trivial⟩ ?_
  refine HQ.rseq ?_
  refine HQ.pu (Pu.fieldB fo93_4 rfl) ⟨rfl, trivial⟩ rfl rfl rfl ?_
  refine HQ.op [1] [1] (OT.loadB sc91 rfl) ⟨rfl, trivial⟩ ⟨rfl, trivial⟩ rfl rfl rfl rfl (fun _ => rfl) fun _ => ?_
  obtain ⟨t16, h17, H⟩ := bnd H
  refine HQ.op [] [7] (OT.call (us := [_]) (Pre := []) [.tmp 20] Try.call134 rfl rfl fun w F hs hF hp => laws_toEntryS_c (hb_3.pass hp) h17) ⟨rfl, rfl, trivial⟩ trivial rfl rfl rfl rfl (fun _ => rfl) fun ⟨a18, c19⟩ => ?_
  refine HQ.pu (Pu.fieldB fo103_4 rfl) ⟨rfl, trivial⟩ rfl rfl rfl ?_
  refine HQ.opN [3] [3] [] (OT.storeC (cs' := [.int .i64 p0.Phase, .slice a6 (List.length t4) c7, .slice a10 (List.length t8) c11, .slice a14 (List.length t12) c15, .slice a18 (List.length t16) c19, .slice none 0 0]) sz77 rfl rfl rfl rfl rfl) ⟨rfl, rfl, trivial⟩ ⟨rfl, trivial⟩ rfl rfl rfl (fun _ => rfl) fun _ => ?_
  refine HQ.done ?_
  refine HQ.keep [(1, _), (2, _), (3, _)] ⟨rfl, rfl, rfl, trivial⟩ ?_
  refine HQ.rseq ?_
  refine HQ.pu (Pu.fieldB fo93_5 rfl) ⟨rfl, trivial⟩ rfl rfl rfl ?_
  refine HQ.op [1] [1] (OT.loadB sc24 rfl) ⟨rfl, trivial⟩ ⟨rfl, trivial⟩ rfl rfl rfl rfl (fun _ => rfl) fun _ => ?_
  obtain ⟨t20, h21, H⟩ := bnd H
  refine HQ.op [] [8] (OT.call (us := [_]) (Pre := []) [.tmp 24] Try.call47 rfl rfl fun w F hs hF hp => laws_toIntS_c (hb_4.pass hp) h21) ⟨rfl, rfl, trivial⟩ trivial rfl rfl rfl rfl (fun _ => rfl) fun ⟨a22, c23⟩ => ?_
  refine HQ.pu (Pu.fieldB fo103_5 rfl) ⟨rfl, trivial⟩ rfl rfl rfl ?_
  refine HQ.opN [3] [3] [] (OT.storeC (cs' := [.int .i64 p0.Phase, .slice a6 (List.length t4) c7, .slice a10 (List.length t8) c11, .slice a14 (List.length t12) c15, .slice a18 (List.length t16) c19, .slice a22 (List.length t20) c23]) sz24 rfl rfl rfl rfl rfl) ⟨rfl, rfl, trivial⟩ ⟨rfl, trivial⟩ rfl rfl rfl (fun _ => rfl) fun _ => ?_
  refine HQ.done ?_
  refine HQ.keep [(2, _), (3, _)] ⟨rfl, rfl, trivial⟩ ?_
  refine HQ.rseq ?_
  refine HQ.op [3] [3] (OT.loadBA (vs := [.int .i64 p0.Phase, .slice a6 (List.length t4) c7, .slice a10 (List.length t8) c11, .slice a14 (List.length t12) c15, .slice a18 (List.length t16) c19, .slice a22 (List.length t20) c23]) ag103 sz103 rfl rfl) ⟨rfl, trivial⟩ ⟨rfl, trivial⟩ rfl rfl rfl rfl (fun _ => rfl) fun _ => ?_
  refine HQ.opN [2] [2] [] (OT.storeC (cs' := [.int .i64 p0.Phase, .slice a6 (List.length t4) c7, .slice a10 (List.length t8) c11, .slice a14 (List.length t12) c15, .slice a18 (List.length t16) c19, .slice a22 (List.length t20) c23]) sz103 rfl rfl rfl rfl rfl) ⟨rfl, rfl, trivial⟩ ⟨rfl, trivial⟩ rfl rfl rfl (fun _ => rfl) fun _ => ?_
  refine HQ.done ?_
  refine HQ.keep [(2, _)] ⟨rfl, trivial⟩ ?_
  refine HQ.ret ?_
  obtain rfl := Option.some.inj H
  exact HQ.fin (vs := [_]) Try.results61 ((a6, c7), (a10, c11), (a14, c15), (a18, c19), (a22, c23)) ⟨⟨_, _, 2, rfl, rfl, ag103, sz103, rfl⟩, trivial⟩ rfl [4, 5, 6, 7, 8] ⟨rfl, rfl, rfl, rfl, rfl, trivial⟩ rfl

/-! spec.l1In -/
theorem spec_l1In_c {w : World} {p0 : Int} {p1 : Int} {p2 : Int}   {r : Bool} (H : spec_l1In p0 p1 p2 = some r) :
    Calls Try.prog 85 #[.int .i64 p0, .int .i64 p1, .int .i64 p2] w (Rt w Nil (fun _ : Unit => .bool r) (fun _ => [])) := by
  rw [spec_l1In] at H
  refine Calls.enter0 (N := 15) (us := [_, _, _]) Try.func85 rfl rfl rfl ?_
  refine HQ.rseq ?_
  refine HQ.pu Pu.assign ⟨rfl, trivial⟩ rfl rfl rfl ?_
  refine HQ.done ?_
  refine HQ.keep [(0, _), (1, _), (2, _), (6, _)] ⟨rfl, rfl, rfl, rfl, trivial⟩ ?_
  refine HQ.rseq ?_
  refine HQ.pu Pu.move ⟨rfl, trivial⟩ rfl rfl rfl ?_
  refine HQ.pu Pu.move ⟨rfl, trivial⟩ rfl rfl rfl ?_
  refine HQ.pu Pu.geq ⟨rfl, rfl, trivial⟩ rfl rfl rfl ?_
  refine HQ.pu Pu.move ⟨rfl, trivial⟩ rfl rfl rfl ?_
  refine HQ.cutAt 4 [(14, .bool ((decide (p0 ≥ p1)) && (decide (p0 ≤ p2)))), (6, .bool false)] [] ?_ ?_
  · rcases Bool.eq_false_or_eq_true (decide (p0 ≥ p1)) with hg1 | hg1
    · refine HQ.on rfl rfl hg1 ?_
      refine HQ.pu Pu.move ⟨rfl, trivial⟩ rfl rfl rfl ?_
      refine HQ.on rfl rfl hg1 ?_
      refine HQ.pu Pu.move ⟨rfl, trivial⟩ rfl rfl rfl ?_
      refine HQ.on rfl rfl hg1 ?_
      refine HQ.pu Pu.leq ⟨rfl, rfl, trivial⟩ rfl rfl rfl ?_
      refine HQ.pu (Pu.pickAT hg1) ⟨rfl, rfl, trivial⟩ rfl rfl rfl ?_
      exact HQ.mid ⟨rfl, rfl, trivial⟩ trivial rfl
    · refine HQ.off rfl rfl hg1 rfl ?_
      refine HQ.off rfl rfl hg1 rfl ?_
      refine HQ.off rfl rfl hg1 rfl ?_
      refine HQ.pu (Pu.pickAF (u := (decide (p0 ≤ p2))) hg1) ⟨rfl, rfl, trivial⟩ rfl rfl rfl ?_
      exact HQ.mid ⟨rfl, rfl, trivial⟩ trivial rfl
  refine HQ.pu Pu.assign ⟨rfl, trivial⟩ rfl rfl rfl ?_
  refine HQ.done ?_
  refine HQ.keep [(6, _)] ⟨rfl, trivial⟩ ?_
  refine HQ.ret ?_
  obtain rfl := Option.some.inj H
  exact HQ.fin (vs := [_]) Try.results85 () ⟨rfl, trivial⟩ rfl [] trivial rfl

/-! spec.l5Copy -/
theorem spec_l5Copy_c {w : World} {p0 : TNode} {a_0 : Option Addr} {c_0 : Nat} (hb_0 : BorS kTEntry a_0 c_0 p0.L w.heap (Lt w Nil)) {r : TNode} (H : spec_l5Copy p0 = some r) :
    Calls Try.prog 148 #[.agg #[.bool p0.Leaf, .slice a_0 (List.length p0.L) c_0]] w (Rt w Nil (fun g : Option Addr × Nat => .agg #[.bool r.Leaf, .slice g.1 (List.length r.L) g.2]) (fun g => [OwnS kTEntry g.1 g.2 r.L])) := by
  rw [spec_l5Copy] at H
  refine Calls.enter0 (N := 10) (us := [_]) Try.func148 rfl rfl rfl ?_
  refine HQ.rseq ?_
  refine HQ.op [] [1] (OT.box (cs := [.bool p0.Leaf, .slice a_0 (List.length p0.L) c_0]) rfl) ⟨rfl, trivial⟩ trivial rfl rfl rfl rfl (fun _ => rfl) fun b1 => ?_
  refine HQ.op [] [2] (OT.alloc zc79) trivial trivial rfl rfl rfl rfl (fun _ => rfl) fun b2 => ?_
  refine HQ.done ?_
  refine HQ.keep [(1, _), (2, _)] ⟨rfl, rfl, trivial⟩ ?_
  obtain ⟨h8, H⟩ := asr H
  refine HQ.drawS mixd [(1, BP b1 0), (2, BP b2 0)] 6 [⟨[], [], []⟩, ⟨[0], [0], [0]⟩, ⟨[], [1], []⟩, ⟨[], [], []⟩, ⟨[0], [0], [3]⟩, ⟨[1], [2], [2, 4]⟩] [⟨none, none⟩, ⟨some 2, some 5⟩, ⟨some 5, none⟩] (fun (g3 : (Option Addr × Nat) × (Option Addr × Nat)) => [BP b1 0, .bool p0.Leaf, .slice g3.1.1 (List.length ([] : (List TEntry))) g3.1.2, BP b1 1, .slice a_0 (List.length p0.L) c_0, .slice g3.2.1 (List.length (([] : (List TEntry)) ++ p0.L)) g3.2.2]) (fun (g3 : (Option Addr × Nat) × (Option Addr × Nat)) => [Box b1 [.bool p0.Leaf, .slice a_0 (List.length p0.L) c_0], OwnS kTEntry g3.1.1 g3.1.2 ([] : (List TEntry)), OwnS kTEntry g3.2.1 g3.2.2 (([] : (List TEntry)) ++ p0.L)]) ((none, 0), (none, 0)) [1] [1, 3] [] ⟨rfl, rfl, trivial⟩ ⟨rfl, trivial⟩ rfl (by kernel_rfl) (fun _ => rfl) (by kernel_rfl) (fun _ => rfl) ⟨?_, ?_, ?_, ?_, ?_, ?_, trivial⟩ fun g3 => ?_
  · exact OpOK.of (fun g3 => [(.tmp 1, BP b1 0)]) _ _ (fun g3 _ => g3) rfl rfl (fun _ => ⟨rfl, trivial⟩) (fun g3 => Pu.toOT (Pu.fieldB fo79_0 rfl)) (fun _ _ => ⟨rfl, rfl, ⟨rfl, rfl, rfl, trivial⟩⟩)
  · exact OpOK.of (fun g3 => [(.tmp 3, BP b1 0)]) _ _ (fun g3 _ => g3) rfl rfl (fun _ => ⟨rfl, trivial⟩) (fun g3 => OT.loadB sc4 rfl) (fun _ _ => ⟨rfl, rfl, ⟨rfl, rfl, rfl, trivial⟩⟩)
  · exact OpOK.of (fun g3 => []) _ _ (fun g3 x => (x, g3.2)) rfl rfl (fun _ => trivial) (fun g3 => OT.buildF (us := []) (ys := ([] : (List TEntry))) (enc := encTEntry) (hl := fun _ => ⟨rfl, rfl⟩) [] sl77.ul sl77.szE sl77.zc rfl rfl rfl rfl rfl) (fun _ _ => ⟨rfl, rfl, ⟨rfl, rfl, rfl, trivial⟩⟩)
  · exact OpOK.of (fun g3 => [(.tmp 1, BP b1 0)]) _ _ (fun g3 _ => g3) rfl rfl (fun _ => ⟨rfl, trivial⟩) (fun g3 => Pu.toOT (Pu.fieldB fo79_1 rfl)) (fun _ _ => ⟨rfl, rfl, ⟨rfl, rfl, rfl, trivial⟩⟩)
  · exact OpOK.of (fun g3 => [(.tmp 6, BP b1 1)]) _ _ (fun g3 _ => g3) rfl rfl (fun _ => ⟨rfl, trivial⟩) (fun g3 => OT.loadB sc77 rfl) (fun _ _ => ⟨rfl, rfl, ⟨rfl, rfl, rfl, trivial⟩⟩)
  · exact OpOK.of (fun g3 => [(.tmp 5, .slice g3.1.1 (List.length ([] : (List TEntry))) g3.1.2), (.tmp 7, .slice a_0 (List.length p0.L) c_0)]) _ _ (fun g3 x => (g3.1, x)) rfl rfl (fun _ => ⟨rfl, rfl, trivial⟩) (fun g3 => OT.appendF (enc := encTEntry) (hl := fun _ => ⟨rfl, rfl⟩) sl77 ul77 hb_0 h8) (fun _ _ => ⟨rfl, rfl, ⟨rfl, rfl, rfl, trivial⟩⟩)
  refine HQ.keep [(2, _), (4, _), (8, _)] ⟨rfl, rfl, rfl, trivial⟩ ?_
  refine HQ.keepR [(1, _), (2, _), (3, _)] ⟨rfl, rfl, rfl, trivial⟩ rfl ?_
  refine HQ.pu (Pu.build (us := [.bool p0.Leaf, .slice g3.2.1 (List.length (([] : (List TEntry)) ++ p0.L)) g3.2.2]) (cs := [.bool p0.Leaf, .slice g3.2.1 (List.length (([] : (List TEntry)) ++ p0.L)) g3.2.2]) [(0, .tmp 4), (1, .tmp 8)] st79 rfl rfl rfl) ⟨rfl, rfl, trivial⟩ rfl rfl rfl ?_
  refine HQ.opN [2] [2] [] (OT.storeC (cs' := [.bool p0.Leaf, .slice g3.2.1 (List.length (([] : (List TEntry)) ++ p0.L)) g3.2.2]) sz79 rfl rfl rfl rfl rfl) ⟨rfl, rfl, trivial⟩ ⟨rfl, trivial⟩ rfl rfl rfl (fun _ => rfl) fun _ => ?_
  refine HQ.done ?_
  refine HQ.keep [(2, _)] ⟨rfl, trivial⟩ ?_
  refine HQ.ret ?_
  obtain rfl := Option.some.inj H
  exact HQ.fin (vs := [_]) Try.results148 (g3.2.1, g3.2.2) ⟨⟨_, _, 2, rfl, rfl, ag79, sz79, rfl⟩, trivial⟩ rfl [3] ⟨rfl, trivial⟩ rfl

/-! spec.l7Copy -/
theorem spec_l7Copy_c {w : World} {k : Nat} {p0 : TBook} {a_0 : Option Addr} {c_0 : Nat} (hb_0 : BorS kTPage a_0 c_0 p0.L w.heap (Lt w Nil)) {r : TBook} (H : spec_l7Copy k p0 = some r) :
    Calls Try.prog 130 #[.agg #[.int .i64 p0.Root, .slice a_0 (List.length p0.L) c_0]] w (Rt w Nil (fun g : Option Addr × Nat => .agg #[.int .i64 r.Root, .slice g.1 (List.length r.L) g.2]) (fun g => [OwnS kTPage g.1 g.2 r.L])) := by
  rw [spec_l7Copy] at H
  refine Calls.enter0 (N := 36) (us := [_]) Try.func130 rfl rfl rfl ?_
  refine HQ.rseq ?_
  refine HQ.op [] [1] (OT.box (cs := [.int .i64 p0.Root, .slice a_0 (List.length p0.L) c_0]) rfl) ⟨rfl, trivial⟩ trivial rfl rfl rfl rfl (fun _ => rfl) fun b1 => ?_
  refine HQ.op [] [2] (OT.alloc zc98) trivial trivial rfl rfl rfl rfl (fun _ => rfl) fun b2 => ?_
  refine HQ.done ?_
  refine HQ.keep [(1, _), (2, _)] ⟨rfl, rfl, trivial⟩ ?_
  refine HQ.rseq ?_
  refine HQ.pu (Pu.fieldB fo98_0 rfl) ⟨rfl, trivial⟩ rfl rfl rfl ?_
  refine HQ.op [1] [1] (OT.loadB sc3 rfl) ⟨rfl, trivial⟩ ⟨rfl, trivial⟩ rfl rfl rfl rfl (fun _ => rfl) fun _ => ?_
  refine HQ.op [] [3] (OT.buildE (K := kTPage) sl96.ul sl96.szE sl96.zc rfl rfl) trivial trivial rfl rfl rfl rfl (fun _ => rfl) fun ⟨a3, c4⟩ => ?_
  refine HQ.pu (Pu.build (us := [.int .i64 p0.Root, .slice a3 (List.length ([] : (List TPage))) c4]) (cs := [.int .i64 p0.Root, .slice a3 (List.length ([] : (List TPage))) c4]) [(0, .tmp 6), (1, .tmp 7)] st98 rfl rfl rfl) ⟨rfl, rfl, trivial⟩ rfl rfl rfl ?_
  refine HQ.op [] [4] (OT.alloc zc98) trivial trivial rfl rfl rfl rfl (fun _ => rfl) fun b5 => ?_
  refine HQ.opN [4] [4] [] (OT.storeC (cs' := [.int .i64 p0.Root, .slice a3 (List.length ([] : (List TPage))) c4]) sz98 rfl rfl rfl rfl rfl) ⟨rfl, rfl, trivial⟩ ⟨rfl, trivial⟩ rfl rfl rfl (fun _ => rfl) fun _ => ?_
  refine HQ.done ?_
  refine HQ.keep [(1, _), (2, _), (3, _)] ⟨rfl, rfl, rfl, trivial⟩ ?_
  refine HQ.seq ?_
  refine HQ.rseq ?_
  refine HQ.pu Pu.assign ⟨rfl, trivial⟩ rfl rfl rfl ?_
  refine HQ.done ?_
  refine HQ.keep [(1, _), (2, _), (3, _), (4, _)] ⟨rfl, rfl, rfl, rfl, trivial⟩ ?_
  refine HQ.block ?_
  obtain ⟨o70, h75, H⟩ := bnd H
  refine HQ.loop h75 0 (fun (s : Int × (List TPage)) (g : Option Addr × Nat) => match s, g with | (i26, l27), (a28, c29) => [(1, BP b1 0), (2, BP b2 0), (3, BP b5 0), (4, .int .i64 i26)]) (fun (s : Int × (List TPage)) (g : Option Addr × Nat) => match s, g with | (i26, l27), (a28, c29) => [(1, Box b1 [.int .i64 p0.Root, .slice a_0 (List.length p0.L) c_0]), (2, Box b2 [.int .i64 0, .slice none 0 0]), (4, Box b5 [.int .i64 p0.Root, .slice a28 (List.length l27) c29]), (3, OwnS kTPage a28 c29 l27)]) (fun _ _ _ => False) (a3, c4) ⟨rfl, rfl, rfl, rfl, trivial⟩ ⟨rfl, rfl, rfl, rfl, trivial⟩ rfl ?_ ?_ ?_
  · clear H h75
    rintro ⟨i26, l27⟩ ⟨a28, c29⟩ o H
    rw [spec_l7Copy_b0] at H
    refine HQ.keep [(1, _), (2, _), (3, _), (4, _)] ⟨rfl, rfl, rfl, rfl, trivial⟩ ?_
    refine HQ.keepR [(1, _), (2, _), (4, _), (3, _)] ⟨rfl, rfl, rfl, rfl, trivial⟩ rfl ?_
    refine HQ.seq ?_
    refine HQ.rseq ?_
    refine HQ.pu Pu.move ⟨rfl, trivial⟩ rfl rfl rfl ?_
    refine HQ.pu (Pu.fieldB fo98_1 rfl) ⟨rfl, trivial⟩ rfl rfl rfl ?_
    refine HQ.op [1] [1] (OT.loadB sc96 rfl) ⟨rfl, trivial⟩ ⟨rfl, trivial⟩ rfl rfl rfl rfl (fun _ => rfl) fun _ => ?_
    refine HQ.pu (Pu.len ul96) ⟨rfl, trivial⟩ rfl rfl rfl ?_
    refine HQ.pu Pu.lss ⟨rfl, rfl, trivial⟩ rfl rfl rfl ?_
    refine HQ.done ?_
    refine HQ.keep [(1, _), (2, _), (3, _), (4, _), (13, _)] ⟨rfl, rfl, rfl, rfl, rfl, trivial⟩ ?_
    rcases brk H with ⟨hc, H⟩ | ⟨hc, H⟩
    · refine HQ.condT rfl hc ?_
      clear hc
      refine HQ.skipThen ?_
      refine HQ.seq ?_
      refine HQ.block ?_
      refine HQ.dStart mixd ?_
      obtain ⟨h51, H⟩ := asr H
      obtain ⟨h56, H⟩ := asr H
      obtain ⟨t61, h62, H⟩ := bnd H
      obtain ⟨⟨a52, c53⟩, hb54, hn55⟩ := BorS.nest hb_0 h51
      obtain ⟨⟨a57, c58⟩, hb59, hn60⟩ := BorS.nest hb_0 h56
      refine HQ.dPart [(1, BP b1 0), (2, BP b2 0), (3, BP b5 0), (4, .int .i64 i26)] 17 [⟨[], [], []⟩, ⟨[0], [0], [0]⟩, ⟨[], [], []⟩, ⟨[1], [1], [2]⟩, ⟨[], [], []⟩, ⟨[], [], [3, 4]⟩, ⟨[], [], [5]⟩, ⟨[], [], [6]⟩, ⟨[], [], []⟩, ⟨[1], [1], [8]⟩, ⟨[], [], []⟩, ⟨[], [], [9, 10]⟩, ⟨[], [], [11]⟩, ⟨[], [], [12]⟩, ⟨[], [2], [13]⟩, ⟨[], [], [7, 14]⟩, ⟨[2], [3], [15]⟩] [⟨none, none⟩, ⟨none, none⟩, ⟨some 14, some 16⟩, ⟨some 16, none⟩] (fun (g50 : (Option Addr × Nat) × (Option Addr × Nat)) => [BP b5 1, .slice a28 (List.length l27) c29, BP b1 1, .slice a_0 (List.length p0.L) c_0, .int .i64 i26, EP a_0 i26 3 0, EP a_0 i26 3 0, .bool ((gt p0.L i26).Used), BP b1 1, .slice a_0 (List.length p0.L) c_0, .int .i64 i26, EP a_0 i26 3 0, EP a_0 i26 3 1, .agg #[.bool ((gt p0.L i26).N.Leaf), .slice a57 (List.length ((gt p0.L i26).N.L)) c58], .agg #[.bool t61.Leaf, .slice g50.1.1 (List.length t61.L) g50.1.2], .agg #[.bool ((gt p0.L i26).Used), .bool t61.Leaf, .slice g50.1.1 (List.length t61.L) g50.1.2], .slice g50.2.1 (List.length ([(⟨(gt p0.L i26).Used, t61⟩ : TPage)] : (List TPage))) g50.2.2]) (fun (g50 : (Option Addr × Nat) × (Option Addr × Nat)) => [Box b5 [.int .i64 p0.Root, .slice a28 (List.length l27) c29], Box b1 [.int .i64 p0.Root, .slice a_0 (List.length p0.L) c_0], OwnS kTEntry g50.1.1 g50.1.2 t61.L, OwnS kTPage g50.2.1 g50.2.2 ([(⟨(gt p0.L i26).Used, t61⟩ : TPage)] : (List TPage))]) ((none, 0), (none, 0)) [4, 1] [4, 1, 10] [] ⟨rfl, rfl, rfl, rfl, trivial⟩ ⟨rfl, rfl, trivial⟩ rfl (by kernel_rfl) (by kernel_rfl) (fun _ => rfl) (by kernel_rfl) (fun _ => rfl) rfl ⟨?_, ?_, ?_, ?_, ?_, ?_, ?_, ?_, ?_, ?_, ?_, ?_, ?_, ?_, ?_, ?_, ?_, trivial⟩ fun g50 => ?_
      · exact OpOK2.of (fun g50 => [(.tmp 3, BP b5 0)]) _ _ (fun g50 _ => g50) rfl rfl (fun _ => ⟨rfl, trivial⟩) (fun g50 => Pu.toOT (Pu.fieldB fo98_1 rfl)) (fun _ _ => ⟨rfl, rfl, ⟨rfl, rfl, rfl, rfl, trivial⟩⟩)
      · exact OpOK2.of (fun g50 => [(.tmp 16, BP b5 1)]) _ _ (fun g50 _ => g50) rfl rfl (fun _ => ⟨rfl, trivial⟩) (fun g50 => OT.loadB sc96 rfl) (fun _ _ => ⟨rfl, rfl, ⟨rfl, rfl, rfl, rfl, trivial⟩⟩)
      · exact OpOK2.of (fun g50 => [(.tmp 1, BP b1 0)]) _ _ (fun g50 _ => g50) rfl rfl (fun _ => ⟨rfl, trivial⟩) (fun g50 => Pu.toOT (Pu.fieldB fo98_1 rfl)) (fun _ _ => ⟨rfl, rfl, ⟨rfl, rfl, rfl, rfl, trivial⟩⟩)
      · exact OpOK2.of (fun g50 => [(.tmp 18, BP b1 1)]) _ _ (fun g50 _ => g50) rfl rfl (fun _ => ⟨rfl, trivial⟩) (fun g50 => OT.loadB sc96 rfl) (fun _ _ => ⟨rfl, rfl, ⟨rfl, rfl, rfl, rfl, trivial⟩⟩)
      · exact OpOK2.of (fun g50 => [(.tmp 4, .int .i64 i26)]) _ _ (fun g50 _ => g50) rfl rfl (fun _ => ⟨rfl, trivial⟩) (fun g50 => Pu.toOT Pu.move) (fun _ _ => ⟨rfl, rfl, ⟨rfl, rfl, rfl, rfl, trivial⟩⟩)
      · exact OpOK2.of (fun g50 => [(.tmp 19, .slice a_0 (List.length p0.L) c_0), (.tmp 20, .int .i64 i26)]) _ _ (fun g50 _ => g50) rfl rfl (fun _ => ⟨rfl, rfl, trivial⟩) (fun g50 => OT.indexB ul96 sz204 hb_0 h51) (fun _ _ => ⟨rfl, rfl, ⟨rfl, rfl, rfl, rfl, trivial⟩⟩)
      · exact OpOK2.of (fun g50 => [(.tmp 21, EP a_0 i26 3 0)]) _ _ (fun g50 _ => g50) rfl rfl (fun _ => ⟨rfl, trivial⟩) (fun g50 => Pu.toOT (Pu.fieldE fo204_0 rfl)) (fun _ _ => ⟨rfl, rfl, ⟨rfl, rfl, rfl, rfl, trivial⟩⟩)
      · exact OpOK2.of (fun g50 => [(.tmp 22, EP a_0 i26 3 0)]) _ _ (fun g50 _ => g50) rfl rfl (fun _ => ⟨rfl, trivial⟩) (fun g50 => OT.loadN (v := .bool ((gt p0.L i26).Used)) sc4 hn55 hlTPage rfl) (fun _ _ => ⟨rfl, rfl, ⟨rfl, rfl, rfl, rfl, trivial⟩⟩)
      · exact OpOK2.of (fun g50 => [(.tmp 1, BP b1 0)]) _ _ (fun g50 _ => g50) rfl rfl (fun _ => ⟨rfl, trivial⟩) (fun g50 => Pu.toOT (Pu.fieldB fo98_1 rfl)) (fun _ _ => ⟨rfl, rfl, ⟨rfl, rfl, rfl, rfl, trivial⟩⟩)
      · exact OpOK2.of (fun g50 => [(.tmp 24, BP b1 1)]) _ _ (fun g50 _ => g50) rfl rfl (fun _ => ⟨rfl, trivial⟩) (fun g50 => OT.loadB sc96 rfl) (fun _ _ => ⟨rfl, rfl, ⟨rfl, rfl, rfl, rfl, trivial⟩⟩)
      · exact OpOK2.of (fun g50 => [(.tmp 4, .int .i64 i26)]) _ _ (fun g50 _ => g50) rfl rfl (fun _ => ⟨rfl, trivial⟩) (fun g50 => Pu.toOT Pu.move) (fun _ _ => ⟨rfl, rfl, ⟨rfl, rfl, rfl, rfl, trivial⟩⟩)
      · exact OpOK2.of (fun g50 => [(.tmp 25, .slice a_0 (List.length p0.L) c_0), (.tmp 26, .int .i64 i26)]) _ _ (fun g50 _ => g50) rfl rfl (fun _ => ⟨rfl, rfl, trivial⟩) (fun g50 => OT.indexB ul96 sz204 hb_0 h56) (fun _ _ => ⟨rfl, rfl, ⟨rfl, rfl, rfl, rfl, trivial⟩⟩)
      · exact OpOK2.of (fun g50 => [(.tmp 27, EP a_0 i26 3 0)]) _ _ (fun g50 _ => g50) rfl rfl (fun _ => ⟨rfl, trivial⟩) (fun g50 => Pu.toOT (Pu.fieldE fo204_1 rfl)) (fun _ _ => ⟨rfl, rfl, ⟨rfl, rfl, rfl, rfl, trivial⟩⟩)
      · exact OpOK2.of (fun g50 => [(.tmp 28, EP a_0 i26 3 1)]) _ _ (fun g50 _ => g50) rfl rfl (fun _ => ⟨rfl, trivial⟩) (fun g50 => OT.loadNA (vs := [.bool ((gt p0.L i26).N.Leaf), .slice a57 (List.length ((gt p0.L i26).N.L)) c58]) ag79 sz79 hn60 hlTPage rfl rfl) (fun _ _ => ⟨rfl, rfl, ⟨rfl, rfl, rfl, rfl, trivial⟩⟩)
      · exact OpOK2.ofD [15] (by kernel_rfl) (fun g50 => [(.func 148, .func (.func 148) #[] #[]), (.tmp 29, .agg #[.bool ((gt p0.L i26).N.Leaf), .slice a57 (List.length ((gt p0.L i26).N.L)) c58])]) _ _ (fun g50 x => (x, g50.2)) rfl rfl (fun _ => ⟨rfl, rfl, trivial⟩) (fun g50 => OT.call (us := [_]) (Pre := []) [.tmp 29] Try.call148 rfl rfl fun w F hs hF hp => spec_l5Copy_c (hb59.pass hp) h62) (fun _ _ => ⟨⟨rfl, rfl, rfl, rfl, rfl, rfl, rfl, rfl, rfl, rfl, rfl, rfl, rfl, rfl, rfl, trivial, rfl, trivial⟩, rfl, ⟨rfl, rfl, rfl, rfl, trivial⟩⟩)
      · exact OpOK2.of (fun g50 => [(.tmp 23, .bool ((gt p0.L i26).Used)), (.tmp 30, .agg #[.bool t61.Leaf, .slice g50.1.1 (List.length t61.L) g50.1.2])]) _ _ (fun g50 _ => g50) rfl rfl (fun _ => ⟨rfl, rfl, trivial⟩) (fun g50 => Pu.toOT (Pu.build (us := [.bool ((gt p0.L i26).Used), .agg #[.bool t61.Leaf, .slice g50.1.1 (List.length t61.L) g50.1.2]]) (cs := [.bool ((gt p0.L i26).Used), .bool t61.Leaf, .slice g50.1.1 (List.length t61.L) g50.1.2]) [(0, .tmp 23), (1, .tmp 30)] st204 rfl rfl rfl)) (fun _ _ => ⟨rfl, rfl, ⟨rfl, rfl, rfl, rfl, trivial⟩⟩)
      · exact OpOK2.of (fun g50 => [(.tmp 31, .agg #[.bool ((gt p0.L i26).Used), .bool t61.Leaf, .slice g50.1.1 (List.length t61.L) g50.1.2])]) _ _ (fun g50 x => (g50.1, x)) rfl rfl (fun _ => ⟨rfl, trivial⟩) (fun g50 => OT.buildO (u := .agg #[.bool ((gt p0.L i26).Used), .bool t61.Leaf, .slice g50.1.1 (List.length t61.L) g50.1.2]) (enc := encTPage) (hl := hlTPage) (sub := fun (x : TPage) => x.N.L) (.tmp 31) (⟨(gt p0.L i26).Used, t61⟩ : TPage) sl96.ul sl96.szE sl96.zc rfl rfl rfl rfl) (fun _ _ => ⟨rfl, rfl, ⟨rfl, rfl, rfl, rfl, trivial⟩⟩)
      refine HQ.keep [(1, _), (2, _), (3, _), (4, _), (17, _), (32, _)] ⟨rfl, rfl, rfl, rfl, rfl, rfl, trivial⟩ ?_
      refine HQ.keepR [(1, _), (2, _), (4, _), (3, _), (10, _)] ⟨rfl, rfl, rfl, rfl, rfl, trivial⟩ rfl ?_
      refine HQ.dRun 3 rfl rfl (by kernel_rfl) (by kernel_rfl) ?_
      obtain ⟨h69, H⟩ := asr H
      refine HQ.opD [3, 10] [3] [10] (OT.appendO (K := kTPage) sl96 ul96 h69) ⟨rfl, rfl, trivial⟩ ⟨rfl, rfl, trivial⟩ rfl rfl rfl rfl (fun _ => rfl) fun ⟨a67, c68⟩ => ?_
      refine HQ.pu (Pu.fieldB fo98_1 rfl) ⟨rfl, trivial⟩ rfl rfl rfl ?_
      refine HQ.opN [4] [4] [] (OT.storeC (cs' := [.int .i64 p0.Root, .slice a67 (List.length (l27 ++ ([(⟨(gt p0.L i26).Used, t61⟩ : TPage)] : (List TPage)))) c68]) sz96 rfl rfl rfl rfl rfl) ⟨rfl, rfl, trivial⟩ ⟨rfl, trivial⟩ rfl rfl rfl (fun _ => rfl) fun _ => ?_
      refine HQ.done ?_
      refine HQ.dEnd rfl ?_
      refine HQ.keep [(1, _), (2, _), (3, _), (4, _)] ⟨rfl, rfl, rfl, rfl, trivial⟩ ?_
      refine HQ.blkN ?_
      refine HQ.thenN ?_
      refine HQ.regionQ ?_
      refine HQ.pu Pu.move ⟨rfl, trivial⟩ rfl rfl rfl ?_
      refine HQ.pu Pu.add ⟨rfl, rfl, trivial⟩ rfl rfl rfl ?_
      refine HQ.pu Pu.assign ⟨rfl, trivial⟩ rfl rfl rfl ?_
      refine HQ.done ?_
      refine HQ.keep [(1, _), (2, _), (3, _), (4, _)] ⟨rfl, rfl, rfl, rfl, trivial⟩ ?_
      obtain rfl := Option.some.inj H
      exact HQ.next (a67, c68) ⟨rfl, rfl, rfl, rfl, trivial⟩ ⟨rfl, rfl, rfl, rfl, trivial⟩ rfl
    · refine HQ.condF rfl hc ?_
      clear hc
      refine HQ.exit ?_
      refine HQ.thenE ?_
      obtain rfl := Option.some.inj H
      exact HQ.out (a28, c29) ⟨rfl, rfl, rfl, rfl, trivial⟩ ⟨rfl, rfl, rfl, rfl, trivial⟩ rfl
  · rintro ⟨i71, l72⟩ rfl ⟨a73, c74⟩
    clear h75
    replace H := H
    refine HQ.keep [(1, _), (2, _), (3, _), (4, _)] ⟨rfl, rfl, rfl, rfl, trivial⟩ ?_
    refine HQ.keepR [(1, _), (2, _), (4, _), (3, _)] ⟨rfl, rfl, rfl, rfl, trivial⟩ rfl ?_
    refine HQ.blkE ?_
    refine HQ.thenN ?_
    refine HQ.rseq ?_
    refine HQ.op [4] [4] (OT.loadBA (vs := [.int .i64 p0.Root, .slice a73 (List.length l72) c74]) ag98 sz98 rfl rfl) ⟨rfl, trivial⟩ ⟨rfl, trivial⟩ rfl rfl rfl rfl (fun _ => rfl) fun _ => ?_
    refine HQ.opN [2] [2] [] (OT.storeC (cs' := [.int .i64 p0.Root, .slice a73 (List.length l72) c74]) sz98 rfl rfl rfl rfl rfl) ⟨rfl, rfl, trivial⟩ ⟨rfl, trivial⟩ rfl rfl rfl (fun _ => rfl) fun _ => ?_
    refine HQ.done ?_
    refine HQ.keep [(2, _)] ⟨rfl, trivial⟩ ?_
    refine HQ.ret ?_
    obtain rfl := Option.some.inj H
    exact HQ.fin (vs := [_]) Try.results130 (a73, c74) ⟨⟨_, _, 2, rfl, rfl, ag98, sz98, rfl⟩, trivial⟩ rfl [3] ⟨rfl, trivial⟩ rfl
  · exact fun r h a w hf => hf.elim

/-! spec.Free -/
theorem spec_Free_c {w : World} {k : Nat} {p0 : TBook} {p1 : (List Int)} {a_0 : Option Addr} {c_0 : Nat} {a_1 : Option Addr} {c_1 : Nat} (hb_0 : BorS kTPage a_0 c_0 p0.L w.heap (Lt w Nil)) (hb_1 : BorS kI a_1 c_1 p1 w.heap (Lt w Nil)) {r : TBook} (H : spec_Free k p0 p1 = some r) :
    Calls Try.prog 131 #[.agg #[.int .i64 p0.Root, .slice a_0 (List.length p0.L) c_0], .slice a_1 (List.length p1) c_1] w (Rt w Nil (fun g : Option Addr × Nat => .agg #[.int .i64 r.Root, .slice g.1 (List.length r.L) g.2]) (fun g => [OwnS kTPage g.1 g.2 r.L])) := by
  rw [spec_Free] at H
  refine Calls.enter0 (N := 33) (us := [_, _]) Try.func131 rfl rfl rfl ?_
  refine HQ.rseq ?_
  refine HQ.op [] [1] (OT.box (cs := [.int .i64 p0.Root, .slice a_0 (List.length p0.L) c_0]) rfl) ⟨rfl, trivial⟩ trivial rfl rfl rfl rfl (fun _ => rfl) fun b1 => ?_
  refine HQ.op [] [2] (OT.alloc zc98) trivial trivial rfl rfl rfl rfl (fun _ => rfl) fun b2 => ?_
  refine HQ.done ?_
  refine HQ.keep [(1, _), (2, _), (4, _)] ⟨rfl, rfl, rfl, trivial⟩ ?_
  refine HQ.rseq ?_
  refine HQ.op [1] [1] (OT.loadBA (vs := [.int .i64 p0.Root, .slice a_0 (List.length p0.L) c_0]) ag98 sz98 rfl rfl) ⟨rfl, trivial⟩ ⟨rfl, trivial⟩ rfl rfl rfl rfl (fun _ => rfl) fun _ => ?_
  obtain ⟨t3, h4, H⟩ := bnd H
  refine HQ.op [] [3] (OT.call (us := [_]) (Pre := []) [.tmp 7] Try.call130 rfl rfl fun w F hs hF hp => spec_l7Copy_c (hb_0.pass hp) h4) ⟨rfl, rfl, trivial⟩ trivial rfl rfl rfl rfl (fun _ => rfl) fun ⟨a5, c6⟩ => ?_
  refine HQ.op [] [4] (OT.alloc zc98) trivial trivial rfl rfl rfl rfl (fun _ => rfl) fun b7 => ?_
  refine HQ.opN [4] [4] [] (OT.storeC (cs' := [.int .i64 t3.Root, .slice a5 (List.length t3.L) c6]) sz98 rfl rfl rfl rfl rfl) ⟨rfl, rfl, trivial⟩ ⟨rfl, trivial⟩ rfl rfl rfl (fun _ => rfl) fun _ => ?_
  refine HQ.done ?_
  refine HQ.keep [(1, _), (2, _), (4, _), (5, _)] ⟨rfl, rfl, rfl, rfl, trivial⟩ ?_
  refine HQ.seq ?_
  refine HQ.rseq ?_
  refine HQ.pu Pu.assign ⟨rfl, trivial⟩ rfl rfl rfl ?_
  refine HQ.done ?_
  refine HQ.keep [(1, _), (2, _), (4, _), (5, _), (6, _)] ⟨rfl, rfl, rfl, rfl, rfl, trivial⟩ ?_
  refine HQ.block ?_
  obtain ⟨o40, h43, H⟩ := bnd H
  refine HQ.loop h43 0 (fun (s : Int × (List TPage)) (g : Unit) => match s, g with | (i18, l19), () => [(1, .slice a_1 (List.length p1) c_1), (2, BP b1 0), (4, BP b2 0), (5, BP b7 0), (6, .int .i64 i18)]) (fun (s : Int × (List TPage)) (g : Unit) => match s, g with | (i18, l19), () => [(1, Box b1 [.int .i64 p0.Root, .slice a_0 (List.length p0.L) c_0]), (2, Box b2 [.int .i64 0, .slice none 0 0]), (4, Box b7 [.int .i64 t3.Root, .slice a5 (List.length l19) c6]), (3, OwnS kTPage a5 c6 l19)]) (fun _ _ _ => False) () ⟨rfl, rfl, rfl, rfl, rfl, trivial⟩ ⟨rfl, rfl, rfl, rfl, trivial⟩ rfl ?_ ?_ ?_
  · clear H h43
    rintro ⟨i18, l19⟩ _ o H
    rw [spec_Free_b0] at H
    refine HQ.keep [(1, _), (2, _), (4, _), (5, _), (6, _)] ⟨rfl, rfl, rfl, rfl, rfl, trivial⟩ ?_
    refine HQ.keepR [(1, _), (2, _), (4, _), (3, _)] ⟨rfl, rfl, rfl, rfl, trivial⟩ rfl ?_
    refine HQ.seq ?_
    refine HQ.rseq ?_
    refine HQ.pu Pu.move ⟨rfl, trivial⟩ rfl rfl rfl ?_
    refine HQ.pu Pu.move ⟨rfl, trivial⟩ rfl rfl rfl ?_
    refine HQ.pu (Pu.len ul24) ⟨rfl, trivial⟩ rfl rfl rfl ?_
    refine HQ.pu Pu.lss ⟨rfl, rfl, trivial⟩ rfl rfl rfl ?_
    refine HQ.done ?_
    refine HQ.keep [(1, _), (2, _), (4, _), (5, _), (6, _), (12, _)] ⟨rfl, rfl, rfl, rfl, rfl, rfl, trivial⟩ ?_
    rcases brk H with ⟨hc, H⟩ | ⟨hc, H⟩
    · refine HQ.condT rfl hc ?_
      clear hc
      refine HQ.skipThen ?_
      refine HQ.seq ?_
      refine HQ.block ?_
      obtain ⟨h31, H⟩ := asr H
      refine HQ.drawS mixd [(1, .slice a_1 (List.length p1) c_1), (2, BP b1 0), (4, BP b2 0), (5, BP b7 0), (6, .int .i64 i18)] 8 [⟨[], [], []⟩, ⟨[], [], []⟩, ⟨[], [], [0, 1]⟩, ⟨[], [], [2]⟩, ⟨[], [], []⟩, ⟨[0], [0], [4]⟩, ⟨[], [], [5]⟩, ⟨[], [], [6]⟩] [⟨none, none⟩] (fun (g30 : Unit) => [.slice a_1 (List.length p1) c_1, .int .i64 i18, EP a_1 i18 1 0, .int .i64 (gt p1 i18), BP b1 1, .slice a_0 (List.length p0.L) c_0, .int .i64 ((List.length p0.L : Nat) : Int), .int .i64 (wrap64 (((List.length p0.L : Nat) : Int) - 1))]) (fun (g30 : Unit) => [Box b1 [.int .i64 p0.Root, .slice a_0 (List.length p0.L) c_0]]) () [1] [1] [] ⟨rfl, rfl, rfl, rfl, rfl, trivial⟩ ⟨rfl, trivial⟩ rfl (by kernel_rfl) (fun _ => rfl) (by kernel_rfl) (fun _ => rfl) ⟨?_, ?_, ?_, ?_, ?_, ?_, ?_, ?_, trivial⟩ fun g30 => ?_
      · exact OpOK.of (fun g30 => [(.tmp 1, .slice a_1 (List.length p1) c_1)]) _ _ (fun g30 _ => g30) rfl rfl (fun _ => ⟨rfl, trivial⟩) (fun g30 => Pu.toOT Pu.move) (fun _ _ => ⟨rfl, rfl, ⟨rfl, trivial⟩⟩)
      · exact OpOK.of (fun g30 => [(.tmp 6, .int .i64 i18)]) _ _ (fun g30 _ => g30) rfl rfl (fun _ => ⟨rfl, trivial⟩) (fun g30 => Pu.toOT Pu.move) (fun _ _ => ⟨rfl, rfl, ⟨rfl, trivial⟩⟩)
      · exact OpOK.of (fun g30 => [(.tmp 15, .slice a_1 (List.length p1) c_1), (.tmp 16, .int .i64 i18)]) _ _ (fun g30 _ => g30) rfl rfl (fun _ => ⟨rfl, rfl, trivial⟩) (fun g30 => OT.indexB ul24 sz3 hb_1 h31) (fun _ _ => ⟨rfl, rfl, ⟨rfl, trivial⟩⟩)
      · exact OpOK.of (fun g30 => [(.tmp 17, EP a_1 i18 1 0)]) _ _ (fun g30 _ => g30) rfl rfl (fun _ => ⟨rfl, trivial⟩) (fun g30 => OT.loadF sc3 hb_1 h31 rfl) (fun _ _ => ⟨rfl, rfl, ⟨rfl, trivial⟩⟩)
      · exact OpOK.of (fun g30 => [(.tmp 2, BP b1 0)]) _ _ (fun g30 _ => g30) rfl rfl (fun _ => ⟨rfl, trivial⟩) (fun g30 => Pu.toOT (Pu.fieldB fo98_1 rfl)) (fun _ _ => ⟨rfl, rfl, ⟨rfl, trivial⟩⟩)
      · exact OpOK.of (fun g30 => [(.tmp 19, BP b1 1)]) _ _ (fun g30 _ => g30) rfl rfl (fun _ => ⟨rfl, trivial⟩) (fun g30 => OT.loadB sc96 rfl) (fun _ _ => ⟨rfl, rfl, ⟨rfl, trivial⟩⟩)
      · exact OpOK.of (fun g30 => [(.tmp 20, .slice a_0 (List.length p0.L) c_0)]) _ _ (fun g30 _ => g30) rfl rfl (fun _ => ⟨rfl, trivial⟩) (fun g30 => Pu.toOT (Pu.len ul96)) (fun _ _ => ⟨rfl, rfl, ⟨rfl, trivial⟩⟩)
      · exact OpOK.of (fun g30 => [(.tmp 21, .int .i64 ((List.length p0.L : Nat) : Int)), (.const (.int .i64 1), .int .i64 1)]) _ _ (fun g30 _ => g30) rfl rfl (fun _ => ⟨rfl, rfl, trivial⟩) (fun g30 => Pu.toOT Pu.sub) (fun _ _ => ⟨rfl, rfl, ⟨rfl, trivial⟩⟩)
      refine HQ.keep [(1, _), (2, _), (4, _), (5, _), (6, _), (18, _), (22, _)] ⟨rfl, rfl, rfl, rfl, rfl, rfl, rfl, trivial⟩ ?_
      refine HQ.keepR [(1, _), (2, _), (4, _), (3, _)] ⟨rfl, rfl, rfl, rfl, trivial⟩ rfl ?_
      obtain ⟨t32, h33, H⟩ := bnd H
      refine HQ.op [] [] (OT.call (us := [_, _, _]) (Pre := []) [.tmp 18, .const (.int .i64 0), .tmp 22] Try.call85 rfl rfl fun w F hs hF hp => spec_l1In_c h33) ⟨rfl, rfl, rfl, rfl, trivial⟩ trivial rfl rfl rfl rfl (fun _ => rfl) fun _ => ?_
      refine HQ.done ?_
      refine HQ.keep [(1, _), (2, _), (4, _), (5, _), (6, _), (23, _)] ⟨rfl, rfl, rfl, rfl, rfl, rfl, trivial⟩ ?_
      rcases brk H with ⟨hc, H⟩ | ⟨hc, H⟩
      · refine HQ.condT rfl hc ?_
        clear hc
        obtain ⟨h35, H⟩ := asr H
        refine HQ.draw mixd [(1, .slice a_1 (List.length p1) c_1), (2, BP b1 0), (4, BP b2 0), (5, BP b7 0), (6, .int .i64 i18)] 7 [⟨[], [], []⟩, ⟨[0], [0], [0]⟩, ⟨[], [], []⟩, ⟨[], [], []⟩, ⟨[], [], [2, 3]⟩, ⟨[], [], [4]⟩, ⟨[], [], []⟩] [⟨none, none⟩] (fun (g34 : Unit) => [BP b7 1, .slice a5 (List.length l19) c6, .slice a_1 (List.length p1) c_1, .int .i64 i18, EP a_1 i18 1 0, .int .i64 (gt p1 i18), .agg #[.bool false, .bool false, .slice none 0 0]]) (fun (g34 : Unit) => [Box b7 [.int .i64 t3.Root, .slice a5 (List.length l19) c6]]) () [4] [4] [] ⟨rfl, rfl, rfl, rfl, rfl, trivial⟩ ⟨rfl, trivial⟩ rfl (by kernel_rfl) (fun _ => rfl) (by kernel_rfl) (fun _ => rfl) ⟨?_, ?_, ?_, ?_, ?_, ?_, ?_, trivial⟩ fun g34 => ?_
        · exact OpOK.of (fun g34 => [(.tmp 5, BP b7 0)]) _ _ (fun g34 _ => g34) rfl rfl (fun _ => ⟨rfl, trivial⟩) (fun g34 => Pu.toOT (Pu.fieldB fo98_1 rfl)) (fun _ _ => ⟨rfl, rfl, ⟨rfl, trivial⟩⟩)
        · exact OpOK.of (fun g34 => [(.tmp 24, BP b7 1)]) _ _ (fun g34 _ => g34) rfl rfl (fun _ => ⟨rfl, trivial⟩) (fun g34 => OT.loadB sc96 rfl) (fun _ _ => ⟨rfl, rfl, ⟨rfl, trivial⟩⟩)
        · exact OpOK.of (fun g34 => [(.tmp 1, .slice a_1 (List.length p1) c_1)]) _ _ (fun g34 _ => g34) rfl rfl (fun _ => ⟨rfl, trivial⟩) (fun g34 => Pu.toOT Pu.move) (fun _ _ => ⟨rfl, rfl, ⟨rfl, trivial⟩⟩)
        · exact OpOK.of (fun g34 => [(.tmp 6, .int .i64 i18)]) _ _ (fun g34 _ => g34) rfl rfl (fun _ => ⟨rfl, trivial⟩) (fun g34 => Pu.toOT Pu.move) (fun _ _ => ⟨rfl, rfl, ⟨rfl, trivial⟩⟩)
        · exact OpOK.of (fun g34 => [(.tmp 26, .slice a_1 (List.length p1) c_1), (.tmp 27, .int .i64 i18)]) _ _ (fun g34 _ => g34) rfl rfl (fun _ => ⟨rfl, rfl, trivial⟩) (fun g34 => OT.indexB ul24 sz3 hb_1 h35) (fun _ _ => ⟨rfl, rfl, ⟨rfl, trivial⟩⟩)
        · exact OpOK.of (fun g34 => [(.tmp 28, EP a_1 i18 1 0)]) _ _ (fun g34 _ => g34) rfl rfl (fun _ => ⟨rfl, trivial⟩) (fun g34 => OT.loadF sc3 hb_1 h35 rfl) (fun _ _ => ⟨rfl, rfl, ⟨rfl, trivial⟩⟩)
        · exact OpOK.of (fun g34 => []) _ _ (fun g34 _ => g34) rfl rfl (fun _ => trivial) (fun g34 => Pu.toOT (Pu.build (us := []) (cs := [.bool false, .bool false, .slice none 0 0]) [] st204 rfl rfl rfl)) (fun _ _ => ⟨rfl, rfl, ⟨rfl, trivial⟩⟩)
        refine HQ.keep [(1, _), (2, _), (4, _), (5, _), (6, _), (25, _), (29, _), (30, _)] ⟨rfl, rfl, rfl, rfl, rfl, rfl, rfl, rfl, trivial⟩ ?_
        refine HQ.keepR [(1, _), (2, _), (4, _), (3, _)] ⟨rfl, rfl, rfl, rfl, trivial⟩ rfl ?_
        obtain ⟨h36, H⟩ := asr H
        refine HQ.op [3] [3] (OT.indexO ul96 sz204 h36) ⟨rfl, rfl, trivial⟩ ⟨rfl, trivial⟩ rfl rfl rfl rfl (fun _ => rfl) fun _ => ?_
        refine HQ.nil kTEntry 7 rfl ?_
        refine HQ.opN [3, 7] [3] [7] (OT.storeW (⟨false, (⟨false, ([] : (List TEntry))⟩ : TNode)⟩ : TPage) sz204 rfl rfl rfl h36 rfl (fun _ => rfl) rfl) ⟨rfl, rfl, trivial⟩ ⟨rfl, rfl, trivial⟩ rfl rfl rfl (fun _ => rfl) fun _ => ?_
        obtain ⟨l37, h38, H⟩ := bnd H
        replace h38 := Option.some.inj h38
        refine HQ.reR (B := OwnS kTPage a5 c6 l37) 3 rfl (by intro _ _ hb; rw [← h38]; exact hb) ?_
        have h39 : List.length l37 = List.length l19 := by rw [← h38, List.length_set]
        refine HQ.re (v' := .slice a5 (List.length l37) c6) 25 rfl (by simp [h39]) ?_
        refine HQ.reR (B := Box b7 [.int .i64 t3.Root, .slice a5 (List.length l37) c6]) 4 rfl (fun _ _ hb => by rw [show List.length l37 = List.length l19 from (by simp [h39])]; exact hb) ?_
        refine HQ.done ?_
        refine HQ.keep [(1, _), (2, _), (4, _), (5, _), (6, _)] ⟨rfl, rfl, rfl, rfl, rfl, trivial⟩ ?_
        refine HQ.blkN ?_
        refine HQ.thenN ?_
        refine HQ.regionQ ?_
        refine HQ.pu Pu.move ⟨rfl, trivial⟩ rfl rfl rfl ?_
        refine HQ.pu Pu.add ⟨rfl, rfl, trivial⟩ rfl rfl rfl ?_
        refine HQ.pu Pu.assign ⟨rfl, trivial⟩ rfl rfl rfl ?_
        refine HQ.done ?_
        refine HQ.keep [(1, _), (2, _), (4, _), (5, _), (6, _)] ⟨rfl, rfl, rfl, rfl, rfl, trivial⟩ ?_
        obtain rfl := Option.some.inj H
        exact HQ.next () ⟨rfl, rfl, rfl, rfl, rfl, trivial⟩ ⟨rfl, rfl, rfl, rfl, trivial⟩ rfl
      · refine HQ.condF rfl hc ?_
        clear hc
        refine HQ.skip ?_
        refine HQ.blkN ?_
        refine HQ.thenN ?_
        refine HQ.regionQ ?_
        refine HQ.pu Pu.move ⟨rfl, trivial⟩ rfl rfl rfl ?_
        refine HQ.pu Pu.add ⟨rfl, rfl, trivial⟩ rfl rfl rfl ?_
        refine HQ.pu Pu.assign ⟨rfl, trivial⟩ rfl rfl rfl ?_
        refine HQ.done ?_
        refine HQ.keep [(1, _), (2, _), (4, _), (5, _), (6, _)] ⟨rfl, rfl, rfl, rfl, rfl, trivial⟩ ?_
        obtain rfl := Option.some.inj H
        exact HQ.next () ⟨rfl, rfl, rfl, rfl, rfl, trivial⟩ ⟨rfl, rfl, rfl, rfl, trivial⟩ rfl
    · refine HQ.condF rfl hc ?_
      clear hc
      refine HQ.exit ?_
      refine HQ.thenE ?_
      obtain rfl := Option.some.inj H
      exact HQ.out () ⟨rfl, rfl, rfl, rfl, rfl, trivial⟩ ⟨rfl, rfl, rfl, rfl, trivial⟩ rfl
  · rintro ⟨i41, l42⟩ rfl _
    clear h43
    replace H := H
    refine HQ.keep [(1, _), (2, _), (4, _), (5, _), (6, _)] ⟨rfl, rfl, rfl, rfl, rfl, trivial⟩ ?_
    refine HQ.keepR [(1, _), (2, _), (4, _), (3, _)] ⟨rfl, rfl, rfl, rfl, trivial⟩ rfl ?_
    refine HQ.blkE ?_
    refine HQ.thenN ?_
    refine HQ.rseq ?_
    refine HQ.op [4] [4] (OT.loadBA (vs := [.int .i64 t3.Root, .slice a5 (List.length l42) c6]) ag98 sz98 rfl rfl) ⟨rfl, trivial⟩ ⟨rfl, trivial⟩ rfl rfl rfl rfl (fun _ => rfl) fun _ => ?_
    refine HQ.opN [2] [2] [] (OT.storeC (cs' := [.int .i64 t3.Root, .slice a5 (List.length l42) c6]) sz98 rfl rfl rfl rfl rfl) ⟨rfl, rfl, trivial⟩ ⟨rfl, trivial⟩ rfl rfl rfl (fun _ => rfl) fun _ => ?_
    refine HQ.done ?_
    refine HQ.keep [(4, _)] ⟨rfl, trivial⟩ ?_
    refine HQ.ret ?_
    obtain rfl := Option.some.inj H
    exact HQ.fin (vs := [_]) Try.results131 (a5, c6) ⟨⟨_, _, 2, rfl, rfl, ag98, sz98, rfl⟩, trivial⟩ rfl [3] ⟨rfl, trivial⟩ rfl
  · exact fun r h a w hf => hf.elim

/-! spec.VacDrop -/
theorem spec_VacDrop_c {w : World} {k : Nat} {p0 : TBook} {p1 : TVac} {a_0 : Option Addr} {c_0 : Nat} {a_1 : Option Addr} {c_1 : Nat} {a_2 : Option Addr} {c_2 : Nat} {a_3 : Option Addr} {c_3 : Nat} {a_4 : Option Addr} {c_4 : Nat} {a_5 : Option Addr} {c_5 : Nat} (hb_0 : BorS kTPage a_0 c_0 p0.L w.heap (Lt w Nil)) (hb_5 : BorS kI a_5 c_5 p1.Made w.heap (Lt w Nil)) {r : TBook} (H : spec_VacDrop k p0 p1 = some r) :
    Calls Try.prog 59 #[.agg #[.int .i64 p0.Root, .slice a_0 (List.length p0.L) c_0], .agg #[.int .i64 p1.Phase, .slice a_1 (List.length p1.Todo) c_1, .slice a_2 (List.length p1.Run) c_2, .slice a_3 (List.length p1.Row) c_3, .slice a_4 (List.length p1.Next) c_4, .slice a_5 (List.length p1.Made) c_5]] w (Rt w Nil (fun g : Option Addr × Nat => .agg #[.int .i64 r.Root, .slice g.1 (List.length r.L) g.2]) (fun g => [OwnS kTPage g.1 g.2 r.L])) := by
  rw [spec_VacDrop] at H
  refine Calls.enter0 (N := 15) (us := [_, _]) Try.func59 rfl rfl rfl ?_
  refine HQ.rseq ?_
  refine HQ.op [] [1] (OT.box (cs := [.int .i64 p0.Root, .slice a_0 (List.length p0.L) c_0]) rfl) ⟨rfl, trivial⟩ trivial rfl rfl rfl rfl (fun _ => rfl) fun b1 => ?_
  refine HQ.op [] [2] (OT.box (cs := [.int .i64 p1.Phase, .slice a_1 (List.length p1.Todo) c_1, .slice a_2 (List.length p1.Run) c_2, .slice a_3 (List.length p1.Row) c_3, .slice a_4 (List.length p1.Next) c_4, .slice a_5 (List.length p1.Made) c_5]) rfl) ⟨rfl, trivial⟩ trivial rfl rfl rfl rfl (fun _ => rfl) fun b2 => ?_
  refine HQ.op [] [3] (OT.alloc zc98) trivial trivial rfl rfl rfl rfl (fun _ => rfl) fun b3 => ?_
  refine HQ.done ?_
  refine HQ.keep [(2, _), (3, _), (4, _)] ⟨rfl, rfl, rfl, trivial⟩ ?_
  refine HQ.seq ?_
  refine HQ.rseq ?_
  refine HQ.pu (Pu.fieldB fo103_0 rfl) ⟨rfl, trivial⟩ rfl rfl rfl ?_
  refine HQ.op [2] [2] (OT.loadB sc3 rfl) ⟨rfl, trivial⟩ ⟨rfl, trivial⟩ rfl rfl rfl rfl (fun _ => rfl) fun _ => ?_
  obtain ⟨t4, h5, H⟩ := bnd H
  refine HQ.op [] [] (OT.call (us := [_, _, _]) (Pre := []) [.tmp 6, .const (.int .i64 1), .const (.int .i64 4)] Try.call85 rfl rfl fun w F hs hF hp => spec_l1In_c h5) ⟨rfl, rfl, rfl, rfl, trivial⟩ trivial rfl rfl rfl rfl (fun _ => rfl) fun _ => ?_
  refine HQ.pu Pu.not ⟨rfl, trivial⟩ rfl rfl rfl ?_
  refine HQ.done ?_
  refine HQ.keep [(2, _), (3, _), (4, _), (8, _)] ⟨rfl, rfl, rfl, rfl, trivial⟩ ?_
  rcases brk H with ⟨hc, H⟩ | ⟨hc, H⟩
  · refine HQ.condT rfl hc ?_
    clear hc
    refine HQ.rseq ?_
    refine HQ.op [1] [1] (OT.loadBA (vs := [.int .i64 p0.Root, .slice a_0 (List.length p0.L) c_0]) ag98 sz98 rfl rfl) ⟨rfl, trivial⟩ ⟨rfl, trivial⟩ rfl rfl rfl rfl (fun _ => rfl) fun _ => ?_
    obtain ⟨t6, h7, H⟩ := bnd H
    refine HQ.op [] [4] (OT.call (us := [_]) (Pre := []) [.tmp 9] Try.call130 rfl rfl fun w F hs hF hp => spec_l7Copy_c (hb_0.pass hp) h7) ⟨rfl, rfl, trivial⟩ trivial rfl rfl rfl rfl (fun _ => rfl) fun ⟨a8, c9⟩ => ?_
    refine HQ.opN [3] [3] [] (OT.storeC (cs' := [.int .i64 t6.Root, .slice a8 (List.length t6.L) c9]) sz98 rfl rfl rfl rfl rfl) ⟨rfl, rfl, trivial⟩ ⟨rfl, trivial⟩ rfl rfl rfl (fun _ => rfl) fun _ => ?_
    refine HQ.done ?_
    refine HQ.keep [(2, _), (3, _), (4, _)] ⟨rfl, rfl, rfl, trivial⟩ ?_
    refine HQ.ret ?_
    refine HQ.thenR ?_
    obtain rfl := Option.some.inj H
    exact HQ.fin (vs := [_]) Try.results59 (a8, c9) ⟨⟨_, _, 3, rfl, rfl, ag98, sz98, rfl⟩, trivial⟩ rfl [4] ⟨rfl, trivial⟩ rfl
  · refine HQ.condF rfl hc ?_
    clear hc
    refine HQ.skipThen ?_
    refine HQ.rseq ?_
    refine HQ.op [1] [1] (OT.loadBA (vs := [.int .i64 p0.Root, .slice a_0 (List.length p0.L) c_0]) ag98 sz98 rfl rfl) ⟨rfl, trivial⟩ ⟨rfl, trivial⟩ rfl rfl rfl rfl (fun _ => rfl) fun _ => ?_
    refine HQ.pu (Pu.fieldB fo103_5 rfl) ⟨rfl, trivial⟩ rfl rfl rfl ?_
    refine HQ.op [2] [2] (OT.loadB sc24 rfl) ⟨rfl, trivial⟩ ⟨rfl, trivial⟩ rfl rfl rfl rfl (fun _ => rfl) fun _ => ?_
    obtain ⟨t10, h11, H⟩ := bnd H
    refine HQ.op [] [5] (OT.call (us := [_, _]) (Pre := []) [.tmp 11, .tmp 13] Try.call131 rfl rfl fun w F hs hF hp => spec_Free_c (hb_0.pass hp) (hb_5.pass hp) h11) ⟨rfl, rfl, rfl, trivial⟩ trivial rfl rfl rfl rfl (fun _ => rfl) fun ⟨a12, c13⟩ => ?_
    refine HQ.opN [3] [3] [] (OT.storeC (cs' := [.int .i64 t10.Root, .slice a12 (List.length t10.L) c13]) sz98 rfl rfl rfl rfl rfl) ⟨rfl, rfl, trivial⟩ ⟨rfl, trivial⟩ rfl rfl rfl (fun _ => rfl) fun _ => ?_
    refine HQ.done ?_
    refine HQ.keep [(4, _)] ⟨rfl, trivial⟩ ?_
    refine HQ.ret ?_
    obtain rfl := Option.some.inj H
    exact HQ.fin (vs := [_]) Try.results59 (a12, c13) ⟨⟨_, _, 3, rfl, rfl, ag98, sz98, rfl⟩, trivial⟩ rfl [5] ⟨rfl, trivial⟩ rfl

end Go.Proofs.Sx
