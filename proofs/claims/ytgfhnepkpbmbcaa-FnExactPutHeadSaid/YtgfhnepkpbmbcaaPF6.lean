import Derived.Test.YtgfhnepkpbmbcaaPF5
import Derived.KernelRfl
namespace Go.Proofs.Sx
open Go.RowKit
set_option linter.unusedVariables false
set_option linter.unusedSimpArgs false
set_option maxRecDepth 20000
set_option maxHeartbeats 1000000
/-! laws.heldWetS -/
theorem laws_heldWetS_c {w : World} {k : Nat} {p0 : (List TWet)} {p1 : Int} {a_0 : Option Addr} {c_0 : Nat} (hb_0 : BorS kTWet a_0 c_0 p0 w.heap (Lt w Nil)) {r : Int} (H : laws_heldWetS k p0 p1 = some r) :
    Calls Try.prog 98 #[.slice a_0 (List.length p0) c_0, .int .i64 p1] w (Rt w Nil (fun _ : Unit => .int .i64 r) (fun _ => [])) := by
  rw [laws_heldWetS] at H
  refine Calls.enter0 (N := 31) (us := [_, _]) Try.func98 rfl rfl rfl ?_
  refine HQ.rseq ?_
  refine HQ.pu Pu.assign ⟨rfl, trivial⟩ rfl rfl rfl ?_
  refine HQ.done ?_
  refine HQ.keep [(0, _), (1, _), (4, _)] ⟨rfl, rfl, rfl, trivial⟩ ?_
  refine HQ.seq ?_
  refine HQ.rseq ?_
  refine HQ.pu Pu.assign ⟨rfl, trivial⟩ rfl rfl rfl ?_
  refine HQ.done ?_
  refine HQ.keep [(0, _), (1, _), (4, _), (5, _)] ⟨rfl, rfl, rfl, rfl, trivial⟩ ?_
  refine HQ.block ?_
  obtain ⟨o39, h42, H⟩ := bnd H
  refine HQ.loop h42 0 (fun (s : Int × Int) (g : Unit) => match s, g with | (i13, i14), () => [(0, .slice a_0 (List.length p0) c_0), (1, .int .i64 i13), (4, .int .i64 0), (5, .int .i64 i14)]) (fun (s : Int × Int) (g : Unit) => match s, g with | (i13, i14), () => []) (fun r => bodyPost Try.prog Try.f98 (Rt w Nil (fun _ : Unit => .int .i64 r) (fun _ => [])) .ret) () ⟨rfl, rfl, rfl, rfl, trivial⟩ trivial rfl ?_ ?_ ?_
  · clear H h42
    rintro ⟨i13, i14⟩ _ o H
    rw [laws_heldWetS_b0] at H
    refine HQ.keep [(0, _), (1, _), (4, _), (5, _)] ⟨rfl, rfl, rfl, rfl, trivial⟩ ?_
    refine HQ.keepR [] trivial rfl ?_
    refine HQ.seq ?_
    refine HQ.rseq ?_
    refine HQ.pu Pu.move ⟨rfl, trivial⟩ rfl rfl rfl ?_
    refine HQ.pu Pu.move ⟨rfl, trivial⟩ rfl rfl rfl ?_
    refine HQ.pu (Pu.len ul40) ⟨rfl, trivial⟩ rfl rfl rfl ?_
    refine HQ.pu Pu.lss ⟨rfl, rfl, trivial⟩ rfl rfl rfl ?_
    refine HQ.done ?_
    refine HQ.keep [(0, _), (1, _), (4, _), (5, _), (9, _)] ⟨rfl, rfl, rfl, rfl, rfl, trivial⟩ ?_
    rcases brk H with ⟨hc, H⟩ | ⟨hc, H⟩
    · refine HQ.condT rfl hc ?_
      clear hc
      refine HQ.skipThen ?_
      refine HQ.seq ?_
      refine HQ.block ?_
      refine HQ.seq ?_
      refine HQ.rseq ?_
      refine HQ.pu Pu.move ⟨rfl, trivial⟩ rfl rfl rfl ?_
      refine HQ.pu Pu.move ⟨rfl, trivial⟩ rfl rfl rfl ?_
      obtain ⟨h27, H⟩ := asr H
      refine HQ.op [] [] (OT.indexB ul40 sz130 hb_0 h27) ⟨rfl, rfl, trivial⟩ trivial rfl rfl rfl rfl (fun _ => rfl) fun _ => ?_
      refine HQ.pu (Pu.fieldE fo130_0 rfl) ⟨rfl, trivial⟩ rfl rfl rfl ?_
      obtain ⟨⟨a28, c29⟩, hb30, hn31⟩ := BorS.nest hb_0 h27
      refine HQ.op [] [] (OT.loadN (v := .int .i64 ((gt p0 i14).At)) sc3 hn31 hlTWet rfl) ⟨rfl, trivial⟩ trivial rfl rfl rfl rfl (fun _ => rfl) fun _ => ?_
      refine HQ.pu Pu.move ⟨rfl, trivial⟩ rfl rfl rfl ?_
      refine HQ.pu Pu.neq ⟨rfl, rfl, trivial⟩ rfl rfl rfl ?_
      refine HQ.done ?_
      refine HQ.keep [(0, _), (1, _), (4, _), (5, _), (18, _)] ⟨rfl, rfl, rfl, rfl, rfl, trivial⟩ ?_
      rcases brk H with ⟨hc, H⟩ | ⟨hc, H⟩
      · refine HQ.condT rfl hc ?_
        clear hc
        refine HQ.rseq ?_
        refine HQ.pu Pu.assign ⟨rfl, trivial⟩ rfl rfl rfl ?_
        refine HQ.done ?_
        refine HQ.keep [(0, _), (1, _), (4, _), (5, _)] ⟨rfl, rfl, rfl, rfl, trivial⟩ ?_
        refine HQ.ret ?_
        refine HQ.thenR ?_
        refine HQ.blkR ?_
        refine HQ.thenR ?_
        obtain rfl := Option.some.inj H
        refine HQ.retL ?_
        exact HQ.fin (vs := [_]) Try.results98 () ⟨rfl, trivial⟩ rfl [] trivial rfl
      · refine HQ.condF rfl hc ?_
        clear hc
        refine HQ.skipThen ?_
        refine HQ.rseq ?_
        refine HQ.pu Pu.move ⟨rfl, trivial⟩ rfl rfl rfl ?_
        refine HQ.pu Pu.add ⟨rfl, rfl, trivial⟩ rfl rfl rfl ?_
        refine HQ.pu Pu.assign ⟨rfl, trivial⟩ rfl rfl rfl ?_
        refine HQ.done ?_
        refine HQ.keep [(0, _), (1, _), (4, _), (5, _)] ⟨rfl, rfl, rfl, rfl, trivial⟩ ?_
        refine HQ.rseq ?_
        refine HQ.pu Pu.move ⟨rfl, trivial⟩ rfl rfl rfl ?_
        refine HQ.pu Pu.move ⟨rfl, trivial⟩ rfl rfl rfl ?_
        obtain ⟨h32, H⟩ := asr H
        refine HQ.op [] [] (OT.indexB ul40 sz130 hb_0 h32) ⟨rfl, rfl, trivial⟩ trivial rfl rfl rfl rfl (fun _ => rfl) fun _ => ?_
        refine HQ.pu (Pu.fieldE fo130_1 rfl) ⟨rfl, trivial⟩ rfl rfl rfl ?_
        obtain ⟨⟨a33, c34⟩, hb35, hn36⟩ := BorS.nest hb_0 h32
        refine HQ.op [] [] (OT.loadN (v := .slice a33 (List.length ((gt p0 i14).B)) c34) sc37 hn36 hlTWet rfl) ⟨rfl, trivial⟩ trivial rfl rfl rfl rfl (fun _ => rfl) fun _ => ?_
        refine HQ.pu Pu.move ⟨rfl, trivial⟩ rfl rfl rfl ?_
        obtain ⟨t37, h38, H⟩ := bnd H
        refine HQ.op [] [] (OT.call (us := [_, _]) (Pre := []) [.tmp 25, .tmp 26] Try.call42 rfl rfl fun w F hs hF hp => laws_heldByteS_c (hb35.pass hp) h38) ⟨rfl, rfl, rfl, trivial⟩ trivial rfl rfl rfl rfl (fun _ => rfl) fun _ => ?_
        refine HQ.pu Pu.assign ⟨rfl, trivial⟩ rfl rfl rfl ?_
        refine HQ.done ?_
        refine HQ.keep [(0, _), (1, _), (4, _), (5, _)] ⟨rfl, rfl, rfl, rfl, trivial⟩ ?_
        refine HQ.rseq ?_
        refine HQ.pu Pu.move ⟨rfl, trivial⟩ rfl rfl rfl ?_
        refine HQ.pu Pu.lss ⟨rfl, rfl, trivial⟩ rfl rfl rfl ?_
        refine HQ.done ?_
        refine HQ.keep [(0, _), (1, _), (4, _), (5, _), (29, _)] ⟨rfl, rfl, rfl, rfl, rfl, trivial⟩ ?_
        rcases brk H with ⟨hc, H⟩ | ⟨hc, H⟩
        · refine HQ.condT rfl hc ?_
          clear hc
          refine HQ.rseq ?_
          refine HQ.pu Pu.assign ⟨rfl, trivial⟩ rfl rfl rfl ?_
          refine HQ.done ?_
          refine HQ.keep [(0, _), (1, _), (4, _), (5, _)] ⟨rfl, rfl, rfl, rfl, trivial⟩ ?_
          refine HQ.ret ?_
          refine HQ.blkR ?_
          refine HQ.thenR ?_
          obtain rfl := Option.some.inj H
          refine HQ.retL ?_
          exact HQ.fin (vs := [_]) Try.results98 () ⟨rfl, trivial⟩ rfl [] trivial rfl
        · refine HQ.condF rfl hc ?_
          clear hc
          refine HQ.skip ?_
          refine HQ.blkN ?_
          refine HQ.thenN ?_
          refine HQ.regionQ ?_
          refine HQ.pu Pu.move ⟨rfl, trivial⟩ rfl rfl rfl ?_
          refine HQ.pu Pu.add ⟨rfl, rfl, trivial⟩ rfl rfl rfl ?_
          refine HQ.pu Pu.assign ⟨rfl, trivial⟩ rfl rfl rfl ?_
          refine HQ.done ?_
          refine HQ.keep [(0, _), (1, _), (4, _), (5, _)] ⟨rfl, rfl, rfl, rfl, trivial⟩ ?_
          obtain rfl := Option.some.inj H
          exact HQ.next () ⟨rfl, rfl, rfl, rfl, trivial⟩ trivial rfl
    · refine HQ.condF rfl hc ?_
      clear hc
      refine HQ.exit ?_
      refine HQ.thenE ?_
      obtain rfl := Option.some.inj H
      exact HQ.out () ⟨rfl, rfl, rfl, rfl, trivial⟩ trivial rfl
  · rintro ⟨i40, i41⟩ rfl _
    clear h42
    replace H := H
    refine HQ.keep [(0, _), (1, _), (4, _), (5, _)] ⟨rfl, rfl, rfl, rfl, trivial⟩ ?_
    refine HQ.keepR [] trivial rfl ?_
    refine HQ.blkE ?_
    refine HQ.thenN ?_
    refine HQ.rseq ?_
    refine HQ.pu Pu.move ⟨rfl, trivial⟩ rfl rfl rfl ?_
    refine HQ.pu Pu.assign ⟨rfl, trivial⟩ rfl rfl rfl ?_
    refine HQ.done ?_
    refine HQ.keep [(4, _)] ⟨rfl, trivial⟩ ?_
    refine HQ.ret ?_
    obtain rfl := Option.some.inj H
    exact HQ.fin (vs := [_]) Try.results98 () ⟨rfl, trivial⟩ rfl [] trivial rfl
  · rintro r rfl a w hr
    obtain rfl := Option.some.inj H
    exact hr

/-! laws.heldDisk -/
theorem laws_heldDisk_c {w : World} {k : Nat} {p0 : TDisk} {p1 : Int} {a_0 : Option Addr} {c_0 : Nat} {a_1 : Option Addr} {c_1 : Nat} (hb_0 : BorS kTCell a_0 c_0 p0.Cells w.heap (Lt w Nil)) (hb_1 : BorS kTWet a_1 c_1 p0.Wet w.heap (Lt w Nil)) {r : Int} (H : laws_heldDisk k p0 p1 = some r) :
    Calls Try.prog 33 #[.agg #[.slice a_0 (List.length p0.Cells) c_0, .slice a_1 (List.length p0.Wet) c_1, .int .i64 p0.Fuse, .bool p0.Dead], .int .i64 p1] w (Rt w Nil (fun _ : Unit => .int .i64 r) (fun _ => [])) := by
  rw [laws_heldDisk] at H
  refine Calls.enter0 (N := 18) (us := [_, _]) Try.func33 rfl rfl rfl ?_
  refine HQ.rseq ?_
  refine HQ.op [] [1] (OT.box (cs := [.slice a_0 (List.length p0.Cells) c_0, .slice a_1 (List.length p0.Wet) c_1, .int .i64 p0.Fuse, .bool p0.Dead]) rfl) ⟨rfl, trivial⟩ trivial rfl rfl rfl rfl (fun _ => rfl) fun b1 => ?_
  refine HQ.pu Pu.assign ⟨rfl, trivial⟩ rfl rfl rfl ?_
  refine HQ.done ?_
  refine HQ.keep [(1, _), (2, _), (4, _)] ⟨rfl, rfl, rfl, trivial⟩ ?_
  refine HQ.rseq ?_
  refine HQ.pu (Pu.fieldB fo42_0 rfl) ⟨rfl, trivial⟩ rfl rfl rfl ?_
  refine HQ.op [1] [1] (OT.loadB sc39 rfl) ⟨rfl, trivial⟩ ⟨rfl, trivial⟩ rfl rfl rfl rfl (fun _ => rfl) fun _ => ?_
  refine HQ.pu Pu.move ⟨rfl, trivial⟩ rfl rfl rfl ?_
  obtain ⟨t2, h3, H⟩ := bnd H
  refine HQ.op [] [] (OT.call (us := [_, _]) (Pre := []) [.tmp 6, .tmp 7] Try.call97 rfl rfl fun w F hs hF hp => laws_heldCellS_c (hb_0.pass hp) h3) ⟨rfl, rfl, rfl, trivial⟩ trivial rfl rfl rfl rfl (fun _ => rfl) fun _ => ?_
  refine HQ.pu Pu.assign ⟨rfl, trivial⟩ rfl rfl rfl ?_
  refine HQ.done ?_
  refine HQ.keep [(1, _), (2, _), (4, _)] ⟨rfl, rfl, rfl, trivial⟩ ?_
  refine HQ.seq ?_
  refine HQ.rseq ?_
  refine HQ.pu Pu.move ⟨rfl, trivial⟩ rfl rfl rfl ?_
  refine HQ.pu Pu.lss ⟨rfl, rfl, trivial⟩ rfl rfl rfl ?_
  refine HQ.done ?_
  refine HQ.keep [(1, _), (2, _), (4, _), (10, _)] ⟨rfl, rfl, rfl, rfl, trivial⟩ ?_
  rcases brk H with ⟨hc, H⟩ | ⟨hc, H⟩
  · refine HQ.condT rfl hc ?_
    clear hc
    refine HQ.rseq ?_
    refine HQ.pu Pu.assign ⟨rfl, trivial⟩ rfl rfl rfl ?_
    refine HQ.done ?_
    refine HQ.keep [(1, _), (2, _), (4, _)] ⟨rfl, rfl, rfl, trivial⟩ ?_
    refine HQ.ret ?_
    refine HQ.thenR ?_
    obtain rfl := Option.some.inj H
    exact HQ.fin (vs := [_]) Try.results33 () ⟨rfl, trivial⟩ rfl [] trivial rfl
  · refine HQ.condF rfl hc ?_
    clear hc
    refine HQ.skipThen ?_
    refine HQ.rseq ?_
    refine HQ.pu (Pu.fieldB fo42_1 rfl) ⟨rfl, trivial⟩ rfl rfl rfl ?_
    refine HQ.op [1] [1] (OT.loadB sc40 rfl) ⟨rfl, trivial⟩ ⟨rfl, trivial⟩ rfl rfl rfl rfl (fun _ => rfl) fun _ => ?_
    refine HQ.pu Pu.move ⟨rfl, trivial⟩ rfl rfl rfl ?_
    obtain ⟨t4, h5, H⟩ := bnd H
    refine HQ.op [] [] (OT.call (us := [_, _]) (Pre := []) [.tmp 12, .tmp 13] Try.call98 rfl rfl fun w F hs hF hp => laws_heldWetS_c (hb_1.pass hp) h5) ⟨rfl, rfl, rfl, trivial⟩ trivial rfl rfl rfl rfl (fun _ => rfl) fun _ => ?_
    refine HQ.pu Pu.assign ⟨rfl, trivial⟩ rfl rfl rfl ?_
    refine HQ.done ?_
    refine HQ.keep [(1, _), (4, _)] ⟨rfl, rfl, trivial⟩ ?_
    refine HQ.seq ?_
    refine HQ.rseq ?_
    refine HQ.pu Pu.move ⟨rfl, trivial⟩ rfl rfl rfl ?_
    refine HQ.pu Pu.lss ⟨rfl, rfl, trivial⟩ rfl rfl rfl ?_
    refine HQ.done ?_
    refine HQ.keep [(1, _), (4, _), (16, _)] ⟨rfl, rfl, rfl, trivial⟩ ?_
    rcases brk H with ⟨hc, H⟩ | ⟨hc, H⟩
    · refine HQ.condT rfl hc ?_
      clear hc
      refine HQ.rseq ?_
      refine HQ.pu Pu.assign ⟨rfl, trivial⟩ rfl rfl rfl ?_
      refine HQ.done ?_
      refine HQ.keep [(1, _), (4, _)] ⟨rfl, rfl, trivial⟩ ?_
      refine HQ.ret ?_
      refine HQ.thenR ?_
      obtain rfl := Option.some.inj H
      exact HQ.fin (vs := [_]) Try.results33 () ⟨rfl, trivial⟩ rfl [] trivial rfl
    · refine HQ.condF rfl hc ?_
      clear hc
      refine HQ.skipThen ?_
      refine HQ.rseq ?_
      refine HQ.pu Pu.move ⟨rfl, trivial⟩ rfl rfl rfl ?_
      refine HQ.pu Pu.assign ⟨rfl, trivial⟩ rfl rfl rfl ?_
      refine HQ.done ?_
      refine HQ.keep [(4, _)] ⟨rfl, trivial⟩ ?_
      refine HQ.ret ?_
      obtain rfl := Option.some.inj H
      exact HQ.fin (vs := [_]) Try.results33 () ⟨rfl, trivial⟩ rfl [] trivial rfl

/-! laws.FnExactPutHead -/
theorem laws_FnExactPutHead_c {w : World} {k : Nat} {p0 : TDisk} {p1 : THead} {a_0 : Option Addr} {c_0 : Nat} {a_1 : Option Addr} {c_1 : Nat} (hb_0 : BorS kTCell a_0 c_0 p0.Cells w.heap (Lt w Nil)) (hb_1 : BorS kTWet a_1 c_1 p0.Wet w.heap (Lt w Nil)) {r : Bool} (H : laws_FnExactPutHead k p0 p1 = some r) :
    Calls Try.prog 9 #[.agg #[.slice a_0 (List.length p0.Cells) c_0, .slice a_1 (List.length p0.Wet) c_1, .int .i64 p0.Fuse, .bool p0.Dead], .agg #[.int .i64 p1.Epoch, .int .i64 p1.Seq, .int .i64 p1.Root, .int .i64 p1.Size]] w (Rt w Nil (fun _ : Unit => .bool r) (fun _ => [])) := by
  rw [laws_FnExactPutHead] at H
  refine Calls.enter0 (N := 77) (us := [_, _]) Try.func9 rfl rfl rfl ?_
  refine HQ.rseq ?_
  refine HQ.op [] [1] (OT.box (cs := [.slice a_0 (List.length p0.Cells) c_0, .slice a_1 (List.length p0.Wet) c_1, .int .i64 p0.Fuse, .bool p0.Dead]) rfl) ⟨rfl, trivial⟩ trivial rfl rfl rfl rfl (fun _ => rfl) fun b1 => ?_
  refine HQ.op [] [2] (OT.box (cs := [.int .i64 p1.Epoch, .int .i64 p1.Seq, .int .i64 p1.Root, .int .i64 p1.Size]) rfl) ⟨rfl, trivial⟩ trivial rfl rfl rfl rfl (fun _ => rfl) fun b2 => ?_
  refine HQ.pu Pu.assign ⟨rfl, trivial⟩ rfl rfl rfl ?_
  refine HQ.done ?_
  refine HQ.keep [(2, _), (3, _), (4, _)] ⟨rfl, rfl, rfl, trivial⟩ ?_
  refine HQ.rseq ?_
  refine HQ.pu Pu.assign ⟨rfl, trivial⟩ rfl rfl rfl ?_
  refine HQ.done ?_
  refine HQ.keep [(2, _), (3, _), (4, _), (5, _)] ⟨rfl, rfl, rfl, rfl, trivial⟩ ?_
  refine HQ.rseq ?_
  refine HQ.op [1] [1] (OT.loadBA (vs := [.slice a_0 (List.length p0.Cells) c_0, .slice a_1 (List.length p0.Wet) c_1, .int .i64 p0.Fuse, .bool p0.Dead]) ag36 sz36 rfl rfl) ⟨rfl, trivial⟩ ⟨rfl, trivial⟩ rfl rfl rfl rfl (fun _ => rfl) fun _ => ?_
  refine HQ.pu Pu.move ⟨rfl, trivial⟩ rfl rfl rfl ?_
  obtain ⟨t3, h4, H⟩ := bnd H
  refine HQ.op [] [] (OT.call (us := [_, _]) (Pre := []) [.tmp 13, .tmp 14] Try.call24 rfl rfl fun w F hs hF hp => laws_szDisk_c (hb_0.pass hp) (hb_1.pass hp) h4) ⟨rfl, rfl, rfl, trivial⟩ trivial rfl rfl rfl rfl (fun _ => rfl) fun _ => ?_
  refine HQ.pu Pu.assign ⟨rfl, trivial⟩ rfl rfl rfl ?_
  refine HQ.done ?_
  refine HQ.keep [(2, _), (3, _), (4, _), (5, _)] ⟨rfl, rfl, rfl, rfl, trivial⟩ ?_
  refine HQ.seq ?_
  refine HQ.rseq ?_
  refine HQ.pu Pu.move ⟨rfl, trivial⟩ rfl rfl rfl ?_
  refine HQ.pu Pu.lss ⟨rfl, rfl, trivial⟩ rfl rfl rfl ?_
  refine HQ.done ?_
  refine HQ.keep [(2, _), (3, _), (4, _), (17, _)] ⟨rfl, rfl, rfl, rfl, trivial⟩ ?_
  rcases brk H with ⟨hc, H⟩ | ⟨hc, H⟩
  · refine HQ.condT rfl hc ?_
    clear hc
    refine HQ.rseq ?_
    refine HQ.pu Pu.assign ⟨rfl, trivial⟩ rfl rfl rfl ?_
    refine HQ.done ?_
    refine HQ.keep [(2, _), (3, _), (4, _)] ⟨rfl, rfl, rfl, trivial⟩ ?_
    refine HQ.ret ?_
    refine HQ.thenR ?_
    obtain rfl := Option.some.inj H
    exact HQ.fin (vs := [_]) Try.results9 () ⟨rfl, trivial⟩ rfl [] trivial rfl
  · refine HQ.condF rfl hc ?_
    clear hc
    refine HQ.skipThen ?_
    obtain ⟨t6, h7, H⟩ := bnd H
    obtain ⟨t12, h13, H⟩ := bnd H
    obtain ⟨t14, h15, H⟩ := bnd H
    refine HQ.drawS mixd [(2, BP b1 0), (3, BP b2 0), (4, .bool false)] 6 [⟨[0], [0], []⟩, ⟨[], [1, 2], [0]⟩, ⟨[3], [3], []⟩, ⟨[], [], [2]⟩, ⟨[1, 2], [4, 5, 1, 2], [1, 3]⟩, ⟨[], [6], []⟩] [⟨none, none⟩, ⟨some 1, none⟩, ⟨some 1, none⟩, ⟨none, none⟩, ⟨some 4, none⟩, ⟨some 4, none⟩, ⟨some 5, none⟩] (fun (g5 : ((Option Addr × Nat) × (Option Addr × Nat)) × ((Option Addr × Nat) × (Option Addr × Nat)) × Nat) => [.agg #[.slice a_0 (List.length p0.Cells) c_0, .slice a_1 (List.length p0.Wet) c_1, .int .i64 p0.Fuse, .bool p0.Dead], .agg #[.slice g5.1.1.1 (List.length t6.Cells) g5.1.1.2, .slice g5.1.2.1 (List.length t6.Wet) g5.1.2.2, .int .i64 t6.Fuse, .bool t6.Dead], .agg #[.int .i64 p1.Epoch, .int .i64 p1.Seq, .int .i64 p1.Root, .int .i64 p1.Size], .agg #[.int .i64 t12.Epoch, .int .i64 t12.Seq, .int .i64 t12.Root, .int .i64 t12.Size], .agg #[.slice g5.2.1.1.1 (List.length t14.Cells) g5.2.1.1.2, .slice g5.2.1.2.1 (List.length t14.Wet) g5.2.1.2.2, .int .i64 t14.Fuse, .bool t14.Dead], BP g5.2.2 0]) (fun (g5 : ((Option Addr × Nat) × (Option Addr × Nat)) × ((Option Addr × Nat) × (Option Addr × Nat)) × Nat) => [Box b1 [.slice a_0 (List.length p0.Cells) c_0, .slice a_1 (List.length p0.Wet) c_1, .int .i64 p0.Fuse, .bool p0.Dead], OwnS kTCell g5.1.1.1 g5.1.1.2 t6.Cells, OwnS kTWet g5.1.2.1 g5.1.2.2 t6.Wet, Box b2 [.int .i64 p1.Epoch, .int .i64 p1.Seq, .int .i64 p1.Root, .int .i64 p1.Size], OwnS kTCell g5.2.1.1.1 g5.2.1.1.2 t14.Cells, OwnS kTWet g5.2.1.2.1 g5.2.1.2.2 t14.Wet, Box g5.2.2 [.slice none 0 0, .slice none 0 0, .int .i64 0, .bool false]]) (((none, 0), (none, 0)), ((none, 0), (none, 0)), 0) [1, 2] [1, 3, 4, 2, 5, 6, 7] [] ⟨rfl, rfl, rfl, trivial⟩ ⟨rfl, rfl, trivial⟩ rfl (by kernel_rfl) (fun _ => rfl) (by kernel_rfl) (fun _ => rfl) ⟨?_, ?_, ?_, ?_, ?_, ?_, trivial⟩ fun g5 => ?_
    · exact OpOK.of (fun g5 => [(.tmp 2, BP b1 0)]) _ _ (fun g5 _ => g5) rfl rfl (fun _ => ⟨rfl, trivial⟩) (fun g5 => OT.loadBA (vs := [.slice a_0 (List.length p0.Cells) c_0, .slice a_1 (List.length p0.Wet) c_1, .int .i64 p0.Fuse, .bool p0.Dead]) ag36 sz36 rfl rfl) (fun _ _ => ⟨rfl, rfl, ⟨rfl, rfl, rfl, rfl, rfl, rfl, rfl, trivial⟩⟩)
    · exact OpOK.of (fun g5 => [(.func 26, .func (.func 26) #[] #[]), (.tmp 18, .agg #[.slice a_0 (List.length p0.Cells) c_0, .slice a_1 (List.length p0.Wet) c_1, .int .i64 p0.Fuse, .bool p0.Dead])]) _ _ (fun g5 x => (x, g5.2.1, g5.2.2)) rfl rfl (fun _ => ⟨rfl, rfl, trivial⟩) (fun g5 => OT.call (us := [_]) (Pre := []) [.tmp 18] Try.call26 rfl rfl fun w F hs hF hp => laws_toDisk_c (hb_0.pass hp) (hb_1.pass hp) h7) (fun _ _ => ⟨rfl, rfl, ⟨rfl, rfl, rfl, rfl, rfl, rfl, rfl, trivial⟩⟩)
    · exact OpOK.of (fun g5 => [(.tmp 3, BP b2 0)]) _ _ (fun g5 _ => g5) rfl rfl (fun _ => ⟨rfl, trivial⟩) (fun g5 => OT.loadBA (vs := [.int .i64 p1.Epoch, .int .i64 p1.Seq, .int .i64 p1.Root, .int .i64 p1.Size]) ag73 sz73 rfl rfl) (fun _ _ => ⟨rfl, rfl, ⟨rfl, rfl, rfl, rfl, rfl, rfl, rfl, trivial⟩⟩)
    · exact OpOK.of (fun g5 => [(.func 50, .func (.func 50) #[] #[]), (.tmp 20, .agg #[.int .i64 p1.Epoch, .int .i64 p1.Seq, .int .i64 p1.Root, .int .i64 p1.Size])]) _ _ (fun g5 _ => g5) rfl rfl (fun _ => ⟨rfl, rfl, trivial⟩) (fun g5 => OT.call (us := [_]) (Pre := []) [.tmp 20] Try.call50 rfl rfl fun w F hs hF hp => laws_toHead_c h13) (fun _ _ => ⟨rfl, rfl, ⟨rfl, rfl, rfl, rfl, rfl, rfl, rfl, trivial⟩⟩)
    · exact OpOK.of (fun g5 => [(.func 49, .func (.func 49) #[] #[]), (.tmp 19, .agg #[.slice g5.1.1.1 (List.length t6.Cells) g5.1.1.2, .slice g5.1.2.1 (List.length t6.Wet) g5.1.2.2, .int .i64 t6.Fuse, .bool t6.Dead]), (.tmp 21, .agg #[.int .i64 t12.Epoch, .int .i64 t12.Seq, .int .i64 t12.Root, .int .i64 t12.Size])]) _ _ (fun g5 x => (g5.1, x, g5.2.2)) rfl rfl (fun _ => ⟨rfl, rfl, rfl, trivial⟩) (fun g5 => OT.call (us := [_, _]) (Pre := [OwnS kTCell g5.1.1.1 g5.1.1.2 t6.Cells, OwnS kTWet g5.1.2.1 g5.1.2.2 t6.Wet]) [.tmp 19, .tmp 21] Try.call49 rfl rfl fun w F hs hF hp => spec_PutHead_c (hs.lend hF 0 rfl) (hs.lend hF 1 rfl) h15) (fun _ _ => ⟨rfl, rfl, ⟨rfl, rfl, rfl, rfl, rfl, rfl, rfl, trivial⟩⟩)
    · exact OpOK.of (fun g5 => []) _ _ (fun g5 x => (g5.1, g5.2.1, x)) rfl rfl (fun _ => trivial) (fun g5 => OT.alloc zc42) (fun _ _ => ⟨rfl, rfl, ⟨rfl, rfl, rfl, rfl, rfl, rfl, rfl, trivial⟩⟩)
    refine HQ.keep [(2, _), (3, _), (4, _), (22, _), (6, _)] ⟨rfl, rfl, rfl, rfl, rfl, trivial⟩ ?_
    refine HQ.keepR [(1, _), (2, _), (3, _), (4, _), (5, _), (6, _), (7, _)] ⟨rfl, rfl, rfl, rfl, rfl, rfl, rfl, trivial⟩ rfl ?_
    refine HQ.opN [7] [7] [] (OT.storeC (cs' := [.slice g5.2.1.1.1 (List.length t14.Cells) g5.2.1.1.2, .slice g5.2.1.2.1 (List.length t14.Wet) g5.2.1.2.2, .int .i64 t14.Fuse, .bool t14.Dead]) sz42 rfl rfl rfl rfl rfl) ⟨rfl, rfl, trivial⟩ ⟨rfl, trivial⟩ rfl rfl rfl (fun _ => rfl) fun _ => ?_
    refine HQ.done ?_
    refine HQ.keep [(2, _), (3, _), (4, _), (6, _)] ⟨rfl, rfl, rfl, rfl, trivial⟩ ?_
    refine HQ.rseq ?_
    refine HQ.op [1] [1] (OT.loadBA (vs := [.slice a_0 (List.length p0.Cells) c_0, .slice a_1 (List.length p0.Wet) c_1, .int .i64 p0.Fuse, .bool p0.Dead]) ag36 sz36 rfl rfl) ⟨rfl, trivial⟩ ⟨rfl, trivial⟩ rfl rfl rfl rfl (fun _ => rfl) fun _ => ?_
    obtain ⟨t21, h22, H⟩ := bnd H
    refine HQ.op [] [8, 9] (OT.call (us := [_]) (Pre := []) [.tmp 23] Try.call26 rfl rfl fun w F hs hF hp => laws_toDisk_c (hb_0.pass hp) (hb_1.pass hp) h22) ⟨rfl, rfl, trivial⟩ trivial rfl rfl rfl rfl (fun _ => rfl) fun ⟨⟨a23, c24⟩, ⟨a25, c26⟩⟩ => ?_
    refine HQ.op [] [10] (OT.alloc zc42) trivial trivial rfl rfl rfl rfl (fun _ => rfl) fun b27 => ?_
    refine HQ.opN [10] [10] [] (OT.storeC (cs' := [.slice a23 (List.length t21.Cells) c24, .slice a25 (List.length t21.Wet) c26, .int .i64 t21.Fuse, .bool t21.Dead]) sz42 rfl rfl rfl rfl rfl) ⟨rfl, rfl, trivial⟩ ⟨rfl, trivial⟩ rfl rfl rfl (fun _ => rfl) fun _ => ?_
    refine HQ.done ?_
    refine HQ.keep [(2, _), (3, _), (4, _), (6, _), (7, _)] ⟨rfl, rfl, rfl, rfl, rfl, trivial⟩ ?_
    obtain ⟨t29, h30, H⟩ := bnd H
    obtain ⟨t31, h32, H⟩ := bnd H
    refine HQ.drawS mixd [(2, BP b1 0), (3, BP b2 0), (4, .bool false), (6, BP g5.2.2 0), (7, BP b27 0)] 5 [⟨[0], [0], []⟩, ⟨[1], [1], []⟩, ⟨[], [], [1]⟩, ⟨[2, 3], [4, 5, 2, 3], [0, 2]⟩, ⟨[], [6], []⟩] [⟨none, none⟩, ⟨none, none⟩, ⟨none, none⟩, ⟨none, none⟩, ⟨some 3, none⟩, ⟨some 3, none⟩, ⟨some 4, none⟩] (fun (g28 : ((Option Addr × Nat) × (Option Addr × Nat)) × Nat) => [.agg #[.slice a23 (List.length t21.Cells) c24, .slice a25 (List.length t21.Wet) c26, .int .i64 t21.Fuse, .bool t21.Dead], .agg #[.int .i64 p1.Epoch, .int .i64 p1.Seq, .int .i64 p1.Root, .int .i64 p1.Size], .agg #[.int .i64 t29.Epoch, .int .i64 t29.Seq, .int .i64 t29.Root, .int .i64 t29.Size], .agg #[.slice g28.1.1.1 (List.length t31.Cells) g28.1.1.2, .slice g28.1.2.1 (List.length t31.Wet) g28.1.2.2, .int .i64 t31.Fuse, .bool t31.Dead], BP g28.2 0]) (fun (g28 : ((Option Addr × Nat) × (Option Addr × Nat)) × Nat) => [Box b27 [.slice a23 (List.length t21.Cells) c24, .slice a25 (List.length t21.Wet) c26, .int .i64 t21.Fuse, .bool t21.Dead], Box b2 [.int .i64 p1.Epoch, .int .i64 p1.Seq, .int .i64 p1.Root, .int .i64 p1.Size], OwnS kTCell a23 c24 t21.Cells, OwnS kTWet a25 c26 t21.Wet, OwnS kTCell g28.1.1.1 g28.1.1.2 t31.Cells, OwnS kTWet g28.1.2.1 g28.1.2.2 t31.Wet, Box g28.2 [.slice none 0 0, .slice none 0 0, .int .i64 0, .bool false]]) (((none, 0), (none, 0)), 0) [10, 2, 8, 9] [10, 2, 8, 9, 11, 12, 13] [] ⟨rfl, rfl, rfl, rfl, rfl, trivial⟩ ⟨rfl, rfl, rfl, rfl, trivial⟩ rfl (by kernel_rfl) (fun _ => rfl) (by kernel_rfl) (fun _ => rfl) ⟨?_, ?_, ?_, ?_, ?_, trivial⟩ fun g28 => ?_
    · exact OpOK.of (fun g28 => [(.tmp 7, BP b27 0)]) _ _ (fun g28 _ => g28) rfl rfl (fun _ => ⟨rfl, trivial⟩) (fun g28 => OT.loadBA (vs := [.slice a23 (List.length t21.Cells) c24, .slice a25 (List.length t21.Wet) c26, .int .i64 t21.Fuse, .bool t21.Dead]) ag42 sz42 rfl rfl) (fun _ _ => ⟨rfl, rfl, ⟨rfl, rfl, rfl, rfl, rfl, rfl, rfl, trivial⟩⟩)
    · exact OpOK.of (fun g28 => [(.tmp 3, BP b2 0)]) _ _ (fun g28 _ => g28) rfl rfl (fun _ => ⟨rfl, trivial⟩) (fun g28 => OT.loadBA (vs := [.int .i64 p1.Epoch, .int .i64 p1.Seq, .int .i64 p1.Root, .int .i64 p1.Size]) ag73 sz73 rfl rfl) (fun _ _ => ⟨rfl, rfl, ⟨rfl, rfl, rfl, rfl, rfl, rfl, rfl, trivial⟩⟩)
    · exact OpOK.of (fun g28 => [(.func 50, .func (.func 50) #[] #[]), (.tmp 26, .agg #[.int .i64 p1.Epoch, .int .i64 p1.Seq, .int .i64 p1.Root, .int .i64 p1.Size])]) _ _ (fun g28 _ => g28) rfl rfl (fun _ => ⟨rfl, rfl, trivial⟩) (fun g28 => OT.call (us := [_]) (Pre := []) [.tmp 26] Try.call50 rfl rfl fun w F hs hF hp => laws_toHead_c h30) (fun _ _ => ⟨rfl, rfl, ⟨rfl, rfl, rfl, rfl, rfl, rfl, rfl, trivial⟩⟩)
    · exact OpOK.of (fun g28 => [(.func 51, .func (.func 51) #[] #[]), (.tmp 25, .agg #[.slice a23 (List.length t21.Cells) c24, .slice a25 (List.length t21.Wet) c26, .int .i64 t21.Fuse, .bool t21.Dead]), (.tmp 27, .agg #[.int .i64 t29.Epoch, .int .i64 t29.Seq, .int .i64 t29.Root, .int .i64 t29.Size])]) _ _ (fun g28 x => (x, g28.2)) rfl rfl (fun _ => ⟨rfl, rfl, rfl, trivial⟩) (fun g28 => OT.call (us := [_, _]) (Pre := [OwnS kTCell a23 c24 t21.Cells, OwnS kTWet a25 c26 t21.Wet]) [.tmp 25, .tmp 27] Try.call51 rfl rfl fun w F hs hF hp => impl_PutHead_c (hs.lend hF 0 rfl) (hs.lend hF 1 rfl) h32) (fun _ _ => ⟨rfl, rfl, ⟨rfl, rfl, rfl, rfl, rfl, rfl, rfl, trivial⟩⟩)
    · exact OpOK.of (fun g28 => []) _ _ (fun g28 x => (g28.1, x)) rfl rfl (fun _ => trivial) (fun g28 => OT.alloc zc42) (fun _ _ => ⟨rfl, rfl, ⟨rfl, rfl, rfl, rfl, rfl, rfl, rfl, trivial⟩⟩)
    refine HQ.keep [(2, _), (3, _), (4, _), (6, _), (7, _), (28, _), (8, _)] ⟨rfl, rfl, rfl, rfl, rfl, rfl, rfl, trivial⟩ ?_
    refine HQ.keepR [(1, _), (2, _), (3, _), (4, _), (5, _), (6, _), (7, _), (8, _), (9, _), (10, _), (11, _), (12, _), (13, _)] ⟨rfl, rfl, rfl, rfl, rfl, rfl, rfl, rfl, rfl, rfl, rfl, rfl, rfl, trivial⟩ rfl ?_
    refine HQ.opN [13] [13] [] (OT.storeC (cs' := [.slice g28.1.1.1 (List.length t31.Cells) g28.1.1.2, .slice g28.1.2.1 (List.length t31.Wet) g28.1.2.2, .int .i64 t31.Fuse, .bool t31.Dead]) sz42 rfl rfl rfl rfl rfl) ⟨rfl, rfl, trivial⟩ ⟨rfl, trivial⟩ rfl rfl rfl (fun _ => rfl) fun _ => ?_
    refine HQ.done ?_
    refine HQ.keep [(2, _), (3, _), (4, _), (6, _), (7, _), (8, _)] ⟨rfl, rfl, rfl, rfl, rfl, rfl, trivial⟩ ?_
    refine HQ.seq ?_
    refine HQ.rseq ?_
    refine HQ.op [13] [13] (OT.loadBA (vs := [.slice g28.1.1.1 (List.length t31.Cells) g28.1.1.2, .slice g28.1.2.1 (List.length t31.Wet) g28.1.2.2, .int .i64 t31.Fuse, .bool t31.Dead]) ag42 sz42 rfl rfl) ⟨rfl, trivial⟩ ⟨rfl, trivial⟩ rfl rfl rfl rfl (fun _ => rfl) fun _ => ?_
    refine HQ.op [7] [7] (OT.loadBA (vs := [.slice g5.2.1.1.1 (List.length t14.Cells) g5.2.1.1.2, .slice g5.2.1.2.1 (List.length t14.Wet) g5.2.1.2.2, .int .i64 t14.Fuse, .bool t14.Dead]) ag42 sz42 rfl rfl) ⟨rfl, trivial⟩ ⟨rfl, trivial⟩ rfl rfl rfl rfl (fun _ => rfl) fun _ => ?_
    obtain ⟨t38, h39, H⟩ := bnd H
    refine HQ.op [11, 12, 5, 6] [11, 12, 5, 6] (OT.call (us := [_, _]) (Pre := [OwnS kTCell g28.1.1.1 g28.1.1.2 t31.Cells, OwnS kTWet g28.1.2.1 g28.1.2.2 t31.Wet, OwnS kTCell g5.2.1.1.1 g5.2.1.1.2 t14.Cells, OwnS kTWet g5.2.1.2.1 g5.2.1.2.2 t14.Wet]) [.tmp 29, .tmp 30] Try.call29 rfl rfl fun w F hs hF hp => laws_eqDisk_c (hs.lend hF 0 rfl) (hs.lend hF 1 rfl) (hs.lend hF 2 rfl) (hs.lend hF 3 rfl) h39) ⟨rfl, rfl, rfl, trivial⟩ ⟨rfl, rfl, rfl, rfl, trivial⟩ rfl rfl rfl rfl (fun _ => rfl) fun _ => ?_
    refine HQ.pu Pu.not ⟨rfl, trivial⟩ rfl rfl rfl ?_
    refine HQ.done ?_
    refine HQ.keep [(2, _), (3, _), (4, _), (6, _), (7, _), (8, _), (32, _)] ⟨rfl, rfl, rfl, rfl, rfl, rfl, rfl, trivial⟩ ?_
    rcases brk H with ⟨hc, H⟩ | ⟨hc, H⟩
    · refine HQ.condT rfl hc ?_
      clear hc
      refine HQ.rseq ?_
      refine HQ.pu Pu.assign ⟨rfl, trivial⟩ rfl rfl rfl ?_
      refine HQ.done ?_
      refine HQ.keep [(2, _), (3, _), (4, _), (6, _), (7, _), (8, _)] ⟨rfl, rfl, rfl, rfl, rfl, rfl, trivial⟩ ?_
      refine HQ.ret ?_
      refine HQ.thenR ?_
      obtain rfl := Option.some.inj H
      exact HQ.fin (vs := [_]) Try.results9 () ⟨rfl, trivial⟩ rfl [] trivial rfl
    · refine HQ.condF rfl hc ?_
      clear hc
      refine HQ.skipThen ?_
      refine HQ.seq ?_
      obtain ⟨t41, h42, H⟩ := bnd H
      refine HQ.drawS mixd [(2, BP b1 0), (3, BP b2 0), (4, .bool false), (6, BP g5.2.2 0), (7, BP b27 0), (8, BP g28.2 0)] 3 [⟨[0], [0], []⟩, ⟨[1], [1], []⟩, ⟨[], [2, 3], [1]⟩] [⟨none, none⟩, ⟨none, none⟩, ⟨some 2, none⟩, ⟨some 2, none⟩] (fun (g40 : ((Option Addr × Nat) × (Option Addr × Nat))) => [.agg #[.slice a23 (List.length t21.Cells) c24, .slice a25 (List.length t21.Wet) c26, .int .i64 t21.Fuse, .bool t21.Dead], .agg #[.slice a_0 (List.length p0.Cells) c_0, .slice a_1 (List.length p0.Wet) c_1, .int .i64 p0.Fuse, .bool p0.Dead], .agg #[.slice g40.1.1 (List.length t41.Cells) g40.1.2, .slice g40.2.1 (List.length t41.Wet) g40.2.2, .int .i64 t41.Fuse, .bool t41.Dead]]) (fun (g40 : ((Option Addr × Nat) × (Option Addr × Nat))) => [Box b27 [.slice a23 (List.length t21.Cells) c24, .slice a25 (List.length t21.Wet) c26, .int .i64 t21.Fuse, .bool t21.Dead], Box b1 [.slice a_0 (List.length p0.Cells) c_0, .slice a_1 (List.length p0.Wet) c_1, .int .i64 p0.Fuse, .bool p0.Dead], OwnS kTCell g40.1.1 g40.1.2 t41.Cells, OwnS kTWet g40.2.1 g40.2.2 t41.Wet]) ((none, 0), (none, 0)) [10, 1] [10, 1, 14, 15] [] ⟨rfl, rfl, rfl, rfl, rfl, rfl, trivial⟩ ⟨rfl, rfl, trivial⟩ rfl (by kernel_rfl) (fun _ => rfl) (by kernel_rfl) (fun _ => rfl) ⟨?_, ?_, ?_, trivial⟩ fun g40 => ?_
      · exact OpOK.of (fun g40 => [(.tmp 7, BP b27 0)]) _ _ (fun g40 _ => g40) rfl rfl (fun _ => ⟨rfl, trivial⟩) (fun g40 => OT.loadBA (vs := [.slice a23 (List.length t21.Cells) c24, .slice a25 (List.length t21.Wet) c26, .int .i64 t21.Fuse, .bool t21.Dead]) ag42 sz42 rfl rfl) (fun _ _ => ⟨rfl, rfl, ⟨rfl, rfl, rfl, rfl, trivial⟩⟩)
      · exact OpOK.of (fun g40 => [(.tmp 2, BP b1 0)]) _ _ (fun g40 _ => g40) rfl rfl (fun _ => ⟨rfl, trivial⟩) (fun g40 => OT.loadBA (vs := [.slice a_0 (List.length p0.Cells) c_0, .slice a_1 (List.length p0.Wet) c_1, .int .i64 p0.Fuse, .bool p0.Dead]) ag36 sz36 rfl rfl) (fun _ _ => ⟨rfl, rfl, ⟨rfl, rfl, rfl, rfl, trivial⟩⟩)
      · exact OpOK.of (fun g40 => [(.func 26, .func (.func 26) #[] #[]), (.tmp 34, .agg #[.slice a_0 (List.length p0.Cells) c_0, .slice a_1 (List.length p0.Wet) c_1, .int .i64 p0.Fuse, .bool p0.Dead])]) _ _ (fun g40 x => x) rfl rfl (fun _ => ⟨rfl, rfl, trivial⟩) (fun g40 => OT.call (us := [_]) (Pre := []) [.tmp 34] Try.call26 rfl rfl fun w F hs hF hp => laws_toDisk_c (hb_0.pass hp) (hb_1.pass hp) h42) (fun _ _ => ⟨rfl, rfl, ⟨rfl, rfl, rfl, rfl, trivial⟩⟩)
      refine HQ.keep [(2, _), (3, _), (4, _), (6, _), (7, _), (8, _), (33, _), (35, _)] ⟨rfl, rfl, rfl, rfl, rfl, rfl, rfl, rfl, trivial⟩ ?_
      refine HQ.keepR [(1, _), (2, _), (3, _), (4, _), (5, _), (6, _), (7, _), (8, _), (9, _), (10, _), (11, _), (12, _), (13, _), (14, _), (15, _)] ⟨rfl, rfl, rfl, rfl, rfl, rfl, rfl, rfl, rfl, rfl, rfl, rfl, rfl, rfl, rfl, trivial⟩ rfl ?_
      obtain ⟨t47, h48, H⟩ := bnd H
      refine HQ.op [8, 9, 14, 15] [8, 9, 14, 15] (OT.call (us := [_, _]) (Pre := [OwnS kTCell a23 c24 t21.Cells, OwnS kTWet a25 c26 t21.Wet, OwnS kTCell g40.1.1 g40.1.2 t41.Cells, OwnS kTWet g40.2.1 g40.2.2 t41.Wet]) [.tmp 33, .tmp 35] Try.call29 rfl rfl fun w F hs hF hp => laws_eqDisk_c (hs.lend hF 0 rfl) (hs.lend hF 1 rfl) (hs.lend hF 2 rfl) (hs.lend hF 3 rfl) h48) ⟨rfl, rfl, rfl, trivial⟩ ⟨rfl, rfl, rfl, rfl, trivial⟩ rfl rfl rfl rfl (fun _ => rfl) fun _ => ?_
      refine HQ.pu Pu.not ⟨rfl, trivial⟩ rfl rfl rfl ?_
      refine HQ.done ?_
      refine HQ.keep [(2, _), (3, _), (4, _), (6, _), (7, _), (8, _), (37, _)] ⟨rfl, rfl, rfl, rfl, rfl, rfl, rfl, trivial⟩ ?_
      rcases brk H with ⟨hc, H⟩ | ⟨hc, H⟩
      · refine HQ.condT rfl hc ?_
        clear hc
        refine HQ.rseq ?_
        refine HQ.pu Pu.assign ⟨rfl, trivial⟩ rfl rfl rfl ?_
        refine HQ.done ?_
        refine HQ.keep [(2, _), (3, _), (4, _), (6, _), (7, _), (8, _)] ⟨rfl, rfl, rfl, rfl, rfl, rfl, trivial⟩ ?_
        refine HQ.ret ?_
        refine HQ.thenR ?_
        obtain rfl := Option.some.inj H
        exact HQ.fin (vs := [_]) Try.results9 () ⟨rfl, trivial⟩ rfl [] trivial rfl
      · refine HQ.condF rfl hc ?_
        clear hc
        refine HQ.skipThen ?_
        refine HQ.rseq ?_
        refine HQ.pu Pu.assign ⟨rfl, trivial⟩ rfl rfl rfl ?_
        refine HQ.done ?_
        refine HQ.keep [(2, _), (3, _), (4, _), (6, _), (7, _), (8, _), (9, _)] ⟨rfl, rfl, rfl, rfl, rfl, rfl, rfl, trivial⟩ ?_
        refine HQ.rseq ?_
        refine HQ.op [10] [10] (OT.loadBA (vs := [.slice a23 (List.length t21.Cells) c24, .slice a25 (List.length t21.Wet) c26, .int .i64 t21.Fuse, .bool t21.Dead]) ag42 sz42 rfl rfl) ⟨rfl, trivial⟩ ⟨rfl, trivial⟩ rfl rfl rfl rfl (fun _ => rfl) fun _ => ?_
        refine HQ.pu Pu.move ⟨rfl, trivial⟩ rfl rfl rfl ?_
        obtain ⟨t49, h50, H⟩ := bnd H
        obtain ⟨h51, H⟩ := asr H
        obtain ⟨h52, H⟩ := asr H
        refine HQ.op [8, 9] [8, 9] (OT.callM (us := [_, _]) (PreX := [OwnS kTCell a23 c24 t21.Cells, OwnS kTWet a25 c26 t21.Wet]) (PreL := []) [.tmp 38, .tmp 39] Try.call31 rfl rfl fun w FX FL hs1 hF1 hs2 hF2 hp => laws_markDisk_c hs1 hF1 h50) ⟨rfl, rfl, rfl, trivial⟩ ⟨rfl, rfl, trivial⟩ rfl rfl rfl rfl (fun _ => rfl) fun _ => ?_
        refine HQ.re (v' := .agg #[.slice a23 (List.length t49.2.1) c24, .slice a25 (List.length t49.2.2) c26, .int .i64 t21.Fuse, .bool t21.Dead]) 38 rfl (by simp [h51, h52]) ?_
        refine HQ.reR (B := Box b27 [.slice a23 (List.length t49.2.1) c24, .slice a25 (List.length t49.2.2) c26, .int .i64 t21.Fuse, .bool t21.Dead]) 10 rfl (fun _ _ hb => by rw [show List.length t49.2.1 = List.length t21.Cells from (by simp [h51, h52]), show List.length t49.2.2 = List.length t21.Wet from (by simp [h51, h52])]; exact hb) ?_
        refine HQ.pu Pu.assign ⟨rfl, trivial⟩ rfl rfl rfl ?_
        refine HQ.done ?_
        refine HQ.keep [(2, _), (3, _), (4, _), (6, _), (8, _), (9, _)] ⟨rfl, rfl, rfl, rfl, rfl, rfl, trivial⟩ ?_
        refine HQ.seq ?_
        refine HQ.rseq ?_
        refine HQ.pu Pu.move ⟨rfl, trivial⟩ rfl rfl rfl ?_
        refine HQ.pu Pu.lss ⟨rfl, rfl, trivial⟩ rfl rfl rfl ?_
        refine HQ.pu Pu.move ⟨rfl, trivial⟩ rfl rfl rfl ?_
        obtain ⟨c56, h57, H⟩ := bnd H
        refine HQ.cutAt 5 [(48, .bool c56), (2, BP b1 0), (3, BP b2 0), (4, .bool false), (6, BP g5.2.2 0), (8, BP g28.2 0)] [(1, Box b1 [.slice a_0 (List.length p0.Cells) c_0, .slice a_1 (List.length p0.Wet) c_1, .int .i64 p0.Fuse, .bool p0.Dead]), (2, Box b2 [.int .i64 p1.Epoch, .int .i64 p1.Seq, .int .i64 p1.Root, .int .i64 p1.Size]), (3, OwnS kTCell g5.1.1.1 g5.1.1.2 t6.Cells), (4, OwnS kTWet g5.1.2.1 g5.1.2.2 t6.Wet), (5, OwnS kTCell g5.2.1.1.1 g5.2.1.1.2 t14.Cells), (6, OwnS kTWet g5.2.1.2.1 g5.2.1.2.2 t14.Wet), (7, Box g5.2.2 [.slice g5.2.1.1.1 (List.length t14.Cells) g5.2.1.1.2, .slice g5.2.1.2.1 (List.length t14.Wet) g5.2.1.2.2, .int .i64 t14.Fuse, .bool t14.Dead]), (8, OwnS kTCell a23 c24 t49.2.1), (9, OwnS kTWet a25 c26 t49.2.2), (10, Box b27 [.slice a23 (List.length t49.2.1) c24, .slice a25 (List.length t49.2.2) c26, .int .i64 t21.Fuse, .bool t21.Dead]), (11, OwnS kTCell g28.1.1.1 g28.1.1.2 t31.Cells), (12, OwnS kTWet g28.1.2.1 g28.1.2.2 t31.Wet), (13, Box g28.2 [.slice g28.1.1.1 (List.length t31.Cells) g28.1.1.2, .slice g28.1.2.1 (List.length t31.Wet) g28.1.2.2, .int .i64 t31.Fuse, .bool t31.Dead]), (14, OwnS kTCell g40.1.1 g40.1.2 t41.Cells), (15, OwnS kTWet g40.2.1 g40.2.2 t41.Wet)] ?_ ?_
        · clear H
          have H := h57
          rcases brk H with ⟨hg53, H⟩ | ⟨hg53, H⟩
          · obtain rfl := Option.some.inj H
            refine HQ.off rfl rfl hg53 rfl ?_
            refine HQ.off rfl rfl hg53 rfl ?_
            refine HQ.off rfl rfl hg53 rfl ?_
            refine HQ.off rfl rfl hg53 rfl ?_
            refine HQ.pu (Pu.pickC1 hg53) ⟨rfl, rfl, trivial⟩ rfl rfl rfl ?_
            exact HQ.mid ⟨rfl, rfl, rfl, rfl, rfl, rfl, trivial⟩ ⟨rfl, rfl, rfl, rfl, rfl, rfl, rfl, rfl, rfl, rfl, rfl, rfl, rfl, rfl, rfl, trivial⟩ rfl
          · refine HQ.on rfl rfl hg53 ?_
            refine HQ.op [13] [13] (OT.loadBA (vs := [.slice g28.1.1.1 (List.length t31.Cells) g28.1.1.2, .slice g28.1.2.1 (List.length t31.Wet) g28.1.2.2, .int .i64 t31.Fuse, .bool t31.Dead]) ag42 sz42 rfl rfl) ⟨rfl, trivial⟩ ⟨rfl, trivial⟩ rfl rfl rfl rfl (fun _ => rfl) fun _ => ?_
            refine HQ.on rfl rfl hg53 ?_
            refine HQ.op [7] [7] (OT.loadBA (vs := [.slice g5.2.1.1.1 (List.length t14.Cells) g5.2.1.1.2, .slice g5.2.1.2.1 (List.length t14.Wet) g5.2.1.2.2, .int .i64 t14.Fuse, .bool t14.Dead]) ag42 sz42 rfl rfl) ⟨rfl, trivial⟩ ⟨rfl, trivial⟩ rfl rfl rfl rfl (fun _ => rfl) fun _ => ?_
            refine HQ.on rfl rfl hg53 ?_
            obtain ⟨t54, h55, H⟩ := bnd H
            refine HQ.op [11, 12, 5, 6] [11, 12, 5, 6] (OT.call (us := [_, _]) (Pre := [OwnS kTCell g28.1.1.1 g28.1.1.2 t31.Cells, OwnS kTWet g28.1.2.1 g28.1.2.2 t31.Wet, OwnS kTCell g5.2.1.1.1 g5.2.1.1.2 t14.Cells, OwnS kTWet g5.2.1.2.1 g5.2.1.2.2 t14.Wet]) [.tmp 44, .tmp 45] Try.call29 rfl rfl fun w F hs hF hp => laws_eqDisk_c (hs.lend hF 0 rfl) (hs.lend hF 1 rfl) (hs.lend hF 2 rfl) (hs.lend hF 3 rfl) h55) ⟨rfl, rfl, rfl, trivial⟩ ⟨rfl, rfl, rfl, rfl, trivial⟩ rfl rfl rfl rfl (fun _ => rfl) fun _ => ?_
            refine HQ.on rfl rfl hg53 ?_
            refine HQ.pu Pu.not ⟨rfl, trivial⟩ rfl rfl rfl ?_
            obtain rfl := Option.some.inj H
            refine HQ.pu (Pu.pickC0 hg53) ⟨rfl, rfl, trivial⟩ rfl rfl rfl ?_
            exact HQ.mid ⟨rfl, rfl, rfl, rfl, rfl, rfl, trivial⟩ ⟨rfl, rfl, rfl, rfl, rfl, rfl, rfl, rfl, rfl, rfl, rfl, rfl, rfl, rfl, rfl, trivial⟩ rfl
        refine HQ.done ?_
        refine HQ.keep [(48, _), (2, _), (3, _), (4, _), (6, _), (8, _)] ⟨rfl, rfl, rfl, rfl, rfl, rfl, trivial⟩ ?_
        rcases brk H with ⟨hc, H⟩ | ⟨hc, H⟩
        · refine HQ.condT rfl hc ?_
          clear hc
          refine HQ.rseq ?_
          refine HQ.pu Pu.assign ⟨rfl, trivial⟩ rfl rfl rfl ?_
          refine HQ.done ?_
          refine HQ.keep [(2, _), (3, _), (4, _), (6, _), (8, _)] ⟨rfl, rfl, rfl, rfl, rfl, trivial⟩ ?_
          refine HQ.ret ?_
          refine HQ.thenR ?_
          obtain rfl := Option.some.inj H
          exact HQ.fin (vs := [_]) Try.results9 () ⟨rfl, trivial⟩ rfl [] trivial rfl
        · refine HQ.condF rfl hc ?_
          clear hc
          refine HQ.skipThen ?_
          refine HQ.rseq ?_
          refine HQ.pu Pu.assign ⟨rfl, trivial⟩ rfl rfl rfl ?_
          refine HQ.done ?_
          refine HQ.keep [(2, _), (3, _), (4, _), (6, _), (8, _), (10, _)] ⟨rfl, rfl, rfl, rfl, rfl, rfl, trivial⟩ ?_
          refine HQ.rseq ?_
          refine HQ.op [13] [13] (OT.loadBA (vs := [.slice g28.1.1.1 (List.length t31.Cells) g28.1.1.2, .slice g28.1.2.1 (List.length t31.Wet) g28.1.2.2, .int .i64 t31.Fuse, .bool t31.Dead]) ag42 sz42 rfl rfl) ⟨rfl, trivial⟩ ⟨rfl, trivial⟩ rfl rfl rfl rfl (fun _ => rfl) fun _ => ?_
          refine HQ.pu Pu.move ⟨rfl, trivial⟩ rfl rfl rfl ?_
          obtain ⟨t58, h59, H⟩ := bnd H
          obtain ⟨h60, H⟩ := asr H
          obtain ⟨h61, H⟩ := asr H
          refine HQ.op [11, 12] [11, 12] (OT.callM (us := [_, _]) (PreX := [OwnS kTCell g28.1.1.1 g28.1.1.2 t31.Cells, OwnS kTWet g28.1.2.1 g28.1.2.2 t31.Wet]) (PreL := []) [.tmp 49, .tmp 50] Try.call31 rfl rfl fun w FX FL hs1 hF1 hs2 hF2 hp => laws_markDisk_c hs1 hF1 h59) ⟨rfl, rfl, rfl, trivial⟩ ⟨rfl, rfl, trivial⟩ rfl rfl rfl rfl (fun _ => rfl) fun _ => ?_
          refine HQ.re (v' := .agg #[.slice g28.1.1.1 (List.length t58.2.1) g28.1.1.2, .slice g28.1.2.1 (List.length t58.2.2) g28.1.2.2, .int .i64 t31.Fuse, .bool t31.Dead]) 49 rfl (by simp [h51, h52, h60, h61]) ?_
          refine HQ.reR (B := Box g28.2 [.slice g28.1.1.1 (List.length t58.2.1) g28.1.1.2, .slice g28.1.2.1 (List.length t58.2.2) g28.1.2.2, .int .i64 t31.Fuse, .bool t31.Dead]) 13 rfl (fun _ _ hb => by rw [show List.length t58.2.1 = List.length t31.Cells from (by simp [h51, h52, h60, h61]), show List.length t58.2.2 = List.length t31.Wet from (by simp [h51, h52, h60, h61])]; exact hb) ?_
          refine HQ.pu Pu.assign ⟨rfl, trivial⟩ rfl rfl rfl ?_
          refine HQ.done ?_
          refine HQ.keep [(2, _), (3, _), (4, _), (6, _), (8, _), (10, _)] ⟨rfl, rfl, rfl, rfl, rfl, rfl, trivial⟩ ?_
          refine HQ.rseq ?_
          refine HQ.pu Pu.assign ⟨rfl, trivial⟩ rfl rfl rfl ?_
          refine HQ.done ?_
          refine HQ.keep [(2, _), (3, _), (4, _), (6, _), (8, _), (10, _), (11, _)] ⟨rfl, rfl, rfl, rfl, rfl, rfl, rfl, trivial⟩ ?_
          refine HQ.rseq ?_
          refine HQ.op [13] [13] (OT.loadBA (vs := [.slice g28.1.1.1 (List.length t58.2.1) g28.1.1.2, .slice g28.1.2.1 (List.length t58.2.2) g28.1.2.2, .int .i64 t31.Fuse, .bool t31.Dead]) ag42 sz42 rfl rfl) ⟨rfl, trivial⟩ ⟨rfl, trivial⟩ rfl rfl rfl rfl (fun _ => rfl) fun _ => ?_
          refine HQ.pu Pu.move ⟨rfl, trivial⟩ rfl rfl rfl ?_
          obtain ⟨t62, h63, H⟩ := bnd H
          refine HQ.op [11, 12] [11, 12] (OT.call (us := [_, _]) (Pre := [OwnS kTCell g28.1.1.1 g28.1.1.2 t58.2.1, OwnS kTWet g28.1.2.1 g28.1.2.2 t58.2.2]) [.tmp 52, .tmp 53] Try.call33 rfl rfl fun w F hs hF hp => laws_heldDisk_c (hs.lend hF 0 rfl) (hs.lend hF 1 rfl) h63) ⟨rfl, rfl, rfl, trivial⟩ ⟨rfl, rfl, trivial⟩ rfl rfl rfl rfl (fun _ => rfl) fun _ => ?_
          refine HQ.pu Pu.assign ⟨rfl, trivial⟩ rfl rfl rfl ?_
          refine HQ.done ?_
          refine HQ.keep [(2, _), (3, _), (4, _), (6, _), (8, _), (10, _), (11, _)] ⟨rfl, rfl, rfl, rfl, rfl, rfl, rfl, trivial⟩ ?_
          refine HQ.seq ?_
          refine HQ.rseq ?_
          refine HQ.pu Pu.move ⟨rfl, trivial⟩ rfl rfl rfl ?_
          refine HQ.pu Pu.lss ⟨rfl, rfl, trivial⟩ rfl rfl rfl ?_
          refine HQ.done ?_
          refine HQ.keep [(2, _), (3, _), (4, _), (6, _), (8, _), (10, _), (11, _), (56, _)] ⟨rfl, rfl, rfl, rfl, rfl, rfl, rfl, rfl, trivial⟩ ?_
          rcases brk H with ⟨hc, H⟩ | ⟨hc, H⟩
          · refine HQ.condT rfl hc ?_
            clear hc
            refine HQ.rseq ?_
            refine HQ.pu Pu.assign ⟨rfl, trivial⟩ rfl rfl rfl ?_
            refine HQ.done ?_
            refine HQ.keep [(2, _), (3, _), (4, _), (6, _), (8, _), (10, _), (11, _)] ⟨rfl, rfl, rfl, rfl, rfl, rfl, rfl, trivial⟩ ?_
            refine HQ.ret ?_
            refine HQ.thenR ?_
            obtain rfl := Option.some.inj H
            exact HQ.fin (vs := [_]) Try.results9 () ⟨rfl, trivial⟩ rfl [] trivial rfl
          · refine HQ.condF rfl hc ?_
            clear hc
            refine HQ.skipThen ?_
            refine HQ.seq ?_
            refine HQ.rseq ?_
            refine HQ.pu Pu.move ⟨rfl, trivial⟩ rfl rfl rfl ?_
            refine HQ.pu Pu.move ⟨rfl, trivial⟩ rfl rfl rfl ?_
            refine HQ.pu Pu.neq ⟨rfl, rfl, trivial⟩ rfl rfl rfl ?_
            refine HQ.done ?_
            refine HQ.keep [(2, _), (3, _), (4, _), (6, _), (8, _), (10, _), (59, _)] ⟨rfl, rfl, rfl, rfl, rfl, rfl, rfl, trivial⟩ ?_
            rcases brk H with ⟨hc, H⟩ | ⟨hc, H⟩
            · refine HQ.condT rfl hc ?_
              clear hc
              refine HQ.rseq ?_
              refine HQ.pu Pu.assign ⟨rfl, trivial⟩ rfl rfl rfl ?_
              refine HQ.done ?_
              refine HQ.keep [(2, _), (3, _), (4, _), (6, _), (8, _), (10, _)] ⟨rfl, rfl, rfl, rfl, rfl, rfl, trivial⟩ ?_
              refine HQ.ret ?_
              refine HQ.thenR ?_
              obtain rfl := Option.some.inj H
              exact HQ.fin (vs := [_]) Try.results9 () ⟨rfl, trivial⟩ rfl [] trivial rfl
            · refine HQ.condF rfl hc ?_
              clear hc
              refine HQ.skipThen ?_
              obtain ⟨t65, h66, H⟩ := bnd H
              obtain ⟨t71, h72, H⟩ := bnd H
              obtain ⟨t73, h74, H⟩ := bnd H
              refine HQ.drawS mixd [(2, BP b1 0), (3, BP b2 0), (4, .bool false), (6, BP g5.2.2 0), (8, BP g28.2 0), (10, .int .i64 t58.1)] 6 [⟨[0], [0], []⟩, ⟨[], [1, 2], [0]⟩, ⟨[3], [3], []⟩, ⟨[], [], [2]⟩, ⟨[1, 2], [4, 5, 1, 2], [1, 3]⟩, ⟨[], [6], []⟩] [⟨none, none⟩, ⟨some 1, none⟩, ⟨some 1, none⟩, ⟨none, none⟩, ⟨some 4, none⟩, ⟨some 4, none⟩, ⟨some 5, none⟩] (fun (g64 : ((Option Addr × Nat) × (Option Addr × Nat)) × ((Option Addr × Nat) × (Option Addr × Nat)) × Nat) => [.agg #[.slice a_0 (List.length p0.Cells) c_0, .slice a_1 (List.length p0.Wet) c_1, .int .i64 p0.Fuse, .bool p0.Dead], .agg #[.slice g64.1.1.1 (List.length t65.Cells) g64.1.1.2, .slice g64.1.2.1 (List.length t65.Wet) g64.1.2.2, .int .i64 t65.Fuse, .bool t65.Dead], .agg #[.int .i64 p1.Epoch, .int .i64 p1.Seq, .int .i64 p1.Root, .int .i64 p1.Size], .agg #[.int .i64 t71.Epoch, .int .i64 t71.Seq, .int .i64 t71.Root, .int .i64 t71.Size], .agg #[.slice g64.2.1.1.1 (List.length t73.Cells) g64.2.1.1.2, .slice g64.2.1.2.1 (List.length t73.Wet) g64.2.1.2.2, .int .i64 t73.Fuse, .bool t73.Dead], BP g64.2.2 0]) (fun (g64 : ((Option Addr × Nat) × (Option Addr × Nat)) × ((Option Addr × Nat) × (Option Addr × Nat)) × Nat) => [Box b1 [.slice a_0 (List.length p0.Cells) c_0, .slice a_1 (List.length p0.Wet) c_1, .int .i64 p0.Fuse, .bool p0.Dead], OwnS kTCell g64.1.1.1 g64.1.1.2 t65.Cells, OwnS kTWet g64.1.2.1 g64.1.2.2 t65.Wet, Box b2 [.int .i64 p1.Epoch, .int .i64 p1.Seq, .int .i64 p1.Root, .int .i64 p1.Size], OwnS kTCell g64.2.1.1.1 g64.2.1.1.2 t73.Cells, OwnS kTWet g64.2.1.2.1 g64.2.1.2.2 t73.Wet, Box g64.2.2 [.slice none 0 0, .slice none 0 0, .int .i64 0, .bool false]]) (((none, 0), (none, 0)), ((none, 0), (none, 0)), 0) [1, 2] [1, 16, 17, 2, 18, 19, 20] [] ⟨rfl, rfl, rfl, rfl, rfl, rfl, trivial⟩ ⟨rfl, rfl, trivial⟩ rfl (by kernel_rfl) (fun _ => rfl) (by kernel_rfl) (fun _ => rfl) ⟨?_, ?_, ?_, ?_, ?_, ?_, trivial⟩ fun g64 => ?_
              · exact OpOK.of (fun g64 => [(.tmp 2, BP b1 0)]) _ _ (fun g64 _ => g64) rfl rfl (fun _ => ⟨rfl, trivial⟩) (fun g64 => OT.loadBA (vs := [.slice a_0 (List.length p0.Cells) c_0, .slice a_1 (List.length p0.Wet) c_1, .int .i64 p0.Fuse, .bool p0.Dead]) ag36 sz36 rfl rfl) (fun _ _ => ⟨rfl, rfl, ⟨rfl, rfl, rfl, rfl, rfl, rfl, rfl, trivial⟩⟩)
              · exact OpOK.of (fun g64 => [(.func 26, .func (.func 26) #[] #[]), (.tmp 60, .agg #[.slice a_0 (List.length p0.Cells) c_0, .slice a_1 (List.length p0.Wet) c_1, .int .i64 p0.Fuse, .bool p0.Dead])]) _ _ (fun g64 x => (x, g64.2.1, g64.2.2)) rfl rfl (fun _ => ⟨rfl, rfl, trivial⟩) (fun g64 => OT.call (us := [_]) (Pre := []) [.tmp 60] Try.call26 rfl rfl fun w F hs hF hp => laws_toDisk_c (hb_0.pass hp) (hb_1.pass hp) h66) (fun _ _ => ⟨rfl, rfl, ⟨rfl, rfl, rfl, rfl, rfl, rfl, rfl, trivial⟩⟩)
              · exact OpOK.of (fun g64 => [(.tmp 3, BP b2 0)]) _ _ (fun g64 _ => g64) rfl rfl (fun _ => ⟨rfl, trivial⟩) (fun g64 => OT.loadBA (vs := [.int .i64 p1.Epoch, .int .i64 p1.Seq, .int .i64 p1.Root, .int .i64 p1.Size]) ag73 sz73 rfl rfl) (fun _ _ => ⟨rfl, rfl, ⟨rfl, rfl, rfl, rfl, rfl, rfl, rfl, trivial⟩⟩)
              · exact OpOK.of (fun g64 => [(.func 50, .func (.func 50) #[] #[]), (.tmp 62, .agg #[.int .i64 p1.Epoch, .int .i64 p1.Seq, .int .i64 p1.Root, .int .i64 p1.Size])]) _ _ (fun g64 _ => g64) rfl rfl (fun _ => ⟨rfl, rfl, trivial⟩) (fun g64 => OT.call (us := [_]) (Pre := []) [.tmp 62] Try.call50 rfl rfl fun w F hs hF hp => laws_toHead_c h72) (fun _ _ => ⟨rfl, rfl, ⟨rfl, rfl, rfl, rfl, rfl, rfl, rfl, trivial⟩⟩)
              · exact OpOK.of (fun g64 => [(.func 51, .func (.func 51) #[] #[]), (.tmp 61, .agg #[.slice g64.1.1.1 (List.length t65.Cells) g64.1.1.2, .slice g64.1.2.1 (List.length t65.Wet) g64.1.2.2, .int .i64 t65.Fuse, .bool t65.Dead]), (.tmp 63, .agg #[.int .i64 t71.Epoch, .int .i64 t71.Seq, .int .i64 t71.Root, .int .i64 t71.Size])]) _ _ (fun g64 x => (g64.1, x, g64.2.2)) rfl rfl (fun _ => ⟨rfl, rfl, rfl, trivial⟩) (fun g64 => OT.call (us := [_, _]) (Pre := [OwnS kTCell g64.1.1.1 g64.1.1.2 t65.Cells, OwnS kTWet g64.1.2.1 g64.1.2.2 t65.Wet]) [.tmp 61, .tmp 63] Try.call51 rfl rfl fun w F hs hF hp => impl_PutHead_c (hs.lend hF 0 rfl) (hs.lend hF 1 rfl) h74) (fun _ _ => ⟨rfl, rfl, ⟨rfl, rfl, rfl, rfl, rfl, rfl, rfl, trivial⟩⟩)
              · exact OpOK.of (fun g64 => []) _ _ (fun g64 x => (g64.1, g64.2.1, x)) rfl rfl (fun _ => trivial) (fun g64 => OT.alloc zc42) (fun _ _ => ⟨rfl, rfl, ⟨rfl, rfl, rfl, rfl, rfl, rfl, rfl, trivial⟩⟩)
              refine HQ.keep [(4, _), (6, _), (8, _), (10, _), (64, _), (12, _)] ⟨rfl, rfl, rfl, rfl, rfl, rfl, trivial⟩ ?_
              refine HQ.keepR [(1, _), (2, _), (3, _), (4, _), (5, _), (6, _), (7, _), (8, _), (9, _), (10, _), (11, _), (12, _), (13, _), (14, _), (15, _), (16, _), (17, _), (18, _), (19, _), (20, _)] ⟨rfl, rfl, rfl, rfl, rfl, rfl, rfl, rfl, rfl, rfl, rfl, rfl, rfl, rfl, rfl, rfl, rfl, rfl, rfl, rfl, trivial⟩ rfl ?_
              refine HQ.opN [20] [20] [] (OT.storeC (cs' := [.slice g64.2.1.1.1 (List.length t73.Cells) g64.2.1.1.2, .slice g64.2.1.2.1 (List.length t73.Wet) g64.2.1.2.2, .int .i64 t73.Fuse, .bool t73.Dead]) sz42 rfl rfl rfl rfl rfl) ⟨rfl, rfl, trivial⟩ ⟨rfl, trivial⟩ rfl rfl rfl (fun _ => rfl) fun _ => ?_
              refine HQ.done ?_
              refine HQ.keep [(4, _), (6, _), (8, _), (10, _), (12, _)] ⟨rfl, rfl, rfl, rfl, rfl, trivial⟩ ?_
              refine HQ.seq ?_
              refine HQ.rseq ?_
              refine HQ.op [20] [20] (OT.loadBA (vs := [.slice g64.2.1.1.1 (List.length t73.Cells) g64.2.1.1.2, .slice g64.2.1.2.1 (List.length t73.Wet) g64.2.1.2.2, .int .i64 t73.Fuse, .bool t73.Dead]) ag42 sz42 rfl rfl) ⟨rfl, trivial⟩ ⟨rfl, trivial⟩ rfl rfl rfl rfl (fun _ => rfl) fun _ => ?_
              refine HQ.op [7] [7] (OT.loadBA (vs := [.slice g5.2.1.1.1 (List.length t14.Cells) g5.2.1.1.2, .slice g5.2.1.2.1 (List.length t14.Wet) g5.2.1.2.2, .int .i64 t14.Fuse, .bool t14.Dead]) ag42 sz42 rfl rfl) ⟨rfl, trivial⟩ ⟨rfl, trivial⟩ rfl rfl rfl rfl (fun _ => rfl) fun _ => ?_
              obtain ⟨t80, h81, H⟩ := bnd H
              refine HQ.op [18, 19, 5, 6] [18, 19, 5, 6] (OT.call (us := [_, _]) (Pre := [OwnS kTCell g64.2.1.1.1 g64.2.1.1.2 t73.Cells, OwnS kTWet g64.2.1.2.1 g64.2.1.2.2 t73.Wet, OwnS kTCell g5.2.1.1.1 g5.2.1.1.2 t14.Cells, OwnS kTWet g5.2.1.2.1 g5.2.1.2.2 t14.Wet]) [.tmp 65, .tmp 66] Try.call29 rfl rfl fun w F hs hF hp => laws_eqDisk_c (hs.lend hF 0 rfl) (hs.lend hF 1 rfl) (hs.lend hF 2 rfl) (hs.lend hF 3 rfl) h81) ⟨rfl, rfl, rfl, trivial⟩ ⟨rfl, rfl, rfl, rfl, trivial⟩ rfl rfl rfl rfl (fun _ => rfl) fun _ => ?_
              refine HQ.pu Pu.not ⟨rfl, trivial⟩ rfl rfl rfl ?_
              refine HQ.done ?_
              refine HQ.keep [(4, _), (8, _), (10, _), (68, _)] ⟨rfl, rfl, rfl, rfl, trivial⟩ ?_
              rcases brk H with ⟨hc, H⟩ | ⟨hc, H⟩
              · refine HQ.condT rfl hc ?_
                clear hc
                refine HQ.rseq ?_
                refine HQ.pu Pu.assign ⟨rfl, trivial⟩ rfl rfl rfl ?_
                refine HQ.done ?_
                refine HQ.keep [(4, _), (8, _), (10, _)] ⟨rfl, rfl, rfl, trivial⟩ ?_
                refine HQ.ret ?_
                refine HQ.thenR ?_
                obtain rfl := Option.some.inj H
                exact HQ.fin (vs := [_]) Try.results9 () ⟨rfl, trivial⟩ rfl [] trivial rfl
              · refine HQ.condF rfl hc ?_
                clear hc
                refine HQ.skipThen ?_
                refine HQ.rseq ?_
                refine HQ.pu Pu.assign ⟨rfl, trivial⟩ rfl rfl rfl ?_
                refine HQ.done ?_
                refine HQ.keep [(4, _), (8, _), (10, _), (11, _)] ⟨rfl, rfl, rfl, rfl, trivial⟩ ?_
                refine HQ.rseq ?_
                refine HQ.op [13] [13] (OT.loadBA (vs := [.slice g28.1.1.1 (List.length t58.2.1) g28.1.1.2, .slice g28.1.2.1 (List.length t58.2.2) g28.1.2.2, .int .i64 t31.Fuse, .bool t31.Dead]) ag42 sz42 rfl rfl) ⟨rfl, trivial⟩ ⟨rfl, trivial⟩ rfl rfl rfl rfl (fun _ => rfl) fun _ => ?_
                refine HQ.pu Pu.move ⟨rfl, trivial⟩ rfl rfl rfl ?_
                obtain ⟨t82, h83, H⟩ := bnd H
                refine HQ.op [11, 12] [11, 12] (OT.call (us := [_, _]) (Pre := [OwnS kTCell g28.1.1.1 g28.1.1.2 t58.2.1, OwnS kTWet g28.1.2.1 g28.1.2.2 t58.2.2]) [.tmp 69, .tmp 70] Try.call33 rfl rfl fun w F hs hF hp => laws_heldDisk_c (hs.lend hF 0 rfl) (hs.lend hF 1 rfl) h83) ⟨rfl, rfl, rfl, trivial⟩ ⟨rfl, rfl, trivial⟩ rfl rfl rfl rfl (fun _ => rfl) fun _ => ?_
                refine HQ.pu Pu.assign ⟨rfl, trivial⟩ rfl rfl rfl ?_
                refine HQ.done ?_
                refine HQ.keep [(4, _), (10, _), (11, _)] ⟨rfl, rfl, rfl, trivial⟩ ?_
                refine HQ.seq ?_
                refine HQ.rseq ?_
                refine HQ.pu Pu.move ⟨rfl, trivial⟩ rfl rfl rfl ?_
                refine HQ.pu Pu.lss ⟨rfl, rfl, trivial⟩ rfl rfl rfl ?_
                refine HQ.done ?_
                refine HQ.keep [(4, _), (10, _), (11, _), (73, _)] ⟨rfl, rfl, rfl, rfl, trivial⟩ ?_
                rcases brk H with ⟨hc, H⟩ | ⟨hc, H⟩
                · refine HQ.condT rfl hc ?_
                  clear hc
                  refine HQ.rseq ?_
                  refine HQ.pu Pu.assign ⟨rfl, trivial⟩ rfl rfl rfl ?_
                  refine HQ.done ?_
                  refine HQ.keep [(4, _), (10, _), (11, _)] ⟨rfl, rfl, rfl, trivial⟩ ?_
                  refine HQ.ret ?_
                  refine HQ.thenR ?_
                  obtain rfl := Option.some.inj H
                  exact HQ.fin (vs := [_]) Try.results9 () ⟨rfl, trivial⟩ rfl [] trivial rfl
                · refine HQ.condF rfl hc ?_
                  clear hc
                  refine HQ.skipThen ?_
                  refine HQ.seq ?_
                  refine HQ.rseq ?_
                  refine HQ.pu Pu.move ⟨rfl, trivial⟩ rfl rfl rfl ?_
                  refine HQ.pu Pu.move ⟨rfl, trivial⟩ rfl rfl rfl ?_
                  refine HQ.pu Pu.neq ⟨rfl, rfl, trivial⟩ rfl rfl rfl ?_
                  refine HQ.done ?_
                  refine HQ.keep [(4, _), (76, _)] ⟨rfl, rfl, trivial⟩ ?_
                  rcases brk H with ⟨hc, H⟩ | ⟨hc, H⟩
                  · refine HQ.condT rfl hc ?_
                    clear hc
                    refine HQ.rseq ?_
                    refine HQ.pu Pu.assign ⟨rfl, trivial⟩ rfl rfl rfl ?_
                    refine HQ.done ?_
                    refine HQ.keep [(4, _)] ⟨rfl, trivial⟩ ?_
                    refine HQ.ret ?_
                    refine HQ.thenR ?_
                    obtain rfl := Option.some.inj H
                    exact HQ.fin (vs := [_]) Try.results9 () ⟨rfl, trivial⟩ rfl [] trivial rfl
                  · refine HQ.condF rfl hc ?_
                    clear hc
                    refine HQ.skipThen ?_
                    refine HQ.rseq ?_
                    refine HQ.pu Pu.assign ⟨rfl, trivial⟩ rfl rfl rfl ?_
                    refine HQ.done ?_
                    refine HQ.keep [(4, _)] ⟨rfl, trivial⟩ ?_
                    refine HQ.ret ?_
                    obtain rfl := Option.some.inj H
                    exact HQ.fin (vs := [_]) Try.results9 () ⟨rfl, trivial⟩ rfl [] trivial rfl

end Go.Proofs.Sx
