import Derived.Test.YtgfhnepkpbmbcaaHF1
import Derived.KernelRfl
namespace Go.Proofs.Sx
open Go.RowKit
set_option linter.unusedVariables false
set_option linter.unusedSimpArgs false
set_option maxRecDepth 20000
set_option maxHeartbeats 1000000
/-! spec.Read -/
theorem spec_Read_c {w : World} {k : Nat} {p0 : TDisk} {p1 : Int} {a_0 : Option Addr} {c_0 : Nat} {a_1 : Option Addr} {c_1 : Nat} (hb_0 : BorS kTCell a_0 c_0 p0.Cells w.heap (Lt w Nil)) (hb_1 : BorS kTWet a_1 c_1 p0.Wet w.heap (Lt w Nil)) {r : (List Int) × Bool} (H : spec_Read k p0 p1 = some r) :
    Calls Try.prog 108 #[.agg #[.slice a_0 (List.length p0.Cells) c_0, .slice a_1 (List.length p0.Wet) c_1, .int .i64 p0.Fuse, .bool p0.Dead], .int .i64 p1] w (Rt w Nil (fun g : Option Addr × Nat => .tuple #[.slice g.1 (List.length r.1) g.2, .bool r.2]) (fun g => [OwnS kU8 g.1 g.2 r.1])) := by
  rw [spec_Read] at H
  refine Calls.enter0 (N := 65) (us := [_, _]) Try.func108 rfl rfl rfl ?_
  refine HQ.rseq ?_
  refine HQ.op [] [1] (OT.box (cs := [.slice a_0 (List.length p0.Cells) c_0, .slice a_1 (List.length p0.Wet) c_1, .int .i64 p0.Fuse, .bool p0.Dead]) rfl) ⟨rfl, trivial⟩ trivial rfl rfl rfl rfl (fun _ => rfl) fun b1 => ?_
  refine HQ.pu Pu.assign ⟨rfl, trivial⟩ rfl rfl rfl ?_
  refine HQ.pu Pu.assign ⟨rfl, trivial⟩ rfl rfl rfl ?_
  refine HQ.done ?_
  refine HQ.keep [(1, _), (2, _), (4, _), (5, _)] ⟨rfl, rfl, rfl, rfl, trivial⟩ ?_
  refine HQ.seq ?_
  refine HQ.rseq ?_
  refine HQ.pu (Pu.fieldB fo42_1 rfl) ⟨rfl, trivial⟩ rfl rfl rfl ?_
  refine HQ.op [1] [1] (OT.loadB sc40 rfl) ⟨rfl, trivial⟩ ⟨rfl, trivial⟩ rfl rfl rfl rfl (fun _ => rfl) fun _ => ?_
  refine HQ.pu (Pu.len ul40) ⟨rfl, trivial⟩ rfl rfl rfl ?_
  refine HQ.pu Pu.sub ⟨rfl, rfl, trivial⟩ rfl rfl rfl ?_
  refine HQ.pu Pu.assign ⟨rfl, trivial⟩ rfl rfl rfl ?_
  refine HQ.done ?_
  refine HQ.keep [(1, _), (2, _), (4, _), (5, _), (6, _)] ⟨rfl, rfl, rfl, rfl, rfl, trivial⟩ ?_
  refine HQ.block ?_
  obtain ⟨o48, h80, H⟩ := bnd H
  refine HQ.loop h80 0 (fun (s : Int) (g : Unit) => match s, g with | i17, () => [(1, .int .i64 p1), (2, BP b1 0), (4, .slice none 0 0), (5, .bool false), (6, .int .i64 i17)]) (fun (s : Int) (g : Unit) => match s, g with | i17, () => [(1, Box b1 [.slice a_0 (List.length p0.Cells) c_0, .slice a_1 (List.length p0.Wet) c_1, .int .i64 p0.Fuse, .bool p0.Dead])]) (fun r => bodyPost Try.prog Try.f108 (Rt w Nil (fun g : Option Addr × Nat => .tuple #[.slice g.1 (List.length r.1) g.2, .bool r.2]) (fun g => [OwnS kU8 g.1 g.2 r.1])) .ret) () ⟨rfl, rfl, rfl, rfl, rfl, trivial⟩ ⟨rfl, trivial⟩ rfl ?_ ?_ ?_
  · clear H h80
    rintro i17 _ o H
    rw [spec_Read_b0] at H
    refine HQ.keep [(1, _), (2, _), (4, _), (5, _), (6, _)] ⟨rfl, rfl, rfl, rfl, rfl, trivial⟩ ?_
    refine HQ.keepR [(1, _)] ⟨rfl, trivial⟩ rfl ?_
    refine HQ.seq ?_
    refine HQ.rseq ?_
    refine HQ.pu Pu.move ⟨rfl, trivial⟩ rfl rfl rfl ?_
    refine HQ.pu Pu.geq ⟨rfl, rfl, trivial⟩ rfl rfl rfl ?_
    refine HQ.done ?_
    refine HQ.keep [(1, _), (2, _), (4, _), (5, _), (6, _), (12, _)] ⟨rfl, rfl, rfl, rfl, rfl, rfl, trivial⟩ ?_
    rcases brk H with ⟨hc, H⟩ | ⟨hc, H⟩
    · refine HQ.condT rfl hc ?_
      clear hc
      refine HQ.skipThen ?_
      refine HQ.seq ?_
      refine HQ.block ?_
      refine HQ.rseq ?_
      refine HQ.pu (Pu.fieldB fo42_1 rfl) ⟨rfl, trivial⟩ rfl rfl rfl ?_
      refine HQ.op [1] [1] (OT.loadB sc40 rfl) ⟨rfl, trivial⟩ ⟨rfl, trivial⟩ rfl rfl rfl rfl (fun _ => rfl) fun _ => ?_
      refine HQ.pu Pu.move ⟨rfl, trivial⟩ rfl rfl rfl ?_
      obtain ⟨h33, H⟩ := asr H
      refine HQ.op [] [] (OT.indexB ul40 sz130 hb_1 h33) ⟨rfl, rfl, trivial⟩ trivial rfl rfl rfl rfl (fun _ => rfl) fun _ => ?_
      refine HQ.pu (Pu.fieldE fo130_0 rfl) ⟨rfl, trivial⟩ rfl rfl rfl ?_
      obtain ⟨⟨a34, c35⟩, hb36, hn37⟩ := BorS.nest hb_1 h33
      refine HQ.op [] [] (OT.loadN (v := .int .i64 ((gt p0.Wet i17).At)) sc3 hn37 hlTWet rfl) ⟨rfl, trivial⟩ trivial rfl rfl rfl rfl (fun _ => rfl) fun _ => ?_
      refine HQ.pu Pu.move ⟨rfl, trivial⟩ rfl rfl rfl ?_
      refine HQ.pu Pu.eql ⟨rfl, rfl, trivial⟩ rfl rfl rfl ?_
      refine HQ.done ?_
      refine HQ.keep [(1, _), (2, _), (4, _), (5, _), (6, _), (22, _)] ⟨rfl, rfl, rfl, rfl, rfl, rfl, trivial⟩ ?_
      rcases brk H with ⟨hc, H⟩ | ⟨hc, H⟩
      · refine HQ.condT rfl hc ?_
        clear hc
        refine HQ.rseq ?_
        refine HQ.op [] [4] (OT.buildF (us := []) (ys := ([] : (List Int))) (enc := (encI .u8)) (hl := fun _ => ⟨rfl, rfl⟩) [] sl37.ul sl37.szE sl37.zc rfl rfl rfl rfl rfl) trivial trivial rfl rfl rfl rfl (fun _ => rfl) fun ⟨a38, c39⟩ => ?_
        refine HQ.pu (Pu.fieldB fo42_1 rfl) ⟨rfl, trivial⟩ rfl rfl rfl ?_
        refine HQ.op [1] [1] (OT.loadB sc40 rfl) ⟨rfl, trivial⟩ ⟨rfl, trivial⟩ rfl rfl rfl rfl (fun _ => rfl) fun _ => ?_
        refine HQ.pu Pu.move ⟨rfl, trivial⟩ rfl rfl rfl ?_
        obtain ⟨h40, H⟩ := asr H
        refine HQ.op [] [] (OT.indexB ul40 sz130 hb_1 h40) ⟨rfl, rfl, trivial⟩ trivial rfl rfl rfl rfl (fun _ => rfl) fun _ => ?_
        refine HQ.pu (Pu.fieldE fo130_1 rfl) ⟨rfl, trivial⟩ rfl rfl rfl ?_
        obtain ⟨⟨a41, c42⟩, hb43, hn44⟩ := BorS.nest hb_1 h40
        refine HQ.op [] [] (OT.loadN (v := .slice a41 (List.length ((gt p0.Wet i17).B)) c42) sc37 hn44 hlTWet rfl) ⟨rfl, trivial⟩ trivial rfl rfl rfl rfl (fun _ => rfl) fun _ => ?_
        obtain ⟨h47, H⟩ := asr H
        refine HQ.op [4] [4] (OT.appendF (enc := (encI .u8)) (hl := fun _ => ⟨rfl, rfl⟩) sl37 ul37 hb43 h47) ⟨rfl, rfl, trivial⟩ ⟨rfl, trivial⟩ rfl rfl rfl rfl (fun _ => rfl) fun ⟨a45, c46⟩ => ?_
        refine HQ.pu Pu.assign ⟨rfl, trivial⟩ rfl rfl rfl ?_
        refine HQ.pu Pu.assign ⟨rfl, trivial⟩ rfl rfl rfl ?_
        refine HQ.done ?_
        refine HQ.keep [(1, _), (2, _), (4, _), (5, _), (6, _)] ⟨rfl, rfl, rfl, rfl, rfl, trivial⟩ ?_
        refine HQ.ret ?_
        refine HQ.blkR ?_
        refine HQ.thenR ?_
        obtain rfl := Option.some.inj H
        refine HQ.retL ?_
        exact HQ.fin (vs := [_, _]) Try.results108 (a45, c46) ⟨rfl, rfl, trivial⟩ rfl [4] ⟨rfl, trivial⟩ rfl
      · refine HQ.condF rfl hc ?_
        clear hc
        refine HQ.skip ?_
        refine HQ.blkN ?_
        refine HQ.thenN ?_
        refine HQ.regionQ ?_
        refine HQ.pu Pu.move ⟨rfl, trivial⟩ rfl rfl rfl ?_
        refine HQ.pu Pu.sub ⟨rfl, rfl, trivial⟩ rfl rfl rfl ?_
        refine HQ.pu Pu.assign ⟨rfl, trivial⟩ rfl rfl rfl ?_
        refine HQ.done ?_
        refine HQ.keep [(1, _), (2, _), (4, _), (5, _), (6, _)] ⟨rfl, rfl, rfl, rfl, rfl, trivial⟩ ?_
        obtain rfl := Option.some.inj H
        exact HQ.next () ⟨rfl, rfl, rfl, rfl, rfl, trivial⟩ ⟨rfl, trivial⟩ rfl
    · refine HQ.condF rfl hc ?_
      clear hc
      refine HQ.exit ?_
      refine HQ.thenE ?_
      obtain rfl := Option.some.inj H
      exact HQ.out () ⟨rfl, rfl, rfl, rfl, rfl, trivial⟩ ⟨rfl, trivial⟩ rfl
  · rintro i49 rfl _
    clear h80
    replace H := H
    refine HQ.keep [(1, _), (2, _), (4, _), (5, _), (6, _)] ⟨rfl, rfl, rfl, rfl, rfl, trivial⟩ ?_
    refine HQ.keepR [(1, _)] ⟨rfl, trivial⟩ rfl ?_
    refine HQ.blkE ?_
    refine HQ.thenN ?_
    refine HQ.seq ?_
    refine HQ.rseq ?_
    refine HQ.pu Pu.move ⟨rfl, trivial⟩ rfl rfl rfl ?_
    refine HQ.pu (Pu.fieldB fo42_0 rfl) ⟨rfl, trivial⟩ rfl rfl rfl ?_
    refine HQ.op [1] [1] (OT.loadB sc39 rfl) ⟨rfl, trivial⟩ ⟨rfl, trivial⟩ rfl rfl rfl rfl (fun _ => rfl) fun _ => ?_
    refine HQ.pu (Pu.len ul39) ⟨rfl, trivial⟩ rfl rfl rfl ?_
    refine HQ.pu Pu.sub ⟨rfl, rfl, trivial⟩ rfl rfl rfl ?_
    obtain ⟨t50, h51, H⟩ := bnd H
    refine HQ.op [] [] (OT.call (us := [_, _, _]) (Pre := []) [.tmp 31, .const (.int .i64 0), .tmp 35] Try.call85 rfl rfl fun w F hs hF hp => spec_l1In_c h51) ⟨rfl, rfl, rfl, rfl, trivial⟩ trivial rfl rfl rfl rfl (fun _ => rfl) fun _ => ?_
    refine HQ.pu Pu.not ⟨rfl, trivial⟩ rfl rfl rfl ?_
    refine HQ.pu Pu.move ⟨rfl, trivial⟩ rfl rfl rfl ?_
    obtain ⟨c58, h59, H⟩ := bnd H
    refine HQ.cutAt 7 [(45, .bool c58), (1, .int .i64 p1), (2, BP b1 0), (4, .slice none 0 0), (5, .bool false)] [(1, Box b1 [.slice a_0 (List.length p0.Cells) c_0, .slice a_1 (List.length p0.Wet) c_1, .int .i64 p0.Fuse, .bool p0.Dead])] ?_ ?_
    · clear H
      have H := h59
      rcases brk H with ⟨hg52, H⟩ | ⟨hg52, H⟩
      · obtain rfl := Option.some.inj H
        refine HQ.off rfl rfl hg52 rfl ?_
        refine HQ.off rfl rfl hg52 rfl ?_
        refine HQ.off rfl rfl hg52 rfl ?_
        refine HQ.off rfl rfl hg52 rfl ?_
        refine HQ.off rfl rfl hg52 rfl ?_
        refine HQ.off rfl rfl hg52 rfl ?_
        refine HQ.pu (Pu.pickC1 hg52) ⟨rfl, rfl, trivial⟩ rfl rfl rfl ?_
        exact HQ.mid ⟨rfl, rfl, rfl, rfl, rfl, trivial⟩ ⟨rfl, trivial⟩ rfl
      · refine HQ.on rfl rfl hg52 ?_
        refine HQ.pu (Pu.fieldB fo42_0 rfl) ⟨rfl, trivial⟩ rfl rfl rfl ?_
        refine HQ.on rfl rfl hg52 ?_
        refine HQ.op [1] [1] (OT.loadB sc39 rfl) ⟨rfl, trivial⟩ ⟨rfl, trivial⟩ rfl rfl rfl rfl (fun _ => rfl) fun _ => ?_
        refine HQ.on rfl rfl hg52 ?_
        refine HQ.pu Pu.move ⟨rfl, trivial⟩ rfl rfl rfl ?_
        refine HQ.on rfl rfl hg52 ?_
        obtain ⟨h53, H⟩ := asr H
        refine HQ.op [] [] (OT.indexB ul39 sz140 hb_0 h53) ⟨rfl, rfl, trivial⟩ trivial rfl rfl rfl rfl (fun _ => rfl) fun _ => ?_
        refine HQ.on rfl rfl hg52 ?_
        refine HQ.pu (Pu.fieldE fo140_0 rfl) ⟨rfl, trivial⟩ rfl rfl rfl ?_
        refine HQ.on rfl rfl hg52 ?_
        obtain ⟨⟨a54, c55⟩, hb56, hn57⟩ := BorS.nest hb_0 h53
        refine HQ.op [] [] (OT.loadN (v := .bool ((gt p0.Cells p1).Bad)) sc4 hn57 hlTCell rfl) ⟨rfl, trivial⟩ trivial rfl rfl rfl rfl (fun _ => rfl) fun _ => ?_
        obtain rfl := Option.some.inj H
        refine HQ.pu (Pu.pickC0 hg52) ⟨rfl, rfl, trivial⟩ rfl rfl rfl ?_
        exact HQ.mid ⟨rfl, rfl, rfl, rfl, rfl, trivial⟩ ⟨rfl, trivial⟩ rfl
    refine HQ.pu Pu.move ⟨rfl, trivial⟩ rfl rfl rfl ?_
    obtain ⟨c66, h67, H⟩ := bnd H
    refine HQ.cutAt 9 [(55, .bool c66), (1, .int .i64 p1), (2, BP b1 0), (4, .slice none 0 0), (5, .bool false)] [(1, Box b1 [.slice a_0 (List.length p0.Cells) c_0, .slice a_1 (List.length p0.Wet) c_1, .int .i64 p0.Fuse, .bool p0.Dead])] ?_ ?_
    · clear H
      have H := h67
      rcases brk H with ⟨hg60, H⟩ | ⟨hg60, H⟩
      · obtain rfl := Option.some.inj H
        refine HQ.off rfl rfl hg60 rfl ?_
        refine HQ.off rfl rfl hg60 rfl ?_
        refine HQ.off rfl rfl hg60 rfl ?_
        refine HQ.off rfl rfl hg60 rfl ?_
        refine HQ.off rfl rfl hg60 rfl ?_
        refine HQ.off rfl rfl hg60 rfl ?_
        refine HQ.off rfl rfl hg60 rfl ?_
        refine HQ.off rfl rfl hg60 rfl ?_
        refine HQ.pu (Pu.pickC1 hg60) ⟨rfl, rfl, trivial⟩ rfl rfl rfl ?_
        exact HQ.mid ⟨rfl, rfl, rfl, rfl, rfl, trivial⟩ ⟨rfl, trivial⟩ rfl
      · refine HQ.on rfl rfl hg60 ?_
        refine HQ.pu (Pu.fieldB fo42_0 rfl) ⟨rfl, trivial⟩ rfl rfl rfl ?_
        refine HQ.on rfl rfl hg60 ?_
        refine HQ.op [1] [1] (OT.loadB sc39 rfl) ⟨rfl, trivial⟩ ⟨rfl, trivial⟩ rfl rfl rfl rfl (fun _ => rfl) fun _ => ?_
        refine HQ.on rfl rfl hg60 ?_
        refine HQ.pu Pu.move ⟨rfl, trivial⟩ rfl rfl rfl ?_
        refine HQ.on rfl rfl hg60 ?_
        obtain ⟨h61, H⟩ := asr H
        refine HQ.op [] [] (OT.indexB ul39 sz140 hb_0 h61) ⟨rfl, rfl, trivial⟩ trivial rfl rfl rfl rfl (fun _ => rfl) fun _ => ?_
        refine HQ.on rfl rfl hg60 ?_
        refine HQ.pu (Pu.fieldE fo140_1 rfl) ⟨rfl, trivial⟩ rfl rfl rfl ?_
        refine HQ.on rfl rfl hg60 ?_
        obtain ⟨⟨a62, c63⟩, hb64, hn65⟩ := BorS.nest hb_0 h61
        refine HQ.op [] [] (OT.loadN (v := .slice a62 (List.length ((gt p0.Cells p1).B)) c63) sc37 hn65 hlTCell rfl) ⟨rfl, trivial⟩ trivial rfl rfl rfl rfl (fun _ => rfl) fun _ => ?_
        refine HQ.on rfl rfl hg60 ?_
        refine HQ.pu (Pu.len ul37) ⟨rfl, trivial⟩ rfl rfl rfl ?_
        refine HQ.on rfl rfl hg60 ?_
        refine HQ.pu Pu.eql ⟨rfl, rfl, trivial⟩ rfl rfl rfl ?_
        obtain rfl := Option.some.inj H
        refine HQ.pu (Pu.pickC0 hg60) ⟨rfl, rfl, trivial⟩ rfl rfl rfl ?_
        exact HQ.mid ⟨rfl, rfl, rfl, rfl, rfl, trivial⟩ ⟨rfl, trivial⟩ rfl
    refine HQ.done ?_
    refine HQ.keep [(55, _), (1, _), (2, _), (4, _), (5, _)] ⟨rfl, rfl, rfl, rfl, rfl, trivial⟩ ?_
    rcases brk H with ⟨hc, H⟩ | ⟨hc, H⟩
    · refine HQ.condT rfl hc ?_
      clear hc
      refine HQ.rseq ?_
      refine HQ.op [] [5] (OT.buildF (us := []) (ys := ([] : (List Int))) (enc := (encI .u8)) (hl := fun _ => ⟨rfl, rfl⟩) [] sl37.ul sl37.szE sl37.zc rfl rfl rfl rfl rfl) trivial trivial rfl rfl rfl rfl (fun _ => rfl) fun ⟨a68, c69⟩ => ?_
      refine HQ.pu Pu.assign ⟨rfl, trivial⟩ rfl rfl rfl ?_
      refine HQ.pu Pu.assign ⟨rfl, trivial⟩ rfl rfl rfl ?_
      refine HQ.done ?_
      refine HQ.keep [(1, _), (2, _), (4, _), (5, _)] ⟨rfl, rfl, rfl, rfl, trivial⟩ ?_
      refine HQ.ret ?_
      refine HQ.thenR ?_
      obtain rfl := Option.some.inj H
      exact HQ.fin (vs := [_, _]) Try.results108 (a68, c69) ⟨rfl, rfl, trivial⟩ rfl [5] ⟨rfl, trivial⟩ rfl
    · refine HQ.condF rfl hc ?_
      clear hc
      refine HQ.skipThen ?_
      refine HQ.rseq ?_
      refine HQ.op [] [6] (OT.buildF (us := []) (ys := ([] : (List Int))) (enc := (encI .u8)) (hl := fun _ => ⟨rfl, rfl⟩) [] sl37.ul sl37.szE sl37.zc rfl rfl rfl rfl rfl) trivial trivial rfl rfl rfl rfl (fun _ => rfl) fun ⟨a70, c71⟩ => ?_
      refine HQ.pu (Pu.fieldB fo42_0 rfl) ⟨rfl, trivial⟩ rfl rfl rfl ?_
      refine HQ.op [1] [1] (OT.loadB sc39 rfl) ⟨rfl, trivial⟩ ⟨rfl, trivial⟩ rfl rfl rfl rfl (fun _ => rfl) fun _ => ?_
      refine HQ.pu Pu.move ⟨rfl, trivial⟩ rfl rfl rfl ?_
      obtain ⟨h72, H⟩ := asr H
      refine HQ.op [] [] (OT.indexB ul39 sz140 hb_0 h72) ⟨rfl, rfl, trivial⟩ trivial rfl rfl rfl rfl (fun _ => rfl) fun _ => ?_
      refine HQ.pu (Pu.fieldE fo140_1 rfl) ⟨rfl, trivial⟩ rfl rfl rfl ?_
      obtain ⟨⟨a73, c74⟩, hb75, hn76⟩ := BorS.nest hb_0 h72
      refine HQ.op [] [] (OT.loadN (v := .slice a73 (List.length ((gt p0.Cells p1).B)) c74) sc37 hn76 hlTCell rfl) ⟨rfl, trivial⟩ trivial rfl rfl rfl rfl (fun _ => rfl) fun _ => ?_
      obtain ⟨h79, H⟩ := asr H
      refine HQ.op [6] [6] (OT.appendF (enc := (encI .u8)) (hl := fun _ => ⟨rfl, rfl⟩) sl37 ul37 hb75 h79) ⟨rfl, rfl, trivial⟩ ⟨rfl, trivial⟩ rfl rfl rfl rfl (fun _ => rfl) fun ⟨a77, c78⟩ => ?_
      refine HQ.pu Pu.assign ⟨rfl, trivial⟩ rfl rfl rfl ?_
      refine HQ.pu Pu.assign ⟨rfl, trivial⟩ rfl rfl rfl ?_
      refine HQ.done ?_
      refine HQ.keep [(4, _), (5, _)] ⟨rfl, rfl, trivial⟩ ?_
      refine HQ.ret ?_
      obtain rfl := Option.some.inj H
      exact HQ.fin (vs := [_, _]) Try.results108 (a77, c78) ⟨rfl, rfl, trivial⟩ rfl [6] ⟨rfl, trivial⟩ rfl
  · rintro r rfl a w hr
    obtain rfl := Option.some.inj H
    exact hr

/-! spec.Get2 -/
theorem spec_Get2_c {w : World} {p0 : (List Int)} {p1 : Int} {a_0 : Option Addr} {c_0 : Nat} (hb_0 : BorS kU8 a_0 c_0 p0 w.heap (Lt w Nil)) {r : Int × Bool} (H : spec_Get2 p0 p1 = some r) :
    Calls Try.prog 163 #[.slice a_0 (List.length p0) c_0, .int .i64 p1] w (Rt w Nil (fun _ : Unit => .tuple #[.int .i64 r.1, .bool r.2]) (fun _ => [])) := by
  rw [spec_Get2] at H
  refine Calls.enter0 (N := 28) (us := [_, _]) Try.func163 rfl rfl rfl ?_
  refine HQ.rseq ?_
  refine HQ.pu Pu.assign ⟨rfl, trivial⟩ rfl rfl rfl ?_
  refine HQ.pu Pu.assign ⟨rfl, trivial⟩ rfl rfl rfl ?_
  refine HQ.done ?_
  refine HQ.keep [(0, _), (1, _), (4, _), (5, _)] ⟨rfl, rfl, rfl, rfl, trivial⟩ ?_
  refine HQ.seq ?_
  refine HQ.rseq ?_
  refine HQ.pu Pu.move ⟨rfl, trivial⟩ rfl rfl rfl ?_
  refine HQ.pu Pu.lss ⟨rfl, rfl, trivial⟩ rfl rfl rfl ?_
  refine HQ.pu Pu.move ⟨rfl, trivial⟩ rfl rfl rfl ?_
  refine HQ.cutAt 6 [(14, .bool ((decide (p1 < 0)) || (decide (p1 > (wrap64 (((List.length p0 : Nat) : Int) - 2)))))), (0, .slice a_0 (List.length p0) c_0), (1, .int .i64 p1), (4, .int .i64 0), (5, .bool false)] [] ?_ ?_
  · rcases Bool.eq_false_or_eq_true (decide (p1 < 0)) with hg1 | hg1
    · refine HQ.off rfl rfl hg1 rfl ?_
      refine HQ.off rfl rfl hg1 rfl ?_
      refine HQ.off rfl rfl hg1 rfl ?_
      refine HQ.off rfl rfl hg1 rfl ?_
      refine HQ.off rfl rfl hg1 rfl ?_
      refine HQ.pu (Pu.pickOT (u := (decide (p1 > (wrap64 (((List.length p0 : Nat) : Int) - 2))))) hg1) ⟨rfl, rfl, trivial⟩ rfl rfl rfl ?_
      exact HQ.mid ⟨rfl, rfl, rfl, rfl, rfl, trivial⟩ trivial rfl
    · refine HQ.on rfl rfl hg1 ?_
      refine HQ.pu Pu.move ⟨rfl, trivial⟩ rfl rfl rfl ?_
      refine HQ.on rfl rfl hg1 ?_
      refine HQ.pu Pu.move ⟨rfl, trivial⟩ rfl rfl rfl ?_
      refine HQ.on rfl rfl hg1 ?_
      refine HQ.pu (Pu.len ul37) ⟨rfl, trivial⟩ rfl rfl rfl ?_
      refine HQ.on rfl rfl hg1 ?_
      refine HQ.pu Pu.sub ⟨rfl, rfl, trivial⟩ rfl rfl rfl ?_
      refine HQ.on rfl rfl hg1 ?_
      refine HQ.pu Pu.gtr ⟨rfl, rfl, trivial⟩ rfl rfl rfl ?_
      refine HQ.pu (Pu.pickOF hg1) ⟨rfl, rfl, trivial⟩ rfl rfl rfl ?_
      exact HQ.mid ⟨rfl, rfl, rfl, rfl, rfl, trivial⟩ trivial rfl
  refine HQ.done ?_
  refine HQ.keep [(14, _), (0, _), (1, _), (4, _), (5, _)] ⟨rfl, rfl, rfl, rfl, rfl, trivial⟩ ?_
  rcases brk H with ⟨hc, H⟩ | ⟨hc, H⟩
  · refine HQ.condT rfl hc ?_
    clear hc
    refine HQ.rseq ?_
    refine HQ.pu Pu.assign ⟨rfl, trivial⟩ rfl rfl rfl ?_
    refine HQ.pu Pu.assign ⟨rfl, trivial⟩ rfl rfl rfl ?_
    refine HQ.done ?_
    refine HQ.keep [(0, _), (1, _), (4, _), (5, _)] ⟨rfl, rfl, rfl, rfl, trivial⟩ ?_
    refine HQ.ret ?_
    refine HQ.thenR ?_
    obtain rfl := Option.some.inj H
    exact HQ.fin (vs := [_, _]) Try.results163 () ⟨rfl, rfl, trivial⟩ rfl [] trivial rfl
  · refine HQ.condF rfl hc ?_
    clear hc
    refine HQ.skipThen ?_
    obtain ⟨h3, H⟩ := asr H
    obtain ⟨h4, H⟩ := asr H
    refine HQ.drawS mixd [(0, .slice a_0 (List.length p0) c_0), (1, .int .i64 p1), (4, .int .i64 0), (5, .bool false)] 12 [⟨[], [], []⟩, ⟨[], [], []⟩, ⟨[], [], [0, 1]⟩, ⟨[], [], [2]⟩, ⟨[], [], [3]⟩, ⟨[], [], [4]⟩, ⟨[], [], []⟩, ⟨[], [], []⟩, ⟨[], [], [7]⟩, ⟨[], [], [6, 8]⟩, ⟨[], [], [9]⟩, ⟨[], [], [10]⟩] [] (fun (g2 : Unit) => [.slice a_0 (List.length p0) c_0, .int .i64 p1, EP a_0 p1 1 0, .int .u8 (gt p0 p1), .int .i64 (IntKind.i64.wrap (gt p0 p1)), .int .i64 (wrap64 (256 * (IntKind.i64.wrap (gt p0 p1)))), .slice a_0 (List.length p0) c_0, .int .i64 p1, .int .i64 (wrap64 (p1 + 1)), EP a_0 (wrap64 (p1 + 1)) 1 0, .int .u8 (gt p0 (wrap64 (p1 + 1))), .int .i64 (IntKind.i64.wrap (gt p0 (wrap64 (p1 + 1))))]) (fun (g2 : Unit) => []) () [] [] [] ⟨rfl, rfl, rfl, rfl, trivial⟩ trivial rfl (by kernel_rfl) (fun _ => rfl) (by kernel_rfl) (fun _ => rfl) ⟨?_, ?_, ?_, ?_, ?_, ?_, ?_, ?_, ?_, ?_, ?_, ?_, trivial⟩ fun g2 => ?_
    · exact OpOK.of (fun g2 => [(.tmp 0, .slice a_0 (List.length p0) c_0)]) _ _ (fun g2 _ => g2) rfl rfl (fun _ => ⟨rfl, trivial⟩) (fun g2 => Pu.toOT Pu.move) (fun _ _ => ⟨rfl, rfl, trivial⟩)
    · exact OpOK.of (fun g2 => [(.tmp 1, .int .i64 p1)]) _ _ (fun g2 _ => g2) rfl rfl (fun _ => ⟨rfl, trivial⟩) (fun g2 => Pu.toOT Pu.move) (fun _ _ => ⟨rfl, rfl, trivial⟩)
    · exact OpOK.of (fun g2 => [(.tmp 15, .slice a_0 (List.length p0) c_0), (.tmp 16, .int .i64 p1)]) _ _ (fun g2 _ => g2) rfl rfl (fun _ => ⟨rfl, rfl, trivial⟩) (fun g2 => OT.indexB ul37 sz5 hb_0 h3) (fun _ _ => ⟨rfl, rfl, trivial⟩)
    · exact OpOK.of (fun g2 => [(.tmp 17, EP a_0 p1 1 0)]) _ _ (fun g2 _ => g2) rfl rfl (fun _ => ⟨rfl, trivial⟩) (fun g2 => OT.loadF sc5 hb_0 h3 rfl) (fun _ _ => ⟨rfl, rfl, trivial⟩)
    · exact OpOK.of (fun g2 => [(.tmp 18, .int .u8 (gt p0 p1))]) _ _ (fun g2 _ => g2) rfl rfl (fun _ => ⟨rfl, trivial⟩) (fun g2 => Pu.toOT (Pu.conv ul5 ul3)) (fun _ _ => ⟨rfl, rfl, trivial⟩)
    · exact OpOK.of (fun g2 => [(.const (.int .i64 256), .int .i64 256), (.tmp 19, .int .i64 (IntKind.i64.wrap (gt p0 p1)))]) _ _ (fun g2 _ => g2) rfl rfl (fun _ => ⟨rfl, rfl, trivial⟩) (fun g2 => Pu.toOT Pu.mul) (fun _ _ => ⟨rfl, rfl, trivial⟩)
    · exact OpOK.of (fun g2 => [(.tmp 0, .slice a_0 (List.length p0) c_0)]) _ _ (fun g2 _ => g2) rfl rfl (fun _ => ⟨rfl, trivial⟩) (fun g2 => Pu.toOT Pu.move) (fun _ _ => ⟨rfl, rfl, trivial⟩)
    · exact OpOK.of (fun g2 => [(.tmp 1, .int .i64 p1)]) _ _ (fun g2 _ => g2) rfl rfl (fun _ => ⟨rfl, trivial⟩) (fun g2 => Pu.toOT Pu.move) (fun _ _ => ⟨rfl, rfl, trivial⟩)
    · exact OpOK.of (fun g2 => [(.tmp 22, .int .i64 p1), (.const (.int .i64 1), .int .i64 1)]) _ _ (fun g2 _ => g2) rfl rfl (fun _ => ⟨rfl, rfl, trivial⟩) (fun g2 => Pu.toOT Pu.add) (fun _ _ => ⟨rfl, rfl, trivial⟩)
    · exact OpOK.of (fun g2 => [(.tmp 21, .slice a_0 (List.length p0) c_0), (.tmp 23, .int .i64 (wrap64 (p1 + 1)))]) _ _ (fun g2 _ => g2) rfl rfl (fun _ => ⟨rfl, rfl, trivial⟩) (fun g2 => OT.indexB ul37 sz5 hb_0 h4) (fun _ _ => ⟨rfl, rfl, trivial⟩)
    · exact OpOK.of (fun g2 => [(.tmp 24, EP a_0 (wrap64 (p1 + 1)) 1 0)]) _ _ (fun g2 _ => g2) rfl rfl (fun _ => ⟨rfl, trivial⟩) (fun g2 => OT.loadF sc5 hb_0 h4 rfl) (fun _ _ => ⟨rfl, rfl, trivial⟩)
    · exact OpOK.of (fun g2 => [(.tmp 25, .int .u8 (gt p0 (wrap64 (p1 + 1))))]) _ _ (fun g2 _ => g2) rfl rfl (fun _ => ⟨rfl, trivial⟩) (fun g2 => Pu.toOT (Pu.conv ul5 ul3)) (fun _ _ => ⟨rfl, rfl, trivial⟩)
    refine HQ.keep [(4, _), (5, _), (20, _), (26, _)] ⟨rfl, rfl, rfl, rfl, trivial⟩ ?_
    refine HQ.keepR [] trivial rfl ?_
    refine HQ.pu Pu.add ⟨rfl, rfl, trivial⟩ rfl rfl rfl ?_
    refine HQ.pu Pu.assign ⟨rfl, trivial⟩ rfl rfl rfl ?_
    refine HQ.pu Pu.assign ⟨rfl, trivial⟩ rfl rfl rfl ?_
    refine HQ.done ?_
    refine HQ.keep [(4, _), (5, _)] ⟨rfl, rfl, trivial⟩ ?_
    refine HQ.ret ?_
    obtain rfl := Option.some.inj H
    exact HQ.fin (vs := [_, _]) Try.results163 () ⟨rfl, rfl, trivial⟩ rfl [] trivial rfl

/-! spec.HeadOk -/
theorem spec_HeadOk_c {w : World} {p0 : THead}   {r : Bool} (H : spec_HeadOk p0 = some r) :
    Calls Try.prog 113 #[.agg #[.int .i64 p0.Epoch, .int .i64 p0.Seq, .int .i64 p0.Root, .int .i64 p0.Size]] w (Rt w Nil (fun _ : Unit => .bool r) (fun _ => [])) := by
  rw [spec_HeadOk] at H
  refine Calls.enter0 (N := 24) (us := [_]) Try.func113 rfl rfl rfl ?_
  refine HQ.rseq ?_
  refine HQ.op [] [1] (OT.box (cs := [.int .i64 p0.Epoch, .int .i64 p0.Seq, .int .i64 p0.Root, .int .i64 p0.Size]) rfl) ⟨rfl, trivial⟩ trivial rfl rfl rfl rfl (fun _ => rfl) fun b1 => ?_
  refine HQ.pu Pu.assign ⟨rfl, trivial⟩ rfl rfl rfl ?_
  refine HQ.done ?_
  refine HQ.keep [(1, _), (2, _)] ⟨rfl, rfl, trivial⟩ ?_
  refine HQ.rseq ?_
  refine HQ.pu (Pu.fieldB fo66_0 rfl) ⟨rfl, trivial⟩ rfl rfl rfl ?_
  refine HQ.op [1] [1] (OT.loadB sc3 rfl) ⟨rfl, trivial⟩ ⟨rfl, trivial⟩ rfl rfl rfl rfl (fun _ => rfl) fun _ => ?_
  obtain ⟨t2, h3, H⟩ := bnd H
  refine HQ.op [] [] (OT.call (us := [_, _, _]) (Pre := []) [.tmp 4, .const (.int .i64 1), .const (.int .i64 60000)] Try.call85 rfl rfl fun w F hs hF hp => spec_l1In_c h3) ⟨rfl, rfl, rfl, rfl, trivial⟩ trivial rfl rfl rfl rfl (fun _ => rfl) fun _ => ?_
  refine HQ.pu Pu.move ⟨rfl, trivial⟩ rfl rfl rfl ?_
  obtain ⟨c7, h8, H⟩ := bnd H
  refine HQ.cutAt 4 [(10, .bool c7), (1, BP b1 0), (2, .bool false)] [(1, Box b1 [.int .i64 p0.Epoch, .int .i64 p0.Seq, .int .i64 p0.Root, .int .i64 p0.Size])] ?_ ?_
  · clear H
    have H := h8
    rcases brk H with ⟨hg4, H⟩ | ⟨hg4, H⟩
    · refine HQ.on rfl rfl hg4 ?_
      refine HQ.pu (Pu.fieldB fo66_1 rfl) ⟨rfl, trivial⟩ rfl rfl rfl ?_
      refine HQ.on rfl rfl hg4 ?_
      refine HQ.op [1] [1] (OT.loadB sc3 rfl) ⟨rfl, trivial⟩ ⟨rfl, trivial⟩ rfl rfl rfl rfl (fun _ => rfl) fun _ => ?_
      refine HQ.on rfl rfl hg4 ?_
      obtain ⟨t5, h6, H⟩ := bnd H
      refine HQ.op [] [] (OT.call (us := [_, _, _]) (Pre := []) [.tmp 8, .const (.int .i64 0), .const (.int .i64 65535)] Try.call85 rfl rfl fun w F hs hF hp => spec_l1In_c h6) ⟨rfl, rfl, rfl, rfl, trivial⟩ trivial rfl rfl rfl rfl (fun _ => rfl) fun _ => ?_
      obtain rfl := Option.some.inj H
      refine HQ.pu (Pu.pickC1 hg4) ⟨rfl, rfl, trivial⟩ rfl rfl rfl ?_
      exact HQ.mid ⟨rfl, rfl, rfl, trivial⟩ ⟨rfl, trivial⟩ rfl
    · obtain rfl := Option.some.inj H
      refine HQ.off rfl rfl hg4 rfl ?_
      refine HQ.off rfl rfl hg4 rfl ?_
      refine HQ.off rfl rfl hg4 rfl ?_
      refine HQ.pu (Pu.pickC0 hg4) ⟨rfl, rfl, trivial⟩ rfl rfl rfl ?_
      exact HQ.mid ⟨rfl, rfl, rfl, trivial⟩ ⟨rfl, trivial⟩ rfl
  refine HQ.pu Pu.move ⟨rfl, trivial⟩ rfl rfl rfl ?_
  obtain ⟨c12, h13, H⟩ := bnd H
  refine HQ.cutAt 4 [(15, .bool c12), (1, BP b1 0), (2, .bool false)] [(1, Box b1 [.int .i64 p0.Epoch, .int .i64 p0.Seq, .int .i64 p0.Root, .int .i64 p0.Size])] ?_ ?_
  · clear H
    have H := h13
    rcases brk H with ⟨hg9, H⟩ | ⟨hg9, H⟩
    · refine HQ.on rfl rfl hg9 ?_
      refine HQ.pu (Pu.fieldB fo66_3 rfl) ⟨rfl, trivial⟩ rfl rfl rfl ?_
      refine HQ.on rfl rfl hg9 ?_
      refine HQ.op [1] [1] (OT.loadB sc3 rfl) ⟨rfl, trivial⟩ ⟨rfl, trivial⟩ rfl rfl rfl rfl (fun _ => rfl) fun _ => ?_
      refine HQ.on rfl rfl hg9 ?_
      obtain ⟨t10, h11, H⟩ := bnd H
      refine HQ.op [] [] (OT.call (us := [_, _, _]) (Pre := []) [.tmp 13, .const (.int .i64 1), .const (.int .i64 48)] Try.call85 rfl rfl fun w F hs hF hp => spec_l1In_c h11) ⟨rfl, rfl, rfl, rfl, trivial⟩ trivial rfl rfl rfl rfl (fun _ => rfl) fun _ => ?_
      obtain rfl := Option.some.inj H
      refine HQ.pu (Pu.pickC1 hg9) ⟨rfl, rfl, trivial⟩ rfl rfl rfl ?_
      exact HQ.mid ⟨rfl, rfl, rfl, trivial⟩ ⟨rfl, trivial⟩ rfl
    · obtain rfl := Option.some.inj H
      refine HQ.off rfl rfl hg9 rfl ?_
      refine HQ.off rfl rfl hg9 rfl ?_
      refine HQ.off rfl rfl hg9 rfl ?_
      refine HQ.pu (Pu.pickC0 hg9) ⟨rfl, rfl, trivial⟩ rfl rfl rfl ?_
      exact HQ.mid ⟨rfl, rfl, rfl, trivial⟩ ⟨rfl, trivial⟩ rfl
  refine HQ.pu Pu.move ⟨rfl, trivial⟩ rfl rfl rfl ?_
  obtain ⟨c17, h18, H⟩ := bnd H
  refine HQ.cutAt 7 [(23, .bool c17), (2, .bool false)] [(1, Box b1 [.int .i64 p0.Epoch, .int .i64 p0.Seq, .int .i64 p0.Root, .int .i64 p0.Size])] ?_ ?_
  · clear H
    have H := h18
    rcases brk H with ⟨hg14, H⟩ | ⟨hg14, H⟩
    · refine HQ.on rfl rfl hg14 ?_
      refine HQ.pu (Pu.fieldB fo66_2 rfl) ⟨rfl, trivial⟩ rfl rfl rfl ?_
      refine HQ.on rfl rfl hg14 ?_
      refine HQ.op [1] [1] (OT.loadB sc3 rfl) ⟨rfl, trivial⟩ ⟨rfl, trivial⟩ rfl rfl rfl rfl (fun _ => rfl) fun _ => ?_
      refine HQ.on rfl rfl hg14 ?_
      refine HQ.pu (Pu.fieldB fo66_3 rfl) ⟨rfl, trivial⟩ rfl rfl rfl ?_
      refine HQ.on rfl rfl hg14 ?_
      refine HQ.op [1] [1] (OT.loadB sc3 rfl) ⟨rfl, trivial⟩ ⟨rfl, trivial⟩ rfl rfl rfl rfl (fun _ => rfl) fun _ => ?_
      refine HQ.on rfl rfl hg14 ?_
      refine HQ.pu Pu.sub ⟨rfl, rfl, trivial⟩ rfl rfl rfl ?_
      refine HQ.on rfl rfl hg14 ?_
      obtain ⟨t15, h16, H⟩ := bnd H
      refine HQ.op [] [] (OT.call (us := [_, _, _]) (Pre := []) [.tmp 18, .const (.int .i64 0), .tmp 21] Try.call85 rfl rfl fun w F hs hF hp => spec_l1In_c h16) ⟨rfl, rfl, rfl, rfl, trivial⟩ trivial rfl rfl rfl rfl (fun _ => rfl) fun _ => ?_
      obtain rfl := Option.some.inj H
      refine HQ.pu (Pu.pickC1 hg14) ⟨rfl, rfl, trivial⟩ rfl rfl rfl ?_
      exact HQ.mid ⟨rfl, rfl, trivial⟩ ⟨rfl, trivial⟩ rfl
    · obtain rfl := Option.some.inj H
      refine HQ.off rfl rfl hg14 rfl ?_
      refine HQ.off rfl rfl hg14 rfl ?_
      refine HQ.off rfl rfl hg14 rfl ?_
      refine HQ.off rfl rfl hg14 rfl ?_
      refine HQ.off rfl rfl hg14 rfl ?_
      refine HQ.off rfl rfl hg14 rfl ?_
      refine HQ.pu (Pu.pickC0 hg14) ⟨rfl, rfl, trivial⟩ rfl rfl rfl ?_
      exact HQ.mid ⟨rfl, rfl, trivial⟩ ⟨rfl, trivial⟩ rfl
  refine HQ.pu Pu.assign ⟨rfl, trivial⟩ rfl rfl rfl ?_
  refine HQ.done ?_
  refine HQ.keep [(2, _)] ⟨rfl, trivial⟩ ?_
  refine HQ.ret ?_
  obtain rfl := Option.some.inj H
  exact HQ.fin (vs := [_]) Try.results113 () ⟨rfl, trivial⟩ rfl [] trivial rfl

/-! spec.Put2 -/
theorem spec_Put2_c {w : World} {p0 : (List Int)} {p1 : Int} {a_0 : Option Addr} {c_0 : Nat} (hb_0 : BorS kU8 a_0 c_0 p0 w.heap (Lt w Nil)) {r : (List Int)} (H : spec_Put2 p0 p1 = some r) :
    Calls Try.prog 103 #[.slice a_0 (List.length p0) c_0, .int .i64 p1] w (Rt w Nil (fun g : Option Addr × Nat => .slice g.1 (List.length r) g.2) (fun g => [OwnS kU8 g.1 g.2 r])) := by
  rw [spec_Put2] at H
  refine Calls.enter0 (N := 22) (us := [_, _]) Try.func103 rfl rfl rfl ?_
  refine HQ.rseq ?_
  refine HQ.pu Pu.assign ⟨rfl, trivial⟩ rfl rfl rfl ?_
  refine HQ.done ?_
  refine HQ.keep [(0, _), (1, _), (4, _)] ⟨rfl, rfl, rfl, trivial⟩ ?_
  refine HQ.rseq ?_
  refine HQ.op [] [1] (OT.buildF (us := []) (ys := ([] : (List Int))) (enc := (encI .u8)) (hl := fun _ => ⟨rfl, rfl⟩) [] sl37.ul sl37.szE sl37.zc rfl rfl rfl rfl rfl) trivial trivial rfl rfl rfl rfl (fun _ => rfl) fun ⟨a1, c2⟩ => ?_
  refine HQ.pu Pu.move ⟨rfl, trivial⟩ rfl rfl rfl ?_
  obtain ⟨h5, H⟩ := asr H
  refine HQ.op [1] [1] (OT.appendF (enc := (encI .u8)) (hl := fun _ => ⟨rfl, rfl⟩) sl37 ul37 hb_0 h5) ⟨rfl, rfl, trivial⟩ ⟨rfl, trivial⟩ rfl rfl rfl rfl (fun _ => rfl) fun ⟨a3, c4⟩ => ?_
  refine HQ.pu Pu.assign ⟨rfl, trivial⟩ rfl rfl rfl ?_
  refine HQ.done ?_
  refine HQ.keep [(1, _), (4, _), (5, _)] ⟨rfl, rfl, rfl, trivial⟩ ?_
  refine HQ.seq ?_
  refine HQ.rseq ?_
  refine HQ.pu Pu.move ⟨rfl, trivial⟩ rfl rfl rfl ?_
  obtain ⟨t6, h7, H⟩ := bnd H
  refine HQ.op [] [] (OT.call (us := [_, _, _]) (Pre := []) [.tmp 9, .const (.int .i64 0), .const (.int .i64 65535)] Try.call85 rfl rfl fun w F hs hF hp => spec_l1In_c h7) ⟨rfl, rfl, rfl, rfl, trivial⟩ trivial rfl rfl rfl rfl (fun _ => rfl) fun _ => ?_
  refine HQ.pu Pu.not ⟨rfl, trivial⟩ rfl rfl rfl ?_
  refine HQ.done ?_
  refine HQ.keep [(1, _), (4, _), (5, _), (11, _)] ⟨rfl, rfl, rfl, rfl, trivial⟩ ?_
  rcases brk H with ⟨hc, H⟩ | ⟨hc, H⟩
  · refine HQ.condT rfl hc ?_
    clear hc
    refine HQ.rseq ?_
    refine HQ.pu Pu.move ⟨rfl, trivial⟩ rfl rfl rfl ?_
    refine HQ.pu Pu.assign ⟨rfl, trivial⟩ rfl rfl rfl ?_
    refine HQ.done ?_
    refine HQ.keep [(1, _), (4, _), (5, _)] ⟨rfl, rfl, rfl, trivial⟩ ?_
    refine HQ.ret ?_
    refine HQ.thenR ?_
    obtain rfl := Option.some.inj H
    exact HQ.fin (vs := [_]) Try.results103 (a3, c4) ⟨rfl, trivial⟩ rfl [1] ⟨rfl, trivial⟩ rfl
  · refine HQ.condF rfl hc ?_
    clear hc
    refine HQ.skipThen ?_
    refine HQ.rseq ?_
    refine HQ.pu Pu.move ⟨rfl, trivial⟩ rfl rfl rfl ?_
    refine HQ.pu Pu.move ⟨rfl, trivial⟩ rfl rfl rfl ?_
    refine HQ.pu (Pu.quo (by decide)) ⟨rfl, rfl, trivial⟩ rfl rfl rfl ?_
    refine HQ.pu (Pu.conv ul3 ul5) ⟨rfl, trivial⟩ rfl rfl rfl ?_
    refine HQ.pu Pu.move ⟨rfl, trivial⟩ rfl rfl rfl ?_
    refine HQ.pu (Pu.rem (by decide)) ⟨rfl, rfl, trivial⟩ rfl rfl rfl ?_
    refine HQ.pu (Pu.conv ul3 ul5) ⟨rfl, trivial⟩ rfl rfl rfl ?_
    refine HQ.op [] [2] (OT.buildF (us := [.int .u8 (IntKind.u8.wrap (wrap64 (Int.tdiv p1 256))), .int .u8 (IntKind.u8.wrap (Int.tmod p1 256))]) (ys := ([(IntKind.u8.wrap (wrap64 (Int.tdiv p1 256))), (IntKind.u8.wrap (Int.tmod p1 256))] : (List Int))) (enc := (encI .u8)) (hl := fun _ => ⟨rfl, rfl⟩) [.tmp 16, .tmp 19] sl37.ul sl37.szE sl37.zc rfl rfl rfl rfl rfl) ⟨rfl, rfl, trivial⟩ trivial rfl rfl rfl rfl (fun _ => rfl) fun ⟨a8, c9⟩ => ?_
    obtain ⟨h12, H⟩ := asr H
    refine HQ.op [1, 2] [1, 2] (OT.appendG (enc := (encI .u8)) (hl := fun _ => ⟨rfl, rfl⟩) sl37 ul37 h12) ⟨rfl, rfl, trivial⟩ ⟨rfl, rfl, trivial⟩ rfl rfl rfl rfl (fun _ => rfl) fun ⟨a10, c11⟩ => ?_
    refine HQ.pu Pu.assign ⟨rfl, trivial⟩ rfl rfl rfl ?_
    refine HQ.done ?_
    refine HQ.keep [(4, _)] ⟨rfl, trivial⟩ ?_
    refine HQ.ret ?_
    obtain rfl := Option.some.inj H
    exact HQ.fin (vs := [_]) Try.results103 (a10, c11) ⟨rfl, trivial⟩ rfl [1] ⟨rfl, trivial⟩ rfl

/-! spec.HeadCell -/
theorem spec_HeadCell_c {w : World} {p0 : THead}   {r : (List Int)} (H : spec_HeadCell p0 = some r) :
    Calls Try.prog 114 #[.agg #[.int .i64 p0.Epoch, .int .i64 p0.Seq, .int .i64 p0.Root, .int .i64 p0.Size]] w (Rt w Nil (fun g : Option Addr × Nat => .slice g.1 (List.length r) g.2) (fun g => [OwnS kU8 g.1 g.2 r])) := by
  rw [spec_HeadCell] at H
  refine Calls.enter0 (N := 22) (us := [_]) Try.func114 rfl rfl rfl ?_
  refine HQ.rseq ?_
  refine HQ.op [] [1] (OT.box (cs := [.int .i64 p0.Epoch, .int .i64 p0.Seq, .int .i64 p0.Root, .int .i64 p0.Size]) rfl) ⟨rfl, trivial⟩ trivial rfl rfl rfl rfl (fun _ => rfl) fun b1 => ?_
  refine HQ.pu Pu.assign ⟨rfl, trivial⟩ rfl rfl rfl ?_
  refine HQ.done ?_
  refine HQ.keep [(1, _), (2, _)] ⟨rfl, rfl, trivial⟩ ?_
  refine HQ.seq ?_
  refine HQ.rseq ?_
  refine HQ.op [1] [1] (OT.loadBA (vs := [.int .i64 p0.Epoch, .int .i64 p0.Seq, .int .i64 p0.Root, .int .i64 p0.Size]) ag66 sz66 rfl rfl) ⟨rfl, trivial⟩ ⟨rfl, trivial⟩ rfl rfl rfl rfl (fun _ => rfl) fun _ => ?_
  obtain ⟨t2, h3, H⟩ := bnd H
  refine HQ.op [] [] (OT.call (us := [_]) (Pre := []) [.tmp 3] Try.call113 rfl rfl fun w F hs hF hp => spec_HeadOk_c h3) ⟨rfl, rfl, trivial⟩ trivial rfl rfl rfl rfl (fun _ => rfl) fun _ => ?_
  refine HQ.pu Pu.not ⟨rfl, trivial⟩ rfl rfl rfl ?_
  refine HQ.done ?_
  refine HQ.keep [(1, _), (2, _), (5, _)] ⟨rfl, rfl, rfl, trivial⟩ ?_
  rcases brk H with ⟨hc, H⟩ | ⟨hc, H⟩
  · refine HQ.condT rfl hc ?_
    clear hc
    refine HQ.rseq ?_
    refine HQ.op [] [2] (OT.buildF (us := []) (ys := ([] : (List Int))) (enc := (encI .u8)) (hl := fun _ => ⟨rfl, rfl⟩) [] sl37.ul sl37.szE sl37.zc rfl rfl rfl rfl rfl) trivial trivial rfl rfl rfl rfl (fun _ => rfl) fun ⟨a4, c5⟩ => ?_
    refine HQ.pu Pu.assign ⟨rfl, trivial⟩ rfl rfl rfl ?_
    refine HQ.done ?_
    refine HQ.keep [(1, _), (2, _)] ⟨rfl, rfl, trivial⟩ ?_
    refine HQ.ret ?_
    refine HQ.thenR ?_
    obtain rfl := Option.some.inj H
    exact HQ.fin (vs := [_]) Try.results114 (a4, c5) ⟨rfl, trivial⟩ rfl [2] ⟨rfl, trivial⟩ rfl
  · refine HQ.condF rfl hc ?_
    clear hc
    refine HQ.skipThen ?_
    obtain ⟨t9, h10, H⟩ := bnd H
    obtain ⟨t13, h14, H⟩ := bnd H
    refine HQ.drawS mixd [(1, BP b1 0), (2, .slice none 0 0)] 14 [⟨[], [0], []⟩, ⟨[], [], []⟩, ⟨[1], [1], [1]⟩, ⟨[0], [2, 0], [0, 2]⟩, ⟨[], [], []⟩, ⟨[1], [1], [4]⟩, ⟨[2], [3, 2], [3, 5]⟩, ⟨[], [], []⟩, ⟨[1], [1], [7]⟩, ⟨[], [], [8]⟩, ⟨[], [], []⟩, ⟨[1], [1], [10]⟩, ⟨[], [], [11]⟩, ⟨[], [4], [9, 12]⟩] [⟨some 0, none⟩, ⟨none, none⟩, ⟨some 3, none⟩, ⟨some 6, none⟩, ⟨some 13, none⟩] (fun (g6 : (Option Addr × Nat) × (Option Addr × Nat) × (Option Addr × Nat) × (Option Addr × Nat)) => [.slice g6.1.1 (List.length ([3] : (List Int))) g6.1.2, BP b1 0, .int .i64 p0.Epoch, .slice g6.2.1.1 (List.length t9) g6.2.1.2, BP b1 1, .int .i64 p0.Seq, .slice g6.2.2.1.1 (List.length t13) g6.2.2.1.2, BP b1 2, .int .i64 p0.Root, .int .u8 (IntKind.u8.wrap p0.Root), BP b1 3, .int .i64 p0.Size, .int .u8 (IntKind.u8.wrap p0.Size), .slice g6.2.2.2.1 (List.length ([(IntKind.u8.wrap p0.Root), (IntKind.u8.wrap p0.Size)] : (List Int))) g6.2.2.2.2]) (fun (g6 : (Option Addr × Nat) × (Option Addr × Nat) × (Option Addr × Nat) × (Option Addr × Nat)) => [OwnS kU8 g6.1.1 g6.1.2 ([3] : (List Int)), Box b1 [.int .i64 p0.Epoch, .int .i64 p0.Seq, .int .i64 p0.Root, .int .i64 p0.Size], OwnS kU8 g6.2.1.1 g6.2.1.2 t9, OwnS kU8 g6.2.2.1.1 g6.2.2.1.2 t13, OwnS kU8 g6.2.2.2.1 g6.2.2.2.2 ([(IntKind.u8.wrap p0.Root), (IntKind.u8.wrap p0.Size)] : (List Int))]) ((none, 0), (none, 0), (none, 0), (none, 0)) [1] [3, 1, 4, 5, 6] [] ⟨rfl, rfl, trivial⟩ ⟨rfl, trivial⟩ rfl (by kernel_rfl) (fun _ => rfl) (by kernel_rfl) (fun _ => rfl) ⟨?_, ?_, ?_, ?_, ?_, ?_, ?_, ?_, ?_, ?_, ?_, ?_, ?_, ?_, trivial⟩ fun g6 => ?_
    · exact OpOK.of (fun g6 => [(.const (.int .u8 3), .int .u8 3)]) _ _ (fun g6 x => (x, g6.2.1, g6.2.2.1, g6.2.2.2)) rfl rfl (fun _ => ⟨rfl, trivial⟩) (fun g6 => OT.buildF (us := [.int .u8 3]) (ys := ([3] : (List Int))) (enc := (encI .u8)) (hl := fun _ => ⟨rfl, rfl⟩) [.const (.int .u8 3)] sl37.ul sl37.szE sl37.zc rfl rfl rfl rfl rfl) (fun _ _ => ⟨rfl, rfl, ⟨rfl, rfl, rfl, rfl, rfl, trivial⟩⟩)
    · exact OpOK.of (fun g6 => [(.tmp 1, BP b1 0)]) _ _ (fun g6 _ => g6) rfl rfl (fun _ => ⟨rfl, trivial⟩) (fun g6 => Pu.toOT (Pu.fieldB fo66_0 rfl)) (fun _ _ => ⟨rfl, rfl, ⟨rfl, rfl, rfl, rfl, rfl, trivial⟩⟩)
    · exact OpOK.of (fun g6 => [(.tmp 8, BP b1 0)]) _ _ (fun g6 _ => g6) rfl rfl (fun _ => ⟨rfl, trivial⟩) (fun g6 => OT.loadB sc3 rfl) (fun _ _ => ⟨rfl, rfl, ⟨rfl, rfl, rfl, rfl, rfl, trivial⟩⟩)
    · exact OpOK.of (fun g6 => [(.func 103, .func (.func 103) #[] #[]), (.tmp 7, .slice g6.1.1 (List.length ([3] : (List Int))) g6.1.2), (.tmp 9, .int .i64 p0.Epoch)]) _ _ (fun g6 x => (g6.1, x, g6.2.2.1, g6.2.2.2)) rfl rfl (fun _ => ⟨rfl, rfl, rfl, trivial⟩) (fun g6 => OT.call (us := [_, _]) (Pre := [OwnS kU8 g6.1.1 g6.1.2 ([3] : (List Int))]) [.tmp 7, .tmp 9] Try.call103 rfl rfl fun w F hs hF hp => spec_Put2_c (hs.lend hF 0 rfl) h10) (fun _ _ => ⟨rfl, rfl, ⟨rfl, rfl, rfl, rfl, rfl, trivial⟩⟩)
    · exact OpOK.of (fun g6 => [(.tmp 1, BP b1 0)]) _ _ (fun g6 _ => g6) rfl rfl (fun _ => ⟨rfl, trivial⟩) (fun g6 => Pu.toOT (Pu.fieldB fo66_1 rfl)) (fun _ _ => ⟨rfl, rfl, ⟨rfl, rfl, rfl, rfl, rfl, trivial⟩⟩)
    · exact OpOK.of (fun g6 => [(.tmp 11, BP b1 1)]) _ _ (fun g6 _ => g6) rfl rfl (fun _ => ⟨rfl, trivial⟩) (fun g6 => OT.loadB sc3 rfl) (fun _ _ => ⟨rfl, rfl, ⟨rfl, rfl, rfl, rfl, rfl, trivial⟩⟩)
    · exact OpOK.of (fun g6 => [(.func 103, .func (.func 103) #[] #[]), (.tmp 10, .slice g6.2.1.1 (List.length t9) g6.2.1.2), (.tmp 12, .int .i64 p0.Seq)]) _ _ (fun g6 x => (g6.1, g6.2.1, x, g6.2.2.2)) rfl rfl (fun _ => ⟨rfl, rfl, rfl, trivial⟩) (fun g6 => OT.call (us := [_, _]) (Pre := [OwnS kU8 g6.2.1.1 g6.2.1.2 t9]) [.tmp 10, .tmp 12] Try.call103 rfl rfl fun w F hs hF hp => spec_Put2_c (hs.lend hF 0 rfl) h14) (fun _ _ => ⟨rfl, rfl, ⟨rfl, rfl, rfl, rfl, rfl, trivial⟩⟩)
    · exact OpOK.of (fun g6 => [(.tmp 1, BP b1 0)]) _ _ (fun g6 _ => g6) rfl rfl (fun _ => ⟨rfl, trivial⟩) (fun g6 => Pu.toOT (Pu.fieldB fo66_2 rfl)) (fun _ _ => ⟨rfl, rfl, ⟨rfl, rfl, rfl, rfl, rfl, trivial⟩⟩)
    · exact OpOK.of (fun g6 => [(.tmp 14, BP b1 2)]) _ _ (fun g6 _ => g6) rfl rfl (fun _ => ⟨rfl, trivial⟩) (fun g6 => OT.loadB sc3 rfl) (fun _ _ => ⟨rfl, rfl, ⟨rfl, rfl, rfl, rfl, rfl, trivial⟩⟩)
    · exact OpOK.of (fun g6 => [(.tmp 15, .int .i64 p0.Root)]) _ _ (fun g6 _ => g6) rfl rfl (fun _ => ⟨rfl, trivial⟩) (fun g6 => Pu.toOT (Pu.conv ul3 ul5)) (fun _ _ => ⟨rfl, rfl, ⟨rfl, rfl, rfl, rfl, rfl, trivial⟩⟩)
    · exact OpOK.of (fun g6 => [(.tmp 1, BP b1 0)]) _ _ (fun g6 _ => g6) rfl rfl (fun _ => ⟨rfl, trivial⟩) (fun g6 => Pu.toOT (Pu.fieldB fo66_3 rfl)) (fun _ _ => ⟨rfl, rfl, ⟨rfl, rfl, rfl, rfl, rfl, trivial⟩⟩)
    · exact OpOK.of (fun g6 => [(.tmp 17, BP b1 3)]) _ _ (fun g6 _ => g6) rfl rfl (fun _ => ⟨rfl, trivial⟩) (fun g6 => OT.loadB sc3 rfl) (fun _ _ => ⟨rfl, rfl, ⟨rfl, rfl, rfl, rfl, rfl, trivial⟩⟩)
    · exact OpOK.of (fun g6 => [(.tmp 18, .int .i64 p0.Size)]) _ _ (fun g6 _ => g6) rfl rfl (fun _ => ⟨rfl, trivial⟩) (fun g6 => Pu.toOT (Pu.conv ul3 ul5)) (fun _ _ => ⟨rfl, rfl, ⟨rfl, rfl, rfl, rfl, rfl, trivial⟩⟩)
    · exact OpOK.of (fun g6 => [(.tmp 16, .int .u8 (IntKind.u8.wrap p0.Root)), (.tmp 19, .int .u8 (IntKind.u8.wrap p0.Size))]) _ _ (fun g6 x => (g6.1, g6.2.1, g6.2.2.1, x)) rfl rfl (fun _ => ⟨rfl, rfl, trivial⟩) (fun g6 => OT.buildF (us := [.int .u8 (IntKind.u8.wrap p0.Root), .int .u8 (IntKind.u8.wrap p0.Size)]) (ys := ([(IntKind.u8.wrap p0.Root), (IntKind.u8.wrap p0.Size)] : (List Int))) (enc := (encI .u8)) (hl := fun _ => ⟨rfl, rfl⟩) [.tmp 16, .tmp 19] sl37.ul sl37.szE sl37.zc rfl rfl rfl rfl rfl) (fun _ _ => ⟨rfl, rfl, ⟨rfl, rfl, rfl, rfl, rfl, trivial⟩⟩)
    refine HQ.keep [(2, _), (13, _), (20, _)] ⟨rfl, rfl, rfl, trivial⟩ ?_
    refine HQ.keepR [(1, _), (3, _), (4, _), (5, _), (6, _)] ⟨rfl, rfl, rfl, rfl, rfl, trivial⟩ rfl ?_
    obtain ⟨h21, H⟩ := asr H
    refine HQ.op [5, 6] [5, 6] (OT.appendG (enc := (encI .u8)) (hl := fun _ => ⟨rfl, rfl⟩) sl37 ul37 h21) ⟨rfl, rfl, trivial⟩ ⟨rfl, rfl, trivial⟩ rfl rfl rfl rfl (fun _ => rfl) fun ⟨a19, c20⟩ => ?_
    refine HQ.pu Pu.assign ⟨rfl, trivial⟩ rfl rfl rfl ?_
    refine HQ.done ?_
    refine HQ.keep [(2, _)] ⟨rfl, trivial⟩ ?_
    refine HQ.ret ?_
    obtain rfl := Option.some.inj H
    exact HQ.fin (vs := [_]) Try.results114 (a19, c20) ⟨rfl, trivial⟩ rfl [5] ⟨rfl, trivial⟩ rfl

/-! spec.Pad -/
theorem spec_Pad_c {w : World} {k : Nat} {p0 : (List Int)} {p1 : Int} {a_0 : Option Addr} {c_0 : Nat} (hb_0 : BorS kU8 a_0 c_0 p0 w.heap (Lt w Nil)) {r : (List Int)} (H : spec_Pad k p0 p1 = some r) :
    Calls Try.prog 86 #[.slice a_0 (List.length p0) c_0, .int .i64 p1] w (Rt w Nil (fun g : Option Addr × Nat => .slice g.1 (List.length r) g.2) (fun g => [OwnS kU8 g.1 g.2 r])) := by
  rw [spec_Pad] at H
  refine Calls.enter0 (N := 21) (us := [_, _]) Try.func86 rfl rfl rfl ?_
  refine HQ.rseq ?_
  refine HQ.pu Pu.assign ⟨rfl, trivial⟩ rfl rfl rfl ?_
  refine HQ.done ?_
  refine HQ.keep [(0, _), (1, _), (4, _)] ⟨rfl, rfl, rfl, trivial⟩ ?_
  refine HQ.rseq ?_
  refine HQ.op [] [1] (OT.buildF (us := []) (ys := ([] : (List Int))) (enc := (encI .u8)) (hl := fun _ => ⟨rfl, rfl⟩) [] sl37.ul sl37.szE sl37.zc rfl rfl rfl rfl rfl) trivial trivial rfl rfl rfl rfl (fun _ => rfl) fun ⟨a1, c2⟩ => ?_
  refine HQ.pu Pu.move ⟨rfl, trivial⟩ rfl rfl rfl ?_
  obtain ⟨h5, H⟩ := asr H
  refine HQ.op [1] [1] (OT.appendF (enc := (encI .u8)) (hl := fun _ => ⟨rfl, rfl⟩) sl37 ul37 hb_0 h5) ⟨rfl, rfl, trivial⟩ ⟨rfl, trivial⟩ rfl rfl rfl rfl (fun _ => rfl) fun ⟨a3, c4⟩ => ?_
  refine HQ.pu Pu.assign ⟨rfl, trivial⟩ rfl rfl rfl ?_
  refine HQ.done ?_
  refine HQ.keep [(1, _), (4, _), (5, _)] ⟨rfl, rfl, rfl, trivial⟩ ?_
  refine HQ.seq ?_
  refine HQ.block ?_
  obtain ⟨o27, h31, H⟩ := bnd H
  refine HQ.loop h31 0 (fun (s : (List Int)) (g : Option Addr × Nat) => match s, g with | l12, (a13, c14) => [(1, .int .i64 p1), (4, .slice none 0 0), (5, .slice a13 (List.length l12) c14)]) (fun (s : (List Int)) (g : Option Addr × Nat) => match s, g with | l12, (a13, c14) => [(1, OwnS kU8 a13 c14 l12)]) (fun _ _ _ => False) (a3, c4) ⟨rfl, rfl, rfl, trivial⟩ ⟨rfl, trivial⟩ rfl ?_ ?_ ?_
  · clear H h31
    rintro l12 ⟨a13, c14⟩ o H
    rw [spec_Pad_b0] at H
    refine HQ.keep [(1, _), (4, _), (5, _)] ⟨rfl, rfl, rfl, trivial⟩ ?_
    refine HQ.keepR [(1, _)] ⟨rfl, trivial⟩ rfl ?_
    refine HQ.seq ?_
    refine HQ.rseq ?_
    refine HQ.pu Pu.move ⟨rfl, trivial⟩ rfl rfl rfl ?_
    refine HQ.pu (Pu.len ul37) ⟨rfl, trivial⟩ rfl rfl rfl ?_
    refine HQ.pu Pu.move ⟨rfl, trivial⟩ rfl rfl rfl ?_
    refine HQ.pu Pu.lss ⟨rfl, rfl, trivial⟩ rfl rfl rfl ?_
    refine HQ.pu Pu.move ⟨rfl, trivial⟩ rfl rfl rfl ?_
    refine HQ.cutAt 3 [(16, .bool ((decide (((List.length l12 : Nat) : Int) < p1)) && (decide (p1 ≤ 64)))), (1, .int .i64 p1), (4, .slice none 0 0), (5, .slice a13 (List.length l12) c14)] [(1, OwnS kU8 a13 c14 l12)] ?_ ?_
    · rcases Bool.eq_false_or_eq_true (decide (((List.length l12 : Nat) : Int) < p1)) with hg21 | hg21
      · refine HQ.on rfl rfl hg21 ?_
        refine HQ.pu Pu.move ⟨rfl, trivial⟩ rfl rfl rfl ?_
        refine HQ.on rfl rfl hg21 ?_
        refine HQ.pu Pu.leq ⟨rfl, rfl, trivial⟩ rfl rfl rfl ?_
        refine HQ.pu (Pu.pickAT hg21) ⟨rfl, rfl, trivial⟩ rfl rfl rfl ?_
        exact HQ.mid ⟨rfl, rfl, rfl, rfl, trivial⟩ ⟨rfl, trivial⟩ rfl
      · refine HQ.off rfl rfl hg21 rfl ?_
        refine HQ.off rfl rfl hg21 rfl ?_
        refine HQ.pu (Pu.pickAF (u := (decide (p1 ≤ 64))) hg21) ⟨rfl, rfl, trivial⟩ rfl rfl rfl ?_
        exact HQ.mid ⟨rfl, rfl, rfl, rfl, trivial⟩ ⟨rfl, trivial⟩ rfl
    refine HQ.done ?_
    refine HQ.keep [(16, _), (1, _), (4, _), (5, _)] ⟨rfl, rfl, rfl, rfl, trivial⟩ ?_
    rcases brk H with ⟨hc, H⟩ | ⟨hc, H⟩
    · refine HQ.condT rfl hc ?_
      clear hc
      refine HQ.skipThen ?_
      refine HQ.block ?_
      refine HQ.regionQ ?_
      refine HQ.pu Pu.move ⟨rfl, trivial⟩ rfl rfl rfl ?_
      refine HQ.op [] [4] (OT.buildF (us := [.int .u8 0]) (ys := ([0] : (List Int))) (enc := (encI .u8)) (hl := fun _ => ⟨rfl, rfl⟩) [.const (.int .u8 0)] sl37.ul sl37.szE sl37.zc rfl rfl rfl rfl rfl) ⟨rfl, trivial⟩ trivial rfl rfl rfl rfl (fun _ => rfl) fun ⟨a22, c23⟩ => ?_
      obtain ⟨h26, H⟩ := asr H
      refine HQ.op [1, 4] [1, 4] (OT.appendG (enc := (encI .u8)) (hl := fun _ => ⟨rfl, rfl⟩) sl37 ul37 h26) ⟨rfl, rfl, trivial⟩ ⟨rfl, rfl, trivial⟩ rfl rfl rfl rfl (fun _ => rfl) fun ⟨a24, c25⟩ => ?_
      refine HQ.pu Pu.assign ⟨rfl, trivial⟩ rfl rfl rfl ?_
      refine HQ.done ?_
      refine HQ.keep [(1, _), (4, _), (5, _)] ⟨rfl, rfl, rfl, trivial⟩ ?_
      refine HQ.blkN ?_
      obtain rfl := Option.some.inj H
      exact HQ.next (a24, c25) ⟨rfl, rfl, rfl, trivial⟩ ⟨rfl, trivial⟩ rfl
    · refine HQ.condF rfl hc ?_
      clear hc
      refine HQ.exit ?_
      refine HQ.thenE ?_
      obtain rfl := Option.some.inj H
      exact HQ.out (a13, c14) ⟨rfl, rfl, rfl, trivial⟩ ⟨rfl, trivial⟩ rfl
  · rintro l28 rfl ⟨a29, c30⟩
    clear h31
    replace H := H
    refine HQ.keep [(1, _), (4, _), (5, _)] ⟨rfl, rfl, rfl, trivial⟩ ?_
    refine HQ.keepR [(1, _)] ⟨rfl, trivial⟩ rfl ?_
    refine HQ.blkE ?_
    refine HQ.thenN ?_
    refine HQ.rseq ?_
    refine HQ.pu Pu.move ⟨rfl, trivial⟩ rfl rfl rfl ?_
    refine HQ.pu Pu.assign ⟨rfl, trivial⟩ rfl rfl rfl ?_
    refine HQ.done ?_
    refine HQ.keep [(4, _)] ⟨rfl, trivial⟩ ?_
    refine HQ.ret ?_
    obtain rfl := Option.some.inj H
    exact HQ.fin (vs := [_]) Try.results86 (a29, c30) ⟨rfl, trivial⟩ rfl [1] ⟨rfl, trivial⟩ rfl
  · exact fun r h a w hf => hf.elim

/-! spec.l6Same -/
theorem spec_l6Same_c {w : World} {k : Nat} {p0 : (List Int)} {p1 : (List Int)} {a_0 : Option Addr} {c_0 : Nat} {a_1 : Option Addr} {c_1 : Nat} (hb_0 : BorS kU8 a_0 c_0 p0 w.heap (Lt w Nil)) (hb_1 : BorS kU8 a_1 c_1 p1 w.heap (Lt w Nil)) {r : Bool} (H : spec_l6Same k p0 p1 = some r) :
    Calls Try.prog 118 #[.slice a_0 (List.length p0) c_0, .slice a_1 (List.length p1) c_1] w (Rt w Nil (fun _ : Unit => .bool r) (fun _ => [])) := by
  rw [spec_l6Same] at H
  refine Calls.enter0 (N := 26) (us := [_, _]) Try.func118 rfl rfl rfl ?_
  refine HQ.rseq ?_
  refine HQ.pu Pu.assign ⟨rfl, trivial⟩ rfl rfl rfl ?_
  refine HQ.done ?_
  refine HQ.keep [(0, _), (1, _), (4, _)] ⟨rfl, rfl, rfl, trivial⟩ ?_
  refine HQ.seq ?_
  refine HQ.rseq ?_
  refine HQ.pu Pu.move ⟨rfl, trivial⟩ rfl rfl rfl ?_
  refine HQ.pu (Pu.len ul37) ⟨rfl, trivial⟩ rfl rfl rfl ?_
  refine HQ.pu Pu.move ⟨rfl, trivial⟩ rfl rfl rfl ?_
  refine HQ.pu (Pu.len ul37) ⟨rfl, trivial⟩ rfl rfl rfl ?_
  refine HQ.pu Pu.neq ⟨rfl, rfl, trivial⟩ rfl rfl rfl ?_
  refine HQ.done ?_
  refine HQ.keep [(0, _), (1, _), (4, _), (10, _)] ⟨rfl, rfl, rfl, rfl, trivial⟩ ?_
  rcases brk H with ⟨hc, H⟩ | ⟨hc, H⟩
  · refine HQ.condT rfl hc ?_
    clear hc
    refine HQ.rseq ?_
    refine HQ.pu Pu.assign ⟨rfl, trivial⟩ rfl rfl rfl ?_
    refine HQ.done ?_
    refine HQ.keep [(0, _), (1, _), (4, _)] ⟨rfl, rfl, rfl, trivial⟩ ?_
    refine HQ.ret ?_
    refine HQ.thenR ?_
    obtain rfl := Option.some.inj H
    exact HQ.fin (vs := [_]) Try.results118 () ⟨rfl, trivial⟩ rfl [] trivial rfl
  · refine HQ.condF rfl hc ?_
    clear hc
    refine HQ.skipThen ?_
    refine HQ.seq ?_
    refine HQ.rseq ?_
    refine HQ.pu Pu.assign ⟨rfl, trivial⟩ rfl rfl rfl ?_
    refine HQ.done ?_
    refine HQ.keep [(0, _), (1, _), (4, _), (5, _)] ⟨rfl, rfl, rfl, rfl, trivial⟩ ?_
    refine HQ.block ?_
    obtain ⟨o11, h13, H⟩ := bnd H
    refine HQ.loop h13 0 (fun (s : Int) (g : Unit) => match s, g with | i4, () => [(0, .slice a_0 (List.length p0) c_0), (1, .slice a_1 (List.length p1) c_1), (4, .bool false), (5, .int .i64 i4)]) (fun (s : Int) (g : Unit) => match s, g with | i4, () => []) (fun r => bodyPost Try.prog Try.f118 (Rt w Nil (fun _ : Unit => .bool r) (fun _ => [])) .ret) () ⟨rfl, rfl, rfl, rfl, trivial⟩ trivial rfl ?_ ?_ ?_
    · clear H h13
      rintro i4 _ o H
      rw [spec_l6Same_b0] at H
      refine HQ.keep [(0, _), (1, _), (4, _), (5, _)] ⟨rfl, rfl, rfl, rfl, trivial⟩ ?_
      refine HQ.keepR [] trivial rfl ?_
      refine HQ.seq ?_
      refine HQ.rseq ?_
      refine HQ.pu Pu.move ⟨rfl, trivial⟩ rfl rfl rfl ?_
      refine HQ.pu Pu.move ⟨rfl, trivial⟩ rfl rfl rfl ?_
      refine HQ.pu (Pu.len ul37) ⟨rfl, trivial⟩ rfl rfl rfl ?_
      refine HQ.pu Pu.lss ⟨rfl, rfl, trivial⟩ rfl rfl rfl ?_
      refine HQ.done ?_
      refine HQ.keep [(0, _), (1, _), (4, _), (5, _), (14, _)] ⟨rfl, rfl, rfl, rfl, rfl, trivial⟩ ?_
      rcases brk H with ⟨hc, H⟩ | ⟨hc, H⟩
      · refine HQ.condT rfl hc ?_
        clear hc
        refine HQ.skipThen ?_
        refine HQ.seq ?_
        refine HQ.block ?_
        obtain ⟨h9, H⟩ := asr H
        obtain ⟨h10, H⟩ := asr H
        refine HQ.drawS mixd [(0, .slice a_0 (List.length p0) c_0), (1, .slice a_1 (List.length p1) c_1), (4, .bool false), (5, .int .i64 i4)] 8 [⟨[], [], []⟩, ⟨[], [], []⟩, ⟨[], [], [0, 1]⟩, ⟨[], [], [2]⟩, ⟨[], [], []⟩, ⟨[], [], []⟩, ⟨[], [], [4, 5]⟩, ⟨[], [], [6]⟩] [] (fun (g8 : Unit) => [.slice a_0 (List.length p0) c_0, .int .i64 i4, EP a_0 i4 1 0, .int .u8 (gt p0 i4), .slice a_1 (List.length p1) c_1, .int .i64 i4, EP a_1 i4 1 0, .int .u8 (gt p1 i4)]) (fun (g8 : Unit) => []) () [] [] [] ⟨rfl, rfl, rfl, rfl, trivial⟩ trivial rfl (by kernel_rfl) (fun _ => rfl) (by kernel_rfl) (fun _ => rfl) ⟨?_, ?_, ?_, ?_, ?_, ?_, ?_, ?_, trivial⟩ fun g8 => ?_
        · exact OpOK.of (fun g8 => [(.tmp 0, .slice a_0 (List.length p0) c_0)]) _ _ (fun g8 _ => g8) rfl rfl (fun _ => ⟨rfl, trivial⟩) (fun g8 => Pu.toOT Pu.move) (fun _ _ => ⟨rfl, rfl, trivial⟩)
        · exact OpOK.of (fun g8 => [(.tmp 5, .int .i64 i4)]) _ _ (fun g8 _ => g8) rfl rfl (fun _ => ⟨rfl, trivial⟩) (fun g8 => Pu.toOT Pu.move) (fun _ _ => ⟨rfl, rfl, trivial⟩)
        · exact OpOK.of (fun g8 => [(.tmp 17, .slice a_0 (List.length p0) c_0), (.tmp 18, .int .i64 i4)]) _ _ (fun g8 _ => g8) rfl rfl (fun _ => ⟨rfl, rfl, trivial⟩) (fun g8 => OT.indexB ul37 sz5 hb_0 h9) (fun _ _ => ⟨rfl, rfl, trivial⟩)
        · exact OpOK.of (fun g8 => [(.tmp 19, EP a_0 i4 1 0)]) _ _ (fun g8 _ => g8) rfl rfl (fun _ => ⟨rfl, trivial⟩) (fun g8 => OT.loadF sc5 hb_0 h9 rfl) (fun _ _ => ⟨rfl, rfl, trivial⟩)
        · exact OpOK.of (fun g8 => [(.tmp 1, .slice a_1 (List.length p1) c_1)]) _ _ (fun g8 _ => g8) rfl rfl (fun _ => ⟨rfl, trivial⟩) (fun g8 => Pu.toOT Pu.move) (fun _ _ => ⟨rfl, rfl, trivial⟩)
        · exact OpOK.of (fun g8 => [(.tmp 5, .int .i64 i4)]) _ _ (fun g8 _ => g8) rfl rfl (fun _ => ⟨rfl, trivial⟩) (fun g8 => Pu.toOT Pu.move) (fun _ _ => ⟨rfl, rfl, trivial⟩)
        · exact OpOK.of (fun g8 => [(.tmp 21, .slice a_1 (List.length p1) c_1), (.tmp 22, .int .i64 i4)]) _ _ (fun g8 _ => g8) rfl rfl (fun _ => ⟨rfl, rfl, trivial⟩) (fun g8 => OT.indexB ul37 sz5 hb_1 h10) (fun _ _ => ⟨rfl, rfl, trivial⟩)
        · exact OpOK.of (fun g8 => [(.tmp 23, EP a_1 i4 1 0)]) _ _ (fun g8 _ => g8) rfl rfl (fun _ => ⟨rfl, trivial⟩) (fun g8 => OT.loadF sc5 hb_1 h10 rfl) (fun _ _ => ⟨rfl, rfl, trivial⟩)
        refine HQ.keep [(0, _), (1, _), (4, _), (5, _), (20, _), (24, _)] ⟨rfl, rfl, rfl, rfl, rfl, rfl, trivial⟩ ?_
        refine HQ.keepR [] trivial rfl ?_
        refine HQ.pu Pu.neq ⟨rfl, rfl, trivial⟩ rfl rfl rfl ?_
        refine HQ.done ?_
        refine HQ.keep [(0, _), (1, _), (4, _), (5, _), (25, _)] ⟨rfl, rfl, rfl, rfl, rfl, trivial⟩ ?_
        rcases brk H with ⟨hc, H⟩ | ⟨hc, H⟩
        · refine HQ.condT rfl hc ?_
          clear hc
          refine HQ.rseq ?_
          refine HQ.pu Pu.assign ⟨rfl, trivial⟩ rfl rfl rfl ?_
          refine HQ.done ?_
          refine HQ.keep [(0, _), (1, _), (4, _), (5, _)] ⟨rfl, rfl, rfl, rfl, trivial⟩ ?_
          refine HQ.ret ?_
          refine HQ.blkR ?_
          refine HQ.thenR ?_
          obtain rfl := Option.some.inj H
          refine HQ.retL ?_
          exact HQ.fin (vs := [_]) Try.results118 () ⟨rfl, trivial⟩ rfl [] trivial rfl
        · refine HQ.condF rfl hc ?_
          clear hc
          refine HQ.skip ?_
          refine HQ.blkN ?_
          refine HQ.thenN ?_
          refine HQ.regionQ ?_
          refine HQ.pu Pu.move ⟨rfl, trivial⟩ rfl rfl rfl ?_
          refine HQ.pu Pu.add ⟨rfl, rfl, trivial⟩ rfl rfl rfl ?_
          refine HQ.pu Pu.assign ⟨rfl, trivial⟩ rfl rfl rfl ?_
          refine HQ.done ?_
          refine HQ.keep [(0, _), (1, _), (4, _), (5, _)] ⟨rfl, rfl, rfl, rfl, trivial⟩ ?_
          obtain rfl := Option.some.inj H
          exact HQ.next () ⟨rfl, rfl, rfl, rfl, trivial⟩ trivial rfl
      · refine HQ.condF rfl hc ?_
        clear hc
        refine HQ.exit ?_
        refine HQ.thenE ?_
        obtain rfl := Option.some.inj H
        exact HQ.out () ⟨rfl, rfl, rfl, rfl, trivial⟩ trivial rfl
    · rintro i12 rfl _
      clear h13
      replace H := H
      refine HQ.keep [(0, _), (1, _), (4, _), (5, _)] ⟨rfl, rfl, rfl, rfl, trivial⟩ ?_
      refine HQ.keepR [] trivial rfl ?_
      refine HQ.blkE ?_
      refine HQ.thenN ?_
      refine HQ.rseq ?_
      refine HQ.pu Pu.assign ⟨rfl, trivial⟩ rfl rfl rfl ?_
      refine HQ.done ?_
      refine HQ.keep [(4, _)] ⟨rfl, trivial⟩ ?_
      refine HQ.ret ?_
      obtain rfl := Option.some.inj H
      exact HQ.fin (vs := [_]) Try.results118 () ⟨rfl, trivial⟩ rfl [] trivial rfl
    · rintro r rfl a w hr
      obtain rfl := Option.some.inj H
      exact hr

end Go.Proofs.Sx
