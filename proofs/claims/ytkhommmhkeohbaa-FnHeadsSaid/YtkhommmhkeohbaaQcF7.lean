import Derived.Test.YtkhommmhkeohbaaQcF6
import Derived.KernelRfl
namespace Go.Proofs.Sx
open Go.RowKit
set_option linter.unusedVariables false
set_option linter.unusedSimpArgs false
set_option maxRecDepth 20000
set_option maxHeartbeats 1000000
/-! spec.Read -/
theorem spec_Read_c {w : World} {k : Nat} {p0 : TDisk} {p1 : Int} {a_0 : Option Addr} {c_0 : Nat} {a_1 : Option Addr} {c_1 : Nat} (hb_0 : BorS kTCell a_0 c_0 p0.Cells w.heap (Lt w Nil)) (hb_1 : BorS kTWet a_1 c_1 p0.Wet w.heap (Lt w Nil)) {r : (List Int) × Bool} (H : spec_Read k p0 p1 = some r) :
    Calls Try.prog 18 #[.agg #[.slice a_0 (List.length p0.Cells) c_0, .slice a_1 (List.length p0.Wet) c_1, .int .i64 p0.Fuse, .bool p0.Dead], .int .i64 p1] w (Rt w Nil (fun g : Option Addr × Nat => .tuple #[.slice g.1 (List.length r.1) g.2, .bool r.2]) (fun g => [OwnS kU8 g.1 g.2 r.1])) := by
  rw [spec_Read] at H
  refine Calls.enter0 (N := 65) (us := [_, _]) Try.func18 rfl rfl rfl ?_
  refine HQ.rseq ?_
  refine HQ.op [] [1] (OT.box (cs := [.slice a_0 (List.length p0.Cells) c_0, .slice a_1 (List.length p0.Wet) c_1, .int .i64 p0.Fuse, .bool p0.Dead]) rfl) ⟨rfl, trivial⟩ trivial rfl rfl rfl rfl (fun _ => rfl) fun b1 => ?_
  refine HQ.pu Pu.assign ⟨rfl, trivial⟩ rfl rfl rfl ?_
  refine HQ.pu Pu.assign ⟨rfl, trivial⟩ rfl rfl rfl ?_
  refine HQ.done ?_
  refine HQ.keep [(1, _), (2, _), (4, _), (5, _)] ⟨rfl, rfl, rfl, rfl, trivial⟩ ?_
  refine HQ.seq ?_
  refine HQ.rseq ?_
  refine HQ.pu (Pu.fieldB fo27_1 rfl) ⟨rfl, trivial⟩ rfl rfl rfl ?_
  refine HQ.op [1] [1] (OT.loadB sc25 rfl) ⟨rfl, trivial⟩ ⟨rfl, trivial⟩ rfl rfl rfl rfl (fun _ => rfl) fun _ => ?_
  refine HQ.pu (Pu.len ul25) ⟨rfl, trivial⟩ rfl rfl rfl ?_
  refine HQ.pu Pu.sub ⟨rfl, rfl, trivial⟩ rfl rfl rfl ?_
  refine HQ.pu Pu.assign ⟨rfl, trivial⟩ rfl rfl rfl ?_
  refine HQ.done ?_
  refine HQ.keep [(1, _), (2, _), (4, _), (5, _), (6, _)] ⟨rfl, rfl, rfl, rfl, rfl, trivial⟩ ?_
  refine HQ.block ?_
  obtain ⟨o48, h80, H⟩ := bnd H
  refine HQ.loop h80 0 (fun (s : Int) (g : Unit) => match s, g with | i17, () => [(1, .int .i64 p1), (2, BP b1 0), (4, .slice none 0 0), (5, .bool false), (6, .int .i64 i17)]) (fun (s : Int) (g : Unit) => match s, g with | i17, () => [(1, Box b1 [.slice a_0 (List.length p0.Cells) c_0, .slice a_1 (List.length p0.Wet) c_1, .int .i64 p0.Fuse, .bool p0.Dead])]) (fun r => bodyPost Try.prog Try.f18 (Rt w Nil (fun g : Option Addr × Nat => .tuple #[.slice g.1 (List.length r.1) g.2, .bool r.2]) (fun g => [OwnS kU8 g.1 g.2 r.1])) .ret) () ⟨rfl, rfl, rfl, rfl, rfl, trivial⟩ ⟨rfl, trivial⟩ rfl ?_ ?_ ?_
  · clear H h80
    rintro i17 _ o H
    rw [spec_Read_b0] at H
    refine HQ.keep [(1, _), (2, _), (4, _), (5, _), (6, _)] ⟨rfl, rfl, rfl, rfl, rfl, trivial⟩ ?_
    refine HQ.keepR [(1, _)] ⟨rfl, trivial⟩ rfl ?_
    refine HQ.seq ?_
    refine HQ.rseq ?_
    refine HQ.pu Pu.move ⟨rfl, trivial⟩ rfl rfl rfl ?_
    refine HQ.pu Pu.geq ⟨rfl, rfl, trivial⟩ rfl rfl rfl ?_
    refine HQ.done ?_
    refine HQ.keep [(1, _), (2, _), (4, _), (5, _), (6, _), (12, _)] ⟨rfl, rfl, rfl, rfl, rfl, rfl, trivial⟩ ?_
    rcases brk H with ⟨hc, H⟩ | ⟨hc, H⟩
    · refine HQ.condT rfl hc ?_
      clear hc
      refine HQ.skipThen ?_
      refine HQ.seq ?_
      refine HQ.block ?_
      refine HQ.rseq ?_
      refine HQ.pu (Pu.fieldB fo27_1 rfl) ⟨rfl, trivial⟩ rfl rfl rfl ?_
      refine HQ.op [1] [1] (OT.loadB sc25 rfl) ⟨rfl, trivial⟩ ⟨rfl, trivial⟩ rfl rfl rfl rfl (fun _ => rfl) fun _ => ?_
      refine HQ.pu Pu.move ⟨rfl, trivial⟩ rfl rfl rfl ?_
      obtain ⟨h33, H⟩ := asr H
      refine HQ.op [] [] (OT.indexB ul25 sz110 hb_1 h33) ⟨rfl, rfl, trivial⟩ trivial rfl rfl rfl rfl (fun _ => rfl) fun _ => ?_
      refine HQ.pu (Pu.fieldE fo110_0 rfl) ⟨rfl, trivial⟩ rfl rfl rfl ?_
      obtain ⟨⟨a34, c35⟩, hb36, hn37⟩ := BorS.nest hb_1 h33
      refine HQ.op [] [] (OT.loadN (v := .int .i64 ((gt p0.Wet i17).At)) sc3 hn37 hlTWet rfl) ⟨rfl, trivial⟩ trivial rfl rfl rfl rfl (fun _ => rfl) fun _ => ?_
      refine HQ.pu Pu.move ⟨rfl, trivial⟩ rfl rfl rfl ?_
      refine HQ.pu Pu.eql ⟨rfl, rfl, trivial⟩ rfl rfl rfl ?_
      refine HQ.done ?_
      refine HQ.keep [(1, _), (2, _), (4, _), (5, _), (6, _), (22, _)] ⟨rfl, rfl, rfl, rfl, rfl, rfl, trivial⟩ ?_
      rcases brk H with ⟨hc, H⟩ | ⟨hc, H⟩
      · refine HQ.condT rfl hc ?_
        clear hc
        refine HQ.rseq ?_
        refine HQ.op [] [4] (OT.buildF (us := []) (ys := ([] : (List Int))) (enc := (encI .u8)) (hl := fun _ => ⟨rfl, rfl⟩) [] sl22.ul sl22.szE sl22.zc rfl rfl rfl rfl rfl) trivial trivial rfl rfl rfl rfl (fun _ => rfl) fun ⟨a38, c39⟩ => ?_
        refine HQ.pu (Pu.fieldB fo27_1 rfl) ⟨rfl, trivial⟩ rfl rfl rfl ?_
        refine HQ.op [1] [1] (OT.loadB sc25 rfl) ⟨rfl, trivial⟩ ⟨rfl, trivial⟩ rfl rfl rfl rfl (fun _ => rfl) fun _ => ?_
        refine HQ.pu Pu.move ⟨rfl, trivial⟩ rfl rfl rfl ?_
        obtain ⟨h40, H⟩ := asr H
        refine HQ.op [] [] (OT.indexB ul25 sz110 hb_1 h40) ⟨rfl, rfl, trivial⟩ trivial rfl rfl rfl rfl (fun _ => rfl) fun _ => ?_
        refine HQ.pu (Pu.fieldE fo110_1 rfl) ⟨rfl, trivial⟩ rfl rfl rfl ?_
        obtain ⟨⟨a41, c42⟩, hb43, hn44⟩ := BorS.nest hb_1 h40
        refine HQ.op [] [] (OT.loadN (v := .slice a41 (List.length ((gt p0.Wet i17).B)) c42) sc22 hn44 hlTWet rfl) ⟨rfl, trivial⟩ trivial rfl rfl rfl rfl (fun _ => rfl) fun _ => ?_
        obtain ⟨h47, H⟩ := asr H
        refine HQ.op [4] [4] (OT.appendF (enc := (encI .u8)) (hl := fun _ => ⟨rfl, rfl⟩) sl22 ul22 hb43 h47) ⟨rfl, rfl, trivial⟩ ⟨rfl, trivial⟩ rfl rfl rfl rfl (fun _ => rfl) fun ⟨a45, c46⟩ => ?_
        refine HQ.pu Pu.assign ⟨rfl, trivial⟩ rfl rfl rfl ?_
        refine HQ.pu Pu.assign ⟨rfl, trivial⟩ rfl rfl rfl ?_
        refine HQ.done ?_
        refine HQ.keep [(1, _), (2, _), (4, _), (5, _), (6, _)] ⟨rfl, rfl, rfl, rfl, rfl, trivial⟩ ?_
        refine HQ.ret ?_
        refine HQ.blkR ?_
        refine HQ.thenR ?_
        obtain rfl := Option.some.inj H
        refine HQ.retL ?_
        exact HQ.fin (vs := [_, _]) Try.results18 (a45, c46) ⟨rfl, rfl, trivial⟩ rfl [4] ⟨rfl, trivial⟩ rfl
      · refine HQ.condF rfl hc ?_
        clear hc
        refine HQ.skip ?_
        refine HQ.blkN ?_
        refine HQ.thenN ?_
        refine HQ.regionQ ?_
        refine HQ.pu Pu.move ⟨rfl, trivial⟩ rfl rfl rfl ?_
        refine HQ.pu Pu.sub ⟨rfl, rfl, trivial⟩ rfl rfl rfl ?_
        refine HQ.pu Pu.assign ⟨rfl, trivial⟩ rfl rfl rfl ?_
        refine HQ.done ?_
        refine HQ.keep [(1, _), (2, _), (4, _), (5, _), (6, _)] ⟨rfl, rfl, rfl, rfl, rfl, trivial⟩ ?_
        obtain rfl := Option.some.inj H
        exact HQ.next () ⟨rfl, rfl, rfl, rfl, rfl, trivial⟩ ⟨rfl, trivial⟩ rfl
    · refine HQ.condF rfl hc ?_
      clear hc
      refine HQ.exit ?_
      refine HQ.thenE ?_
      obtain rfl := Option.some.inj H
      exact HQ.out () ⟨rfl, rfl, rfl, rfl, rfl, trivial⟩ ⟨rfl, trivial⟩ rfl
  · rintro i49 rfl _
    clear h80
    replace H := H
    refine HQ.keep [(1, _), (2, _), (4, _), (5, _), (6, _)] ⟨rfl, rfl, rfl, rfl, rfl, trivial⟩ ?_
    refine HQ.keepR [(1, _)] ⟨rfl, trivial⟩ rfl ?_
    refine HQ.blkE ?_
    refine HQ.thenN ?_
    refine HQ.seq ?_
    refine HQ.rseq ?_
    refine HQ.pu Pu.move ⟨rfl, trivial⟩ rfl rfl rfl ?_
    refine HQ.pu (Pu.fieldB fo27_0 rfl) ⟨rfl, trivial⟩ rfl rfl rfl ?_
    refine HQ.op [1] [1] (OT.loadB sc24 rfl) ⟨rfl, trivial⟩ ⟨rfl, trivial⟩ rfl rfl rfl rfl (fun _ => rfl) fun _ => ?_
    refine HQ.pu (Pu.len ul24) ⟨rfl, trivial⟩ rfl rfl rfl ?_
    refine HQ.pu Pu.sub ⟨rfl, rfl, trivial⟩ rfl rfl rfl ?_
    obtain ⟨t50, h51, H⟩ := bnd H
    refine HQ.op [] [] (OT.call (us := [_, _, _]) (Pre := []) [.tmp 31, .const (.int .i64 0), .tmp 35] Try.call89 rfl rfl fun w F hs hF hp => spec_l1In_c h51) ⟨rfl, rfl, rfl, rfl, trivial⟩ trivial rfl rfl rfl rfl (fun _ => rfl) fun _ => ?_
    refine HQ.pu Pu.not ⟨rfl, trivial⟩ rfl rfl rfl ?_
    refine HQ.pu Pu.move ⟨rfl, trivial⟩ rfl rfl rfl ?_
    obtain ⟨c58, h59, H⟩ := bnd H
    refine HQ.cutAt 7 [(45, .bool c58), (1, .int .i64 p1), (2, BP b1 0), (4, .slice none 0 0), (5, .bool false)] [(1, Box b1 [.slice a_0 (List.length p0.Cells) c_0, .slice a_1 (List.length p0.Wet) c_1, .int .i64 p0.Fuse, .bool p0.Dead])] ?_ ?_
    · clear H
      have H := h59
      rcases brk H with ⟨hg52, H⟩ | ⟨hg52, H⟩
      · obtain rfl := Option.some.inj H
        refine HQ.off rfl rfl hg52 rfl ?_
        refine HQ.off rfl rfl hg52 rfl ?_
        refine HQ.off rfl rfl hg52 rfl ?_
        refine HQ.off rfl rfl hg52 rfl ?_
        refine HQ.off rfl rfl hg52 rfl ?_
        refine HQ.off rfl rfl hg52 rfl ?_
        refine HQ.pu (Pu.pickC1 hg52) ⟨rfl, rfl, trivial⟩ rfl rfl rfl ?_
        exact HQ.mid ⟨rfl, rfl, rfl, rfl, rfl, trivial⟩ ⟨rfl, trivial⟩ rfl
      · refine HQ.on rfl rfl hg52 ?_
        refine HQ.pu (Pu.fieldB fo27_0 rfl) ⟨rfl, trivial⟩ rfl rfl rfl ?_
        refine HQ.on rfl rfl hg52 ?_
        refine HQ.op [1] [1] (OT.loadB sc24 rfl) ⟨rfl, trivial⟩ ⟨rfl, trivial⟩ rfl rfl rfl rfl (fun _ => rfl) fun _ => ?_
        refine HQ.on rfl rfl hg52 ?_
        refine HQ.pu Pu.move ⟨rfl, trivial⟩ rfl rfl rfl ?_
        refine HQ.on rfl rfl hg52 ?_
        obtain ⟨h53, H⟩ := asr H
        refine HQ.op [] [] (OT.indexB ul24 sz113 hb_0 h53) ⟨rfl, rfl, trivial⟩ trivial rfl rfl rfl rfl (fun _ => rfl) fun _ => ?_
        refine HQ.on rfl rfl hg52 ?_
        refine HQ.pu (Pu.fieldE fo113_0 rfl) ⟨rfl, trivial⟩ rfl rfl rfl ?_
        refine HQ.on rfl rfl hg52 ?_
        obtain ⟨⟨a54, c55⟩, hb56, hn57⟩ := BorS.nest hb_0 h53
        refine HQ.op [] [] (OT.loadN (v := .bool ((gt p0.Cells p1).Bad)) sc4 hn57 hlTCell rfl) ⟨rfl, trivial⟩ trivial rfl rfl rfl rfl (fun _ => rfl) fun _ => ?_
        obtain rfl := Option.some.inj H
        refine HQ.pu (Pu.pickC0 hg52) ⟨rfl, rfl, trivial⟩ rfl rfl rfl ?_
        exact HQ.mid ⟨rfl, rfl, rfl, rfl, rfl, trivial⟩ ⟨rfl, trivial⟩ rfl
    refine HQ.pu Pu.move ⟨rfl, trivial⟩ rfl rfl rfl ?_
    obtain ⟨c66, h67, H⟩ := bnd H
    refine HQ.cutAt 9 [(55, .bool c66), (1, .int .i64 p1), (2, BP b1 0), (4, .slice none 0 0), (5, .bool false)] [(1, Box b1 [.slice a_0 (List.length p0.Cells) c_0, .slice a_1 (List.length p0.Wet) c_1, .int .i64 p0.Fuse, .bool p0.Dead])] ?_ ?_
    · clear H
      have H := h67
      rcases brk H with ⟨hg60, H⟩ | ⟨hg60, H⟩
      · obtain rfl := Option.some.inj H
        refine HQ.off rfl rfl hg60 rfl ?_
        refine HQ.off rfl rfl hg60 rfl ?_
        refine HQ.off rfl rfl hg60 rfl ?_
        refine HQ.off rfl rfl hg60 rfl ?_
        refine HQ.off rfl rfl hg60 rfl ?_
        refine HQ.off rfl rfl hg60 rfl ?_
        refine HQ.off rfl rfl hg60 rfl ?_
        refine HQ.off rfl rfl hg60 rfl ?_
        refine HQ.pu (Pu.pickC1 hg60) ⟨rfl, rfl, trivial⟩ rfl rfl rfl ?_
        exact HQ.mid ⟨rfl, rfl, rfl, rfl, rfl, trivial⟩ ⟨rfl, trivial⟩ rfl
      · refine HQ.on rfl rfl hg60 ?_
        refine HQ.pu (Pu.fieldB fo27_0 rfl) ⟨rfl, trivial⟩ rfl rfl rfl ?_
        refine HQ.on rfl rfl hg60 ?_
        refine HQ.op [1] [1] (OT.loadB sc24 rfl) ⟨rfl, trivial⟩ ⟨rfl, trivial⟩ rfl rfl rfl rfl (fun _ => rfl) fun _ => ?_
        refine HQ.on rfl rfl hg60 ?_
        refine HQ.pu Pu.move ⟨rfl, trivial⟩ rfl rfl rfl ?_
        refine HQ.on rfl rfl hg60 ?_
        obtain ⟨h61, H⟩ := asr H
        refine HQ.op [] [] (OT.indexB ul24 sz113 hb_0 h61) ⟨rfl, rfl, trivial⟩ trivial rfl rfl rfl rfl (fun _ => rfl) fun _ => ?_
        refine HQ.on rfl rfl hg60 ?_
        refine HQ.pu (Pu.fieldE fo113_1 rfl) ⟨rfl, trivial⟩ rfl rfl rfl ?_
        refine HQ.on rfl rfl hg60 ?_
        obtain ⟨⟨a62, c63⟩, hb64, hn65⟩ := BorS.nest hb_0 h61
        refine HQ.op [] [] (OT.loadN (v := .slice a62 (List.length ((gt p0.Cells p1).B)) c63) sc22 hn65 hlTCell rfl) ⟨rfl, trivial⟩ trivial rfl rfl rfl rfl (fun _ => rfl) fun _ => ?_
        refine HQ.on rfl rfl hg60 ?_
        refine HQ.pu (Pu.len ul22) ⟨rfl, trivial⟩ rfl rfl rfl ?_
        refine HQ.on rfl rfl hg60 ?_
        refine HQ.pu Pu.eql ⟨rfl, rfl, trivial⟩ rfl rfl rfl ?_
        obtain rfl := Option.some.inj H
        refine HQ.pu (Pu.pickC0 hg60) ⟨rfl, rfl, trivial⟩ rfl rfl rfl ?_
        exact HQ.mid ⟨rfl, rfl, rfl, rfl, rfl, trivial⟩ ⟨rfl, trivial⟩ rfl
    refine HQ.done ?_
    refine HQ.keep [(55, _), (1, _), (2, _), (4, _), (5, _)] ⟨rfl, rfl, rfl, rfl, rfl, trivial⟩ ?_
    rcases brk H with ⟨hc, H⟩ | ⟨hc, H⟩
    · refine HQ.condT rfl hc ?_
      clear hc
      refine HQ.rseq ?_
      refine HQ.op [] [5] (OT.buildF (us := []) (ys := ([] : (List Int))) (enc := (encI .u8)) (hl := fun _ => ⟨rfl, rfl⟩) [] sl22.ul sl22.szE sl22.zc rfl rfl rfl rfl rfl) trivial trivial rfl rfl rfl rfl (fun _ => rfl) fun ⟨a68, c69⟩ => ?_
      refine HQ.pu Pu.assign ⟨rfl, trivial⟩ rfl rfl rfl ?_
      refine HQ.pu Pu.assign ⟨rfl, trivial⟩ rfl rfl rfl ?_
      refine HQ.done ?_
      refine HQ.keep [(1, _), (2, _), (4, _), (5, _)] ⟨rfl, rfl, rfl, rfl, trivial⟩ ?_
      refine HQ.ret ?_
      refine HQ.thenR ?_
      obtain rfl := Option.some.inj H
      exact HQ.fin (vs := [_, _]) Try.results18 (a68, c69) ⟨rfl, rfl, trivial⟩ rfl [5] ⟨rfl, trivial⟩ rfl
    · refine HQ.condF rfl hc ?_
      clear hc
      refine HQ.skipThen ?_
      refine HQ.rseq ?_
      refine HQ.op [] [6] (OT.buildF (us := []) (ys := ([] : (List Int))) (enc := (encI .u8)) (hl := fun _ => ⟨rfl, rfl⟩) [] sl22.ul sl22.szE sl22.zc rfl rfl rfl rfl rfl) trivial trivial rfl rfl rfl rfl (fun _ => rfl) fun ⟨a70, c71⟩ => ?_
      refine HQ.pu (Pu.fieldB fo27_0 rfl) ⟨rfl, trivial⟩ rfl rfl rfl ?_
      refine HQ.op [1] [1] (OT.loadB sc24 rfl) ⟨rfl, trivial⟩ ⟨rfl, trivial⟩ rfl rfl rfl rfl (fun _ => rfl) fun _ => ?_
      refine HQ.pu Pu.move ⟨rfl, trivial⟩ rfl rfl rfl ?_
      obtain ⟨h72, H⟩ := asr H
      refine HQ.op [] [] (OT.indexB ul24 sz113 hb_0 h72) ⟨rfl, rfl, trivial⟩ trivial rfl rfl rfl rfl (fun _ => rfl) fun _ => ?_
      refine HQ.pu (Pu.fieldE fo113_1 rfl) ⟨rfl, trivial⟩ rfl rfl rfl ?_
      obtain ⟨⟨a73, c74⟩, hb75, hn76⟩ := BorS.nest hb_0 h72
      refine HQ.op [] [] (OT.loadN (v := .slice a73 (List.length ((gt p0.Cells p1).B)) c74) sc22 hn76 hlTCell rfl) ⟨rfl, trivial⟩ trivial rfl rfl rfl rfl (fun _ => rfl) fun _ => ?_
      obtain ⟨h79, H⟩ := asr H
      refine HQ.op [6] [6] (OT.appendF (enc := (encI .u8)) (hl := fun _ => ⟨rfl, rfl⟩) sl22 ul22 hb75 h79) ⟨rfl, rfl, trivial⟩ ⟨rfl, trivial⟩ rfl rfl rfl rfl (fun _ => rfl) fun ⟨a77, c78⟩ => ?_
      refine HQ.pu Pu.assign ⟨rfl, trivial⟩ rfl rfl rfl ?_
      refine HQ.pu Pu.assign ⟨rfl, trivial⟩ rfl rfl rfl ?_
      refine HQ.done ?_
      refine HQ.keep [(4, _), (5, _)] ⟨rfl, rfl, trivial⟩ ?_
      refine HQ.ret ?_
      obtain rfl := Option.some.inj H
      exact HQ.fin (vs := [_, _]) Try.results18 (a77, c78) ⟨rfl, rfl, trivial⟩ rfl [6] ⟨rfl, trivial⟩ rfl
  · rintro r rfl a w hr
    obtain rfl := Option.some.inj H
    exact hr

/-! spec.BestHead -/
theorem spec_BestHead_c {w : World} {k : Nat} {p0 : TDisk} {a_0 : Option Addr} {c_0 : Nat} {a_1 : Option Addr} {c_1 : Nat} (hb_0 : BorS kTCell a_0 c_0 p0.Cells w.heap (Lt w Nil)) (hb_1 : BorS kTWet a_1 c_1 p0.Wet w.heap (Lt w Nil)) {r : THead × Bool} (H : spec_BestHead k p0 = some r) :
    Calls Try.prog 46 #[.agg #[.slice a_0 (List.length p0.Cells) c_0, .slice a_1 (List.length p0.Wet) c_1, .int .i64 p0.Fuse, .bool p0.Dead]] w (Rt w Nil (fun _ : Unit => .tuple #[.agg #[.int .i64 r.1.Epoch, .int .i64 r.1.Seq, .int .i64 r.1.Root, .int .i64 r.1.Size], .bool r.2]) (fun _ => [])) := by
  rw [spec_BestHead] at H
  refine Calls.enter0 (N := 49) (us := [_]) Try.func46 rfl rfl rfl ?_
  refine HQ.rseq ?_
  refine HQ.op [] [1] (OT.box (cs := [.slice a_0 (List.length p0.Cells) c_0, .slice a_1 (List.length p0.Wet) c_1, .int .i64 p0.Fuse, .bool p0.Dead]) rfl) ⟨rfl, trivial⟩ trivial rfl rfl rfl rfl (fun _ => rfl) fun b1 => ?_
  refine HQ.op [] [2] (OT.alloc zc68) trivial trivial rfl rfl rfl rfl (fun _ => rfl) fun b2 => ?_
  refine HQ.pu Pu.assign ⟨rfl, trivial⟩ rfl rfl rfl ?_
  refine HQ.done ?_
  refine HQ.keep [(1, _), (2, _), (3, _)] ⟨rfl, rfl, rfl, trivial⟩ ?_
  refine HQ.rseq ?_
  refine HQ.pu (Pu.build (us := []) (cs := [.int .i64 0, .int .i64 0, .int .i64 0, .int .i64 0]) [] st68 rfl rfl rfl) trivial rfl rfl rfl ?_
  refine HQ.op [] [3] (OT.alloc zc68) trivial trivial rfl rfl rfl rfl (fun _ => rfl) fun b3 => ?_
  refine HQ.opN [3] [3] [] (OT.storeC (cs' := [.int .i64 0, .int .i64 0, .int .i64 0, .int .i64 0]) sz68 rfl rfl rfl rfl rfl) ⟨rfl, rfl, trivial⟩ ⟨rfl, trivial⟩ rfl rfl rfl (fun _ => rfl) fun _ => ?_
  refine HQ.done ?_
  refine HQ.keep [(1, _), (2, _), (3, _), (4, _)] ⟨rfl, rfl, rfl, rfl, trivial⟩ ?_
  refine HQ.rseq ?_
  refine HQ.pu Pu.assign ⟨rfl, trivial⟩ rfl rfl rfl ?_
  refine HQ.done ?_
  refine HQ.keep [(1, _), (2, _), (3, _), (4, _), (5, _)] ⟨rfl, rfl, rfl, rfl, rfl, trivial⟩ ?_
  refine HQ.seq ?_
  refine HQ.rseq ?_
  refine HQ.pu Pu.assign ⟨rfl, trivial⟩ rfl rfl rfl ?_
  refine HQ.done ?_
  refine HQ.keep [(1, _), (2, _), (3, _), (4, _), (5, _), (6, _)] ⟨rfl, rfl, rfl, rfl, rfl, rfl, trivial⟩ ?_
  refine HQ.block ?_
  obtain ⟨o40, h47, H⟩ := bnd H
  refine HQ.loop h47 0 (fun (s : Bool × Int × Int × Int × Int × Int) (g : Unit) => match s, g with | (q14, i15, i16, i17, i18, i19), () => [(1, BP b1 0), (2, BP b2 0), (3, .bool false), (4, BP b3 0), (5, .bool q14), (6, .int .i64 i15)]) (fun (s : Bool × Int × Int × Int × Int × Int) (g : Unit) => match s, g with | (q14, i15, i16, i17, i18, i19), () => [(1, Box b1 [.slice a_0 (List.length p0.Cells) c_0, .slice a_1 (List.length p0.Wet) c_1, .int .i64 p0.Fuse, .bool p0.Dead]), (2, Box b2 [.int .i64 0, .int .i64 0, .int .i64 0, .int .i64 0]), (3, Box b3 [.int .i64 i16, .int .i64 i17, .int .i64 i18, .int .i64 i19])]) (fun _ _ _ => False) () ⟨rfl, rfl, rfl, rfl, rfl, rfl, trivial⟩ ⟨rfl, rfl, rfl, trivial⟩ rfl ?_ ?_ ?_
  · clear H h47
    rintro ⟨q14, i15, i16, i17, i18, i19⟩ _ o H
    rw [spec_BestHead_b0] at H
    refine HQ.keep [(1, _), (2, _), (3, _), (4, _), (5, _), (6, _)] ⟨rfl, rfl, rfl, rfl, rfl, rfl, trivial⟩ ?_
    refine HQ.keepR [(1, _), (2, _), (3, _)] ⟨rfl, rfl, rfl, trivial⟩ rfl ?_
    refine HQ.seq ?_
    refine HQ.rseq ?_
    refine HQ.pu Pu.move ⟨rfl, trivial⟩ rfl rfl rfl ?_
    refine HQ.pu Pu.lss ⟨rfl, rfl, trivial⟩ rfl rfl rfl ?_
    refine HQ.done ?_
    refine HQ.keep [(1, _), (2, _), (3, _), (4, _), (5, _), (6, _), (13, _)] ⟨rfl, rfl, rfl, rfl, rfl, rfl, rfl, trivial⟩ ?_
    rcases brk H with ⟨hc, H⟩ | ⟨hc, H⟩
    · refine HQ.condT rfl hc ?_
      clear hc
      refine HQ.skipThen ?_
      refine HQ.seq ?_
      refine HQ.block ?_
      refine HQ.rseq ?_
      refine HQ.op [1] [1] (OT.loadBA (vs := [.slice a_0 (List.length p0.Cells) c_0, .slice a_1 (List.length p0.Wet) c_1, .int .i64 p0.Fuse, .bool p0.Dead]) ag27 sz27 rfl rfl) ⟨rfl, trivial⟩ ⟨rfl, trivial⟩ rfl rfl rfl rfl (fun _ => rfl) fun _ => ?_
      refine HQ.pu Pu.move ⟨rfl, trivial⟩ rfl rfl rfl ?_
      obtain ⟨t30, h31, H⟩ := bnd H
      refine HQ.op [] [8] (OT.call (us := [_, _]) (Pre := []) [.tmp 17, .tmp 18] Try.call18 rfl rfl fun w F hs hF hp => spec_Read_c (hb_0.pass hp) (hb_1.pass hp) h31) ⟨rfl, rfl, rfl, trivial⟩ trivial rfl rfl rfl rfl (fun _ => rfl) fun ⟨a32, c33⟩ => ?_
      refine HQ.pu Pu.move ⟨rfl, trivial⟩ rfl rfl rfl ?_
      refine HQ.pu (Pu.extract rfl) ⟨rfl, trivial⟩ rfl rfl rfl ?_
      refine HQ.pu (Pu.extract rfl) ⟨rfl, trivial⟩ rfl rfl rfl ?_
      refine HQ.pu Pu.assign ⟨rfl, trivial⟩ rfl rfl rfl ?_
      refine HQ.pu Pu.assign ⟨rfl, trivial⟩ rfl rfl rfl ?_
      refine HQ.done ?_
      refine HQ.keep [(1, _), (2, _), (3, _), (4, _), (5, _), (6, _), (7, _)] ⟨rfl, rfl, rfl, rfl, rfl, rfl, rfl, trivial⟩ ?_
      refine HQ.rseq ?_
      refine HQ.pu Pu.move ⟨rfl, trivial⟩ rfl rfl rfl ?_
      obtain ⟨t34, h35, H⟩ := bnd H
      refine HQ.op [8] [8] (OT.call (us := [_]) (Pre := [OwnS kU8 a32 c33 t30.1]) [.tmp 23] Try.call43 rfl rfl fun w F hs hF hp => spec_GetHead_c (hs.lend hF 0 rfl) h35) ⟨rfl, rfl, trivial⟩ ⟨rfl, trivial⟩ rfl rfl rfl rfl (fun _ => rfl) fun _ => ?_
      refine HQ.pu Pu.move ⟨rfl, trivial⟩ rfl rfl rfl ?_
      refine HQ.pu (Pu.extract rfl) ⟨rfl, trivial⟩ rfl rfl rfl ?_
      refine HQ.pu (Pu.extract rfl) ⟨rfl, trivial⟩ rfl rfl rfl ?_
      refine HQ.op [] [9] (OT.alloc zc68) trivial trivial rfl rfl rfl rfl (fun _ => rfl) fun b36 => ?_
      refine HQ.opN [9] [9] [] (OT.storeC (cs' := [.int .i64 t34.1.Epoch, .int .i64 t34.1.Seq, .int .i64 t34.1.Root, .int .i64 t34.1.Size]) sz68 rfl rfl rfl rfl rfl) ⟨rfl, rfl, trivial⟩ ⟨rfl, trivial⟩ rfl rfl rfl (fun _ => rfl) fun _ => ?_
      refine HQ.pu Pu.assign ⟨rfl, trivial⟩ rfl rfl rfl ?_
      refine HQ.done ?_
      refine HQ.keep [(1, _), (2, _), (3, _), (4, _), (5, _), (6, _), (9, _), (10, _)] ⟨rfl, rfl, rfl, rfl, rfl, rfl, rfl, rfl, trivial⟩ ?_
      refine HQ.rseq ?_
      refine HQ.pu Pu.move ⟨rfl, trivial⟩ rfl rfl rfl ?_
      refine HQ.pu Pu.move ⟨rfl, trivial⟩ rfl rfl rfl ?_
      refine HQ.cutAt 6 [(34, .bool (t34.2 && (decide ((Int.tmod t34.1.Epoch 2) = i15)))), (1, BP b1 0), (2, BP b2 0), (3, .bool false), (4, BP b3 0), (5, .bool q14), (6, .int .i64 i15), (9, BP b36 0)] [(1, Box b1 [.slice a_0 (List.length p0.Cells) c_0, .slice a_1 (List.length p0.Wet) c_1, .int .i64 p0.Fuse, .bool p0.Dead]), (2, Box b2 [.int .i64 0, .int .i64 0, .int .i64 0, .int .i64 0]), (3, Box b3 [.int .i64 i16, .int .i64 i17, .int .i64 i18, .int .i64 i19]), (8, OwnS kU8 a32 c33 t30.1), (9, Box b36 [.int .i64 t34.1.Epoch, .int .i64 t34.1.Seq, .int .i64 t34.1.Root, .int .i64 t34.1.Size])] ?_ ?_
      · rcases Bool.eq_false_or_eq_true t34.2 with hg37 | hg37
        · refine HQ.on rfl rfl hg37 ?_
          refine HQ.pu (Pu.fieldB fo68_0 rfl) ⟨rfl, trivial⟩ rfl rfl rfl ?_
          refine HQ.on rfl rfl hg37 ?_
          refine HQ.op [9] [9] (OT.loadB sc3 rfl) ⟨rfl, trivial⟩ ⟨rfl, trivial⟩ rfl rfl rfl rfl (fun _ => rfl) fun _ => ?_
          refine HQ.on rfl rfl hg37 ?_
          refine HQ.pu (Pu.rem (by decide)) ⟨rfl, rfl, trivial⟩ rfl rfl rfl ?_
          refine HQ.on rfl rfl hg37 ?_
          refine HQ.pu Pu.move ⟨rfl, trivial⟩ rfl rfl rfl ?_
          refine HQ.on rfl rfl hg37 ?_
          refine HQ.pu Pu.eql ⟨rfl, rfl, trivial⟩ rfl rfl rfl ?_
          refine HQ.pu (Pu.pickAT hg37) ⟨rfl, rfl, trivial⟩ rfl rfl rfl ?_
          exact HQ.mid ⟨rfl, rfl, rfl, rfl, rfl, rfl, rfl, rfl, trivial⟩ ⟨rfl, rfl, rfl, rfl, rfl, trivial⟩ rfl
        · refine HQ.off rfl rfl hg37 rfl ?_
          refine HQ.off rfl rfl hg37 rfl ?_
          refine HQ.off rfl rfl hg37 rfl ?_
          refine HQ.off rfl rfl hg37 rfl ?_
          refine HQ.off rfl rfl hg37 rfl ?_
          refine HQ.pu (Pu.pickAF (u := (decide ((Int.tmod t34.1.Epoch 2) = i15))) hg37) ⟨rfl, rfl, trivial⟩ rfl rfl rfl ?_
          exact HQ.mid ⟨rfl, rfl, rfl, rfl, rfl, rfl, rfl, rfl, trivial⟩ ⟨rfl, rfl, rfl, rfl, rfl, trivial⟩ rfl
      refine HQ.pu Pu.move ⟨rfl, trivial⟩ rfl rfl rfl ?_
      refine HQ.cutAt 10 [(45, .bool ((t34.2 && (decide ((Int.tmod t34.1.Epoch 2) = i15))) && ((!q14) || (decide (t34.1.Epoch > i16))))), (1, BP b1 0), (2, BP b2 0), (3, .bool false), (4, BP b3 0), (5, .bool q14), (6, .int .i64 i15), (9, BP b36 0)] [(1, Box b1 [.slice a_0 (List.length p0.Cells) c_0, .slice a_1 (List.length p0.Wet) c_1, .int .i64 p0.Fuse, .bool p0.Dead]), (2, Box b2 [.int .i64 0, .int .i64 0, .int .i64 0, .int .i64 0]), (3, Box b3 [.int .i64 i16, .int .i64 i17, .int .i64 i18, .int .i64 i19]), (8, OwnS kU8 a32 c33 t30.1), (9, Box b36 [.int .i64 t34.1.Epoch, .int .i64 t34.1.Seq, .int .i64 t34.1.Root, .int .i64 t34.1.Size])] ?_ ?_
      · rcases Bool.eq_false_or_eq_true (t34.2 && (decide ((Int.tmod t34.1.Epoch 2) = i15))) with hg38 | hg38
        · refine HQ.on rfl rfl hg38 ?_
          refine HQ.pu Pu.move ⟨rfl, trivial⟩ rfl rfl rfl ?_
          refine HQ.on rfl rfl hg38 ?_
          refine HQ.pu Pu.not ⟨rfl, trivial⟩ rfl rfl rfl ?_
          refine HQ.on rfl rfl hg38 ?_
          refine HQ.pu Pu.move ⟨rfl, trivial⟩ rfl rfl rfl ?_
          refine HQ.cutAt 6 [(44, .bool ((!q14) || (decide (t34.1.Epoch > i16)))), (1, BP b1 0), (2, BP b2 0), (3, .bool false), (4, BP b3 0), (5, .bool q14), (6, .int .i64 i15), (9, BP b36 0), (35, .bool (t34.2 && (decide ((Int.tmod t34.1.Epoch 2) = i15)))), (36, .bool q14), (37, .bool (!q14)), (38, .bool (!q14))] [(1, Box b1 [.slice a_0 (List.length p0.Cells) c_0, .slice a_1 (List.length p0.Wet) c_1, .int .i64 p0.Fuse, .bool p0.Dead]), (2, Box b2 [.int .i64 0, .int .i64 0, .int .i64 0, .int .i64 0]), (3, Box b3 [.int .i64 i16, .int .i64 i17, .int .i64 i18, .int .i64 i19]), (8, OwnS kU8 a32 c33 t30.1), (9, Box b36 [.int .i64 t34.1.Epoch, .int .i64 t34.1.Seq, .int .i64 t34.1.Root, .int .i64 t34.1.Size])] ?_ ?_
          · rcases Bool.eq_false_or_eq_true (!q14) with hg39 | hg39
            · refine HQ.off rfl rfl hg39 rfl ?_
              refine HQ.off rfl rfl hg39 rfl ?_
              refine HQ.off rfl rfl hg39 rfl ?_
              refine HQ.off rfl rfl hg39 rfl ?_
              refine HQ.off rfl rfl hg39 rfl ?_
              refine HQ.on rfl rfl hg38 ?_
              refine HQ.pu (Pu.pickOT (u := (decide (t34.1.Epoch > i16))) hg39) ⟨rfl, rfl, trivial⟩ rfl rfl rfl ?_
              exact HQ.mid ⟨rfl, rfl, rfl, rfl, rfl, rfl, rfl, rfl, rfl, rfl, rfl, rfl, trivial⟩ ⟨rfl, rfl, rfl, rfl, rfl, trivial⟩ rfl
            · refine HQ.on rfl rfl hg39 ?_
              refine HQ.pu (Pu.fieldB fo68_0 rfl) ⟨rfl, trivial⟩ rfl rfl rfl ?_
              refine HQ.on rfl rfl hg39 ?_
              refine HQ.op [9] [9] (OT.loadB sc3 rfl) ⟨rfl, trivial⟩ ⟨rfl, trivial⟩ rfl rfl rfl rfl (fun _ => rfl) fun _ => ?_
              refine HQ.on rfl rfl hg39 ?_
              refine HQ.pu (Pu.fieldB fo68_0 rfl) ⟨rfl, trivial⟩ rfl rfl rfl ?_
              refine HQ.on rfl rfl hg39 ?_
              refine HQ.op [3] [3] (OT.loadB sc3 rfl) ⟨rfl, trivial⟩ ⟨rfl, trivial⟩ rfl rfl rfl rfl (fun _ => rfl) fun _ => ?_
              refine HQ.on rfl rfl hg39 ?_
              refine HQ.pu Pu.gtr ⟨rfl, rfl, trivial⟩ rfl rfl rfl ?_
              refine HQ.on rfl rfl hg38 ?_
              refine HQ.pu (Pu.pickOF hg39) ⟨rfl, rfl, trivial⟩ rfl rfl rfl ?_
              exact HQ.mid ⟨rfl, rfl, rfl, rfl, rfl, rfl, rfl, rfl, rfl, rfl, rfl, rfl, trivial⟩ ⟨rfl, rfl, rfl, rfl, rfl, trivial⟩ rfl
          refine HQ.pu (Pu.pickAT hg38) ⟨rfl, rfl, trivial⟩ rfl rfl rfl ?_
          exact HQ.mid ⟨rfl, rfl, rfl, rfl, rfl, rfl, rfl, rfl, trivial⟩ ⟨rfl, rfl, rfl, rfl, rfl, trivial⟩ rfl
        · refine HQ.off rfl rfl hg38 rfl ?_
          refine HQ.off rfl rfl hg38 rfl ?_
          refine HQ.off rfl rfl hg38 rfl ?_
          refine HQ.offU rfl rfl rfl ?_
          refine HQ.offU rfl rfl rfl ?_
          refine HQ.offU rfl rfl rfl ?_
          refine HQ.offU rfl rfl rfl ?_
          refine HQ.offU rfl rfl rfl ?_
          refine HQ.off rfl rfl hg38 rfl ?_
          refine HQ.pu (Pu.pickAF (u := ((!q14) || (decide (t34.1.Epoch > i16)))) hg38) ⟨rfl, rfl, trivial⟩ rfl rfl rfl ?_
          exact HQ.mid ⟨rfl, rfl, rfl, rfl, rfl, rfl, rfl, rfl, trivial⟩ ⟨rfl, rfl, rfl, rfl, rfl, trivial⟩ rfl
      refine HQ.done ?_
      refine HQ.keep [(45, _), (1, _), (2, _), (3, _), (4, _), (5, _), (6, _), (9, _)] ⟨rfl, rfl, rfl, rfl, rfl, rfl, rfl, rfl, trivial⟩ ?_
      rcases brk H with ⟨hc, H⟩ | ⟨hc, H⟩
      · refine HQ.condT rfl hc ?_
        clear hc
        refine HQ.rseq ?_
        refine HQ.op [9] [9] (OT.loadBA (vs := [.int .i64 t34.1.Epoch, .int .i64 t34.1.Seq, .int .i64 t34.1.Root, .int .i64 t34.1.Size]) ag68 sz68 rfl rfl) ⟨rfl, trivial⟩ ⟨rfl, trivial⟩ rfl rfl rfl rfl (fun _ => rfl) fun _ => ?_
        refine HQ.opN [3] [3] [] (OT.storeC (cs' := [.int .i64 t34.1.Epoch, .int .i64 t34.1.Seq, .int .i64 t34.1.Root, .int .i64 t34.1.Size]) sz68 rfl rfl rfl rfl rfl) ⟨rfl, rfl, trivial⟩ ⟨rfl, trivial⟩ rfl rfl rfl (fun _ => rfl) fun _ => ?_
        refine HQ.done ?_
        refine HQ.keep [(1, _), (2, _), (3, _), (4, _), (5, _), (6, _)] ⟨rfl, rfl, rfl, rfl, rfl, rfl, trivial⟩ ?_
        refine HQ.regionQ ?_
        refine HQ.pu Pu.assign ⟨rfl, trivial⟩ rfl rfl rfl ?_
        refine HQ.done ?_
        refine HQ.keep [(1, _), (2, _), (3, _), (4, _), (5, _), (6, _)] ⟨rfl, rfl, rfl, rfl, rfl, rfl, trivial⟩ ?_
        refine HQ.blkN ?_
        refine HQ.thenN ?_
        refine HQ.regionQ ?_
        refine HQ.pu Pu.move ⟨rfl, trivial⟩ rfl rfl rfl ?_
        refine HQ.pu Pu.add ⟨rfl, rfl, trivial⟩ rfl rfl rfl ?_
        refine HQ.pu Pu.assign ⟨rfl, trivial⟩ rfl rfl rfl ?_
        refine HQ.done ?_
        refine HQ.keep [(1, _), (2, _), (3, _), (4, _), (5, _), (6, _)] ⟨rfl, rfl, rfl, rfl, rfl, rfl, trivial⟩ ?_
        obtain rfl := Option.some.inj H
        exact HQ.next () ⟨rfl, rfl, rfl, rfl, rfl, rfl, trivial⟩ ⟨rfl, rfl, rfl, trivial⟩ rfl
      · refine HQ.condF rfl hc ?_
        clear hc
        refine HQ.skip ?_
        refine HQ.blkN ?_
        refine HQ.thenN ?_
        refine HQ.regionQ ?_
        refine HQ.pu Pu.move ⟨rfl, trivial⟩ rfl rfl rfl ?_
        refine HQ.pu Pu.add ⟨rfl, rfl, trivial⟩ rfl rfl rfl ?_
        refine HQ.pu Pu.assign ⟨rfl, trivial⟩ rfl rfl rfl ?_
        refine HQ.done ?_
        refine HQ.keep [(1, _), (2, _), (3, _), (4, _), (5, _), (6, _)] ⟨rfl, rfl, rfl, rfl, rfl, rfl, trivial⟩ ?_
        obtain rfl := Option.some.inj H
        exact HQ.next () ⟨rfl, rfl, rfl, rfl, rfl, rfl, trivial⟩ ⟨rfl, rfl, rfl, trivial⟩ rfl
    · refine HQ.condF rfl hc ?_
      clear hc
      refine HQ.exit ?_
      refine HQ.thenE ?_
      obtain rfl := Option.some.inj H
      exact HQ.out () ⟨rfl, rfl, rfl, rfl, rfl, rfl, trivial⟩ ⟨rfl, rfl, rfl, trivial⟩ rfl
  · rintro ⟨q41, i42, i43, i44, i45, i46⟩ rfl _
    clear h47
    replace H := H
    refine HQ.keep [(1, _), (2, _), (3, _), (4, _), (5, _), (6, _)] ⟨rfl, rfl, rfl, rfl, rfl, rfl, trivial⟩ ?_
    refine HQ.keepR [(1, _), (2, _), (3, _)] ⟨rfl, rfl, rfl, trivial⟩ rfl ?_
    refine HQ.blkE ?_
    refine HQ.thenN ?_
    refine HQ.rseq ?_
    refine HQ.op [3] [3] (OT.loadBA (vs := [.int .i64 i43, .int .i64 i44, .int .i64 i45, .int .i64 i46]) ag68 sz68 rfl rfl) ⟨rfl, trivial⟩ ⟨rfl, trivial⟩ rfl rfl rfl rfl (fun _ => rfl) fun _ => ?_
    refine HQ.pu Pu.move ⟨rfl, trivial⟩ rfl rfl rfl ?_
    refine HQ.opN [2] [2] [] (OT.storeC (cs' := [.int .i64 i43, .int .i64 i44, .int .i64 i45, .int .i64 i46]) sz68 rfl rfl rfl rfl rfl) ⟨rfl, rfl, trivial⟩ ⟨rfl, trivial⟩ rfl rfl rfl (fun _ => rfl) fun _ => ?_
    refine HQ.pu Pu.assign ⟨rfl, trivial⟩ rfl rfl rfl ?_
    refine HQ.done ?_
    refine HQ.keep [(2, _), (3, _)] ⟨rfl, rfl, trivial⟩ ?_
    refine HQ.ret ?_
    obtain rfl := Option.some.inj H
    exact HQ.fin (vs := [_, _]) Try.results46 () ⟨⟨_, _, 2, rfl, rfl, ag68, sz68, rfl⟩, rfl, trivial⟩ rfl [] trivial rfl
  · exact fun r h a w hf => hf.elim

/-! spec.l1Bytes -/
theorem spec_l1Bytes_c {w : World} {k : Nat} {p0 : TCur} {p1 : Int} {β_0 : Nat} {a_0 : Option Addr} {c_0 : Nat} {F0 : Fp} (hs0 : Sat [Box β_0 [.slice a_0 (List.length p0.b) c_0, .int .i64 p0.i, .int .i64 p0.h]] w.heap F0) (hF0 : ∀ b, F0 b → b < w.heap.size) (hb_0 : BorS kU8 a_0 c_0 p0.b w.heap (Lt w F0)) {r : (List Int) × TCur} (H : spec_l1Bytes k p0 p1 = some r) :
    Calls Try.prog 80 #[BP β_0 0, .int .i64 p1] w (Rt w F0 (fun g : Option Addr × Nat => .slice g.1 (List.length r.1) g.2) (fun g => [OwnS kU8 g.1 g.2 r.1, Box β_0 [.slice a_0 (List.length p0.b) c_0, .int .i64 r.2.i, .int .i64 r.2.h]])) := by
  rw [spec_l1Bytes] at H
  refine Calls.enter (N := 20) (us := [_, _]) (F0 := F0) (Γ0 := [(1, Box β_0 [.slice a_0 (List.length p0.b) c_0, .int .i64 p0.i, .int .i64 p0.h])]) Try.func80 rfl rfl rfl hs0 hF0 ?_
  refine HQ.rseq ?_
  refine HQ.pu Pu.assign ⟨rfl, trivial⟩ rfl rfl rfl ?_
  refine HQ.done ?_
  refine HQ.keep [(0, _), (1, _), (4, _)] ⟨rfl, rfl, rfl, trivial⟩ ?_
  refine HQ.rseq ?_
  refine HQ.op [] [2] (OT.buildF (us := []) (ys := ([] : (List Int))) (enc := (encI .u8)) (hl := fun _ => ⟨rfl, rfl⟩) [] sl22.ul sl22.szE sl22.zc rfl rfl rfl rfl rfl) trivial trivial rfl rfl rfl rfl (fun _ => rfl) fun ⟨a1, c2⟩ => ?_
  refine HQ.pu Pu.assign ⟨rfl, trivial⟩ rfl rfl rfl ?_
  refine HQ.done ?_
  refine HQ.keep [(0, _), (1, _), (4, _), (5, _)] ⟨rfl, rfl, rfl, rfl, trivial⟩ ?_
  refine HQ.seq ?_
  refine HQ.rseq ?_
  refine HQ.pu Pu.assign ⟨rfl, trivial⟩ rfl rfl rfl ?_
  refine HQ.done ?_
  refine HQ.keep [(0, _), (1, _), (4, _), (5, _), (6, _)] ⟨rfl, rfl, rfl, rfl, rfl, trivial⟩ ?_
  refine HQ.block ?_
  obtain ⟨o30, h37, H⟩ := bnd H
  refine HQ.loop h37 0 (fun (s : (List Int) × Int × Int × Int) (g : Option Addr × Nat) => match s, g with | (l10, i13, i14, i15), (a11, c12) => [(0, BP β_0 0), (1, .int .i64 p1), (4, .slice none 0 0), (5, .slice a11 (List.length l10) c12), (6, .int .i64 i13)]) (fun (s : (List Int) × Int × Int × Int) (g : Option Addr × Nat) => match s, g with | (l10, i13, i14, i15), (a11, c12) => [(1, Box β_0 [.slice a_0 (List.length p0.b) c_0, .int .i64 i14, .int .i64 i15]), (2, OwnS kU8 a11 c12 l10)]) (fun _ _ _ => False) (a1, c2) ⟨rfl, rfl, rfl, rfl, rfl, trivial⟩ ⟨rfl, rfl, trivial⟩ rfl ?_ ?_ ?_
  · clear H h37
    rintro ⟨l10, i13, i14, i15⟩ ⟨a11, c12⟩ o H
    rw [spec_l1Bytes_b0] at H
    refine HQ.keep [(0, _), (1, _), (4, _), (5, _), (6, _)] ⟨rfl, rfl, rfl, rfl, rfl, trivial⟩ ?_
    refine HQ.keepR [(1, _), (2, _)] ⟨rfl, rfl, trivial⟩ rfl ?_
    refine HQ.seq ?_
    refine HQ.rseq ?_
    refine HQ.pu Pu.move ⟨rfl, trivial⟩ rfl rfl rfl ?_
    refine HQ.pu Pu.move ⟨rfl, trivial⟩ rfl rfl rfl ?_
    refine HQ.pu Pu.lss ⟨rfl, rfl, trivial⟩ rfl rfl rfl ?_
    refine HQ.done ?_
    refine HQ.keep [(0, _), (1, _), (4, _), (5, _), (6, _), (10, _)] ⟨rfl, rfl, rfl, rfl, rfl, rfl, trivial⟩ ?_
    rcases brk H with ⟨hc, H⟩ | ⟨hc, H⟩
    · refine HQ.condT rfl hc ?_
      clear hc
      refine HQ.skipThen ?_
      refine HQ.seq ?_
      refine HQ.block ?_
      refine HQ.regionQ ?_
      refine HQ.pu Pu.move ⟨rfl, trivial⟩ rfl rfl rfl ?_
      refine HQ.pu Pu.move ⟨rfl, trivial⟩ rfl rfl rfl ?_
      obtain ⟨t23, h24, H⟩ := bnd H
      refine HQ.op [1] [1] (OT.callM (us := [_]) (PreX := [Box β_0 [.slice a_0 (List.length p0.b) c_0, .int .i64 i14, .int .i64 i15]]) (PreL := []) [.tmp 14] Try.call123 rfl rfl fun w FX FL hs1 hF1 hs2 hF2 hp => spec_l1Byte_c (p0 := (⟨p0.b, i14, i15⟩ : TCur)) hs1 hF1 (hb_0.passY hp) h24) ⟨rfl, rfl, trivial⟩ ⟨rfl, trivial⟩ rfl rfl rfl rfl (fun _ => rfl) fun _ => ?_
      refine HQ.pu (Pu.conv ul3 ul5) ⟨rfl, trivial⟩ rfl rfl rfl ?_
      refine HQ.op [] [5] (OT.buildF (us := [.int .u8 (IntKind.u8.wrap t23.1)]) (ys := ([(IntKind.u8.wrap t23.1)] : (List Int))) (enc := (encI .u8)) (hl := fun _ => ⟨rfl, rfl⟩) [.tmp 16] sl22.ul sl22.szE sl22.zc rfl rfl rfl rfl rfl) ⟨rfl, trivial⟩ trivial rfl rfl rfl rfl (fun _ => rfl) fun ⟨a25, c26⟩ => ?_
      obtain ⟨h29, H⟩ := asr H
      refine HQ.op [2, 5] [2, 5] (OT.appendG (enc := (encI .u8)) (hl := fun _ => ⟨rfl, rfl⟩) sl22 ul22 h29) ⟨rfl, rfl, trivial⟩ ⟨rfl, rfl, trivial⟩ rfl rfl rfl rfl (fun _ => rfl) fun ⟨a27, c28⟩ => ?_
      refine HQ.pu Pu.assign ⟨rfl, trivial⟩ rfl rfl rfl ?_
      refine HQ.done ?_
      refine HQ.keep [(0, _), (1, _), (4, _), (5, _), (6, _)] ⟨rfl, rfl, rfl, rfl, rfl, trivial⟩ ?_
      refine HQ.blkN ?_
      refine HQ.thenN ?_
      refine HQ.regionQ ?_
      refine HQ.pu Pu.move ⟨rfl, trivial⟩ rfl rfl rfl ?_
      refine HQ.pu Pu.add ⟨rfl, rfl, trivial⟩ rfl rfl rfl ?_
      refine HQ.pu Pu.assign ⟨rfl, trivial⟩ rfl rfl rfl ?_
      refine HQ.done ?_
      refine HQ.keep [(0, _), (1, _), (4, _), (5, _), (6, _)] ⟨rfl, rfl, rfl, rfl, rfl, trivial⟩ ?_
      obtain rfl := Option.some.inj H
      exact HQ.next (a27, c28) ⟨rfl, rfl, rfl, rfl, rfl, trivial⟩ ⟨rfl, rfl, trivial⟩ rfl
    · refine HQ.condF rfl hc ?_
      clear hc
      refine HQ.exit ?_
      refine HQ.thenE ?_
      obtain rfl := Option.some.inj H
      exact HQ.out (a11, c12) ⟨rfl, rfl, rfl, rfl, rfl, trivial⟩ ⟨rfl, rfl, trivial⟩ rfl
  · rintro ⟨l31, i34, i35, i36⟩ rfl ⟨a32, c33⟩
    clear h37
    replace H := H
    refine HQ.keep [(0, _), (1, _), (4, _), (5, _), (6, _)] ⟨rfl, rfl, rfl, rfl, rfl, trivial⟩ ?_
    refine HQ.keepR [(1, _), (2, _)] ⟨rfl, rfl, trivial⟩ rfl ?_
    refine HQ.blkE ?_
    refine HQ.thenN ?_
    refine HQ.rseq ?_
    refine HQ.pu Pu.move ⟨rfl, trivial⟩ rfl rfl rfl ?_
    refine HQ.pu Pu.assign ⟨rfl, trivial⟩ rfl rfl rfl ?_
    refine HQ.done ?_
    refine HQ.keep [(4, _)] ⟨rfl, trivial⟩ ?_
    refine HQ.ret ?_
    obtain rfl := Option.some.inj H
    exact HQ.fin (vs := [_]) Try.results80 (a32, c33) ⟨rfl, trivial⟩ rfl [2, 1] ⟨rfl, rfl, trivial⟩ rfl
  · exact fun r h a w hf => hf.elim

end Go.Proofs.Sx
