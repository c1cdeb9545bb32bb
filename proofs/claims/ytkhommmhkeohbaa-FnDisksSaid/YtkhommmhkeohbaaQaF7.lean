import Derived.Test.YtkhommmhkeohbaaQaF6
import Derived.KernelRfl
namespace Go.Proofs.Sx
open Go.RowKit
set_option linter.unusedVariables false
set_option linter.unusedSimpArgs false
set_option maxRecDepth 20000
set_option maxHeartbeats 1000000
/-! spec.Read -/
theorem spec_Read_c {w : World} {k : Nat} {p0 : TDisk} {p1 : Int} {a_0 : Option Addr} {c_0 : Nat} {a_1 : Option Addr} {c_1 : Nat} (hb_0 : BorS kTCell a_0 c_0 p0.Cells w.heap (Lt w Nil)) (hb_1 : BorS kTWet a_1 c_1 p0.Wet w.heap (Lt w Nil)) {r : (List Int) × Bool} (H : spec_Read k p0 p1 = some r) :
    Calls Try.prog 18 #[.agg #[.slice a_0 (List.length p0.Cells) c_0, .slice a_1 (List.length p0.Wet) c_1, .int .i64 p0.Fuse, .bool p0.Dead], .int .i64 p1] w (Rt w Nil (fun g : Option Addr × Nat => .tuple #[.slice g.1 (List.length r.1) g.2, .bool r.2]) (fun g => [OwnS kU8 g.1 g.2 r.1])) := by
  rw [spec_Read] at H
  refine Calls.enter0 (N := 65) (us := [_, _]) Try.func18 rfl rfl rfl ?_
  refine HQ.rseq ?_
  refine HQ.op [] [1] (OT.box (cs := [.slice a_0 (List.length p0.Cells) c_0, .slice a_1 (List.length p0.Wet) c_1, .int .i64 p0.Fuse, .bool p0.Dead]) rfl) ⟨rfl, trivial⟩ trivial rfl rfl rfl rfl (fun _ => rfl) fun b1 => ?_
  refine HQ.pu Pu.assign ⟨rfl, trivial⟩ rfl rfl rfl ?_
  refine HQ.pu Pu.assign ⟨rfl, trivial⟩ rfl rfl rfl ?_
  refine HQ.done ?_
  refine HQ.keep [(1, _), (2, _), (4, _), (5, _)] ⟨rfl, rfl, rfl, rfl, trivial⟩ ?_
  refine HQ.seq ?_
  refine HQ.rseq ?_
  refine HQ.pu (Pu.fieldB fo27_1 rfl) ⟨rfl, trivial⟩ rfl rfl rfl ?_
  refine HQ.op [1] [1] (OT.loadB sc25 rfl) ⟨rfl, trivial⟩ ⟨rfl, trivial⟩ rfl rfl rfl rfl (fun _ => rfl) fun _ => ?_
  refine HQ.pu (Pu.len ul25) ⟨rfl, trivial⟩ rfl rfl rfl ?_
  refine HQ.pu Pu.sub ⟨rfl, rfl, trivial⟩ rfl rfl rfl ?_
  refine HQ.pu Pu.assign ⟨rfl, trivial⟩ rfl rfl rfl ?_
  refine HQ.done ?_
  refine HQ.keep [(1, _), (2, _), (4, _), (5, _), (6, _)] ⟨rfl, rfl, rfl, rfl, rfl, trivial⟩ ?_
  refine HQ.block ?_
  obtain ⟨o48, h80, H⟩ := bnd H
  refine HQ.loop h80 0 (fun (s : Int) (g : Unit) => match s, g with | i17, () => [(1, .int .i64 p1), (2, BP b1 0), (4, .slice none 0 0), (5, .bool false), (6, .int .i64 i17)]) (fun (s : Int) (g : Unit) => match s, g with | i17, () => [(1, Box b1 [.slice a_0 (List.length p0.Cells) c_0, .slice a_1 (List.length p0.Wet) c_1, .int .i64 p0.Fuse, .bool p0.Dead])]) (fun r => bodyPost Try.prog Try.f18 (Rt w Nil (fun g : Option Addr × Nat => .tuple #[.slice g.1 (List.length r.1) g.2, .bool r.2]) (fun g => [OwnS kU8 g.1 g.2 r.1])) .ret) () ⟨rfl, rfl, rfl, rfl, rfl, trivial⟩ ⟨rfl, trivial⟩ rfl ?_ ?_ ?_
  · clear H h80
    rintro i17 _ o H
    rw [spec_Read_b0] at H
    refine HQ.keep [(1, _), (2, _), (4, _), (5, _), (6, _)] ⟨rfl, rfl, rfl, rfl, rfl, trivial⟩ ?_
    refine HQ.keepR [(1, _)] ⟨rfl, trivial⟩ rfl ?_
    refine HQ.seq ?_
    refine HQ.rseq ?_
    refine HQ.pu Pu.move ⟨rfl, trivial⟩ rfl rfl rfl ?_
    refine HQ.pu Pu.geq ⟨rfl, rfl, trivial⟩ rfl rfl rfl ?_
    refine HQ.done ?_
    refine HQ.keep [(1, _), (2, _), (4, _), (5, _), (6, _), (12, _)] ⟨rfl, rfl, rfl, rfl, rfl, rfl, trivial⟩ ?_
    rcases brk H with ⟨hc, H⟩ | ⟨hc, H⟩
    · refine HQ.condT rfl hc ?_
      clear hc
      refine HQ.skipThen ?_
      refine HQ.seq ?_
      refine HQ.block ?_
      refine HQ.rseq ?_
      refine HQ.pu (Pu.fieldB fo27_1 rfl) ⟨rfl, trivial⟩ rfl rfl rfl ?_
      refine HQ.op [1] [1] (OT.loadB sc25 rfl) ⟨rfl, trivial⟩ ⟨rfl, trivial⟩ rfl rfl rfl rfl (fun _ => rfl) fun _ => ?_
      refine HQ.pu Pu.move ⟨rfl, trivial⟩ rfl rfl rfl ?_
      obtain ⟨h33, H⟩ := asr H
      refine HQ.op [] [] (OT.indexB ul25 sz110 hb_1 h33) ⟨rfl, rfl, trivial⟩ trivial rfl rfl rfl rfl (fun _ => rfl) fun _ => ?_
      refine HQ.pu (Pu.fieldE fo110_0 rfl) ⟨rfl, trivial⟩ rfl rfl rfl ?_
      obtain ⟨⟨a34, c35⟩, hb36, hn37⟩ := BorS.nest hb_1 h33
      refine HQ.op [] [] (OT.loadN (v := .int .i64 ((gt p0.Wet i17).At)) sc3 hn37 hlTWet rfl) ⟨rfl, trivial⟩ trivial rfl rfl rfl rfl (fun _ => rfl) fun _ => ?_
      refine HQ.pu Pu.move ⟨rfl, trivial⟩ rfl rfl rfl ?_
      refine HQ.pu Pu.eql ⟨rfl, rfl, trivial⟩ rfl rfl rfl ?_
      refine HQ.done ?_
      refine HQ.keep [(1, _), (2, _), (4, _), (5, _), (6, _), (22, _)] ⟨rfl, rfl, rfl, rfl, rfl, rfl, trivial⟩ ?_
      rcases brk H with ⟨hc, H⟩ | ⟨hc, H⟩
      · refine HQ.condT rfl hc ?_
        clear hc
        refine HQ.rseq ?_
        refine HQ.op [] [4] (OT.buildF (us := []) (ys := ([] : (List Int))) (enc := (encI .u8)) (hl := fun _ => ⟨rfl, rfl⟩) [] sl22.ul sl22.szE sl22.zc rfl rfl rfl rfl rfl) trivial trivial rfl rfl rfl rfl (fun _ => rfl) fun ⟨a38, c39⟩ => ?_
        refine HQ.pu (Pu.fieldB fo27_1 rfl) ⟨rfl, trivial⟩ rfl rfl rfl ?_
        refine HQ.op [1] [1] (OT.loadB sc25 rfl) ⟨rfl, trivial⟩ ⟨rfl, trivial⟩ rfl rfl rfl rfl (fun _ => rfl) fun _ => ?_
        refine HQ.pu Pu.move ⟨rfl, trivial⟩ rfl rfl rfl ?_
        obtain ⟨h40, H⟩ := asr H
        refine HQ.op [] [] (OT.indexB ul25 sz110 hb_1 h40) ⟨rfl, rfl, trivial⟩ trivial rfl rfl rfl rfl (fun _ => rfl) fun _ => ?_
        refine HQ.pu (Pu.fieldE fo110_1 rfl) ⟨rfl, trivial⟩ rfl rfl rfl ?_
        obtain ⟨⟨a41, c42⟩, hb43, hn44⟩ := BorS.nest hb_1 h40
        refine HQ.op [] [] (OT.loadN (v := .slice a41 (List.length ((gt p0.Wet i17).B)) c42) sc22 hn44 hlTWet rfl) ⟨rfl, trivial⟩ trivial rfl rfl rfl rfl (fun _ => rfl) fun _ => ?_
        obtain ⟨h47, H⟩ := asr H
        refine HQ.op [4] [4] (OT.appendF (enc := (encI .u8)) (hl := fun _ => ⟨rfl, rfl⟩) sl22 ul22 hb43 h47) ⟨rfl, rfl, trivial⟩ ⟨rfl, trivial⟩ rfl rfl rfl rfl (fun _ => rfl) fun ⟨a45, c46⟩ => ?_
        refine HQ.pu Pu.assign ⟨rfl, trivial⟩ rfl rfl rfl ?_
        refine HQ.pu Pu.assign ⟨rfl, trivial⟩ rfl rfl rfl ?_
        refine HQ.done ?_
        refine HQ.keep [(1, _), (2, _), (4, _), (5, _), (6, _)] ⟨rfl, rfl, rfl, rfl, rfl, trivial⟩ ?_
        refine HQ.ret ?_
        refine HQ.blkR ?_
        refine HQ.thenR ?_
        obtain rfl := Option.some.inj H
        refine HQ.retL ?_
        exact HQ.fin (vs := [_, _]) Try.results18 (a45, c46) ⟨rfl, rfl, trivial⟩ rfl [4] ⟨rfl, trivial⟩ rfl
      · refine HQ.condF rfl hc ?_
        clear hc
        refine HQ.skip ?_
        refine HQ.blkN ?_
        refine HQ.thenN ?_
        refine HQ.regionQ ?_
        refine HQ.pu Pu.move ⟨rfl, trivial⟩ rfl rfl rfl ?_
        refine HQ.pu Pu.sub ⟨rfl, rfl, trivial⟩ rfl rfl rfl ?_
        refine HQ.pu Pu.assign ⟨rfl, trivial⟩ rfl rfl rfl ?_
        refine HQ.done ?_
        refine HQ.keep [(1, _), (2, _), (4, _), (5, _), (6, _)] ⟨rfl, rfl, rfl, rfl, rfl, trivial⟩ ?_
        obtain rfl := Option.some.inj H
        exact HQ.next () ⟨rfl, rfl, rfl, rfl, rfl, trivial⟩ ⟨rfl, trivial⟩ rfl
    · refine HQ.condF rfl hc ?_
      clear hc
      refine HQ.exit ?_
      refine HQ.thenE ?_
      obtain rfl := Option.some.inj H
      exact HQ.out () ⟨rfl, rfl, rfl, rfl, rfl, trivial⟩ ⟨rfl, trivial⟩ rfl
  · rintro i49 rfl _
    clear h80
    replace H := H
    refine HQ.keep [(1, _), (2, _), (4, _), (5, _), (6, _)] ⟨rfl, rfl, rfl, rfl, rfl, trivial⟩ ?_
    refine HQ.keepR [(1, _)] ⟨rfl, trivial⟩ rfl ?_
    refine HQ.blkE ?_
    refine HQ.thenN ?_
    refine HQ.seq ?_
    refine HQ.rseq ?_
    refine HQ.pu Pu.move ⟨rfl, trivial⟩ rfl rfl rfl ?_
    refine HQ.pu (Pu.fieldB fo27_0 rfl) ⟨rfl, trivial⟩ rfl rfl rfl ?_
    refine HQ.op [1] [1] (OT.loadB sc24 rfl) ⟨rfl, trivial⟩ ⟨rfl, trivial⟩ rfl rfl rfl rfl (fun _ => rfl) fun _ => ?_
    refine HQ.pu (Pu.len ul24) ⟨rfl, trivial⟩ rfl rfl rfl ?_
    refine HQ.pu Pu.sub ⟨rfl, rfl, trivial⟩ rfl rfl rfl ?_
    obtain ⟨t50, h51, H⟩ := bnd H
    refine HQ.op [] [] (OT.call (us := [_, _, _]) (Pre := []) [.tmp 31, .const (.int .i64 0), .tmp 35] Try.call89 rfl rfl fun w F hs hF hp => spec_l1In_c h51) ⟨rfl, rfl, rfl, rfl, trivial⟩ trivial rfl rfl rfl rfl (fun _ => rfl) fun _ => ?_
    refine HQ.pu Pu.not ⟨rfl, trivial⟩ rfl rfl rfl ?_
    refine HQ.pu Pu.move ⟨rfl, trivial⟩ rfl rfl rfl ?_
    obtain ⟨c58, h59, H⟩ := bnd H
    refine HQ.cutAt 7 [(45, .bool c58), (1, .int .i64 p1), (2, BP b1 0), (4, .slice none 0 0), (5, .bool false)] [(1, Box b1 [.slice a_0 (List.length p0.Cells) c_0, .slice a_1 (List.length p0.Wet) c_1, .int .i64 p0.Fuse, .bool p0.Dead])] ?_ ?_
    · clear H
      have H := h59
      rcases brk H with ⟨hg52, H⟩ | ⟨hg52, H⟩
      · obtain rfl := Option.some.inj H
        refine HQ.off rfl rfl hg52 rfl ?_
        refine HQ.off rfl rfl hg52 rfl ?_
        refine HQ.off rfl rfl hg52 rfl ?_
        refine HQ.off rfl rfl hg52 rfl ?_
        refine HQ.off rfl rfl hg52 rfl ?_
        refine HQ.off rfl rfl hg52 rfl ?_
        refine HQ.pu (Pu.pickC1 hg52) ⟨rfl, rfl, trivial⟩ rfl rfl rfl ?_
        exact HQ.mid ⟨rfl, rfl, rfl, rfl, rfl, trivial⟩ ⟨rfl, trivial⟩ rfl
      · refine HQ.on rfl rfl hg52 ?_
        refine HQ.pu (Pu.fieldB fo27_0 rfl) ⟨rfl, trivial⟩ rfl rfl rfl ?_
        refine HQ.on rfl rfl hg52 ?_
        refine HQ.op [1] [1] (OT.loadB sc24 rfl) ⟨rfl, trivial⟩ ⟨rfl, trivial⟩ rfl rfl rfl rfl (fun _ => rfl) fun _ => ?_
        refine HQ.on rfl rfl hg52 ?_
        refine HQ.pu Pu.move ⟨rfl, trivial⟩ rfl rfl rfl ?_
        refine HQ.on rfl rfl hg52 ?_
        obtain ⟨h53, H⟩ := asr H
        refine HQ.op [] [] (OT.indexB ul24 sz113 hb_0 h53) ⟨rfl, rfl, trivial⟩ trivial rfl rfl rfl rfl (fun _ => rfl) fun _ => ?_
        refine HQ.on rfl rfl hg52 ?_
        refine HQ.pu (Pu.fieldE fo113_0 rfl) ⟨rfl, trivial⟩ rfl rfl rfl ?_
        refine HQ.on rfl rfl hg52 ?_
        obtain ⟨⟨a54, c55⟩, hb56, hn57⟩ := BorS.nest hb_0 h53
        refine HQ.op [] [] (OT.loadN (v := .bool ((gt p0.Cells p1).Bad)) sc4 hn57 hlTCell rfl) ⟨rfl, trivial⟩ trivial rfl rfl rfl rfl (fun _ => rfl) fun _ => ?_
        obtain rfl := Option.some.inj H
        refine HQ.pu (Pu.pickC0 hg52) ⟨rfl, rfl, trivial⟩ rfl rfl rfl ?_
        exact HQ.mid ⟨rfl, rfl, rfl, rfl, rfl, trivial⟩ ⟨rfl, trivial⟩ rfl
    refine HQ.pu Pu.move ⟨rfl, trivial⟩ rfl rfl rfl ?_
    obtain ⟨c66, h67, H⟩ := bnd H
    refine HQ.cutAt 9 [(55, .bool c66), (1, .int .i64 p1), (2, BP b1 0), (4, .slice none 0 0), (5, .bool false)] [(1, Box b1 [.slice a_0 (List.length p0.Cells) c_0, .slice a_1 (List.length p0.Wet) c_1, .int .i64 p0.Fuse, .bool p0.Dead])] ?_ ?_
    · clear H
      have H := h67
      rcases brk H with ⟨hg60, H⟩ | ⟨hg60, H⟩
      · obtain rfl := Option.some.inj H
        refine HQ.off rfl rfl hg60 rfl ?_
        refine HQ.off rfl rfl hg60 rfl ?_
        refine HQ.off rfl rfl hg60 rfl ?_
        refine HQ.off rfl rfl hg60 rfl ?_
        refine HQ.off rfl rfl hg60 rfl ?_
        refine HQ.off rfl rfl hg60 rfl ?_
        refine HQ.off rfl rfl hg60 rfl ?_
        refine HQ.off rfl rfl hg60 rfl ?_
        refine HQ.pu (Pu.pickC1 hg60) ⟨rfl, rfl, trivial⟩ rfl rfl rfl ?_
        exact HQ.mid ⟨rfl, rfl, rfl, rfl, rfl, trivial⟩ ⟨rfl, trivial⟩ rfl
      · refine HQ.on rfl rfl hg60 ?_
        refine HQ.pu (Pu.fieldB fo27_0 rfl) ⟨rfl, trivial⟩ rfl rfl rfl ?_
        refine HQ.on rfl rfl hg60 ?_
        refine HQ.op [1] [1] (OT.loadB sc24 rfl) ⟨rfl, trivial⟩ ⟨rfl, trivial⟩ rfl rfl rfl rfl (fun _ => rfl) fun _ => ?_
        refine HQ.on rfl rfl hg60 ?_
        refine HQ.pu Pu.move ⟨rfl, trivial⟩ rfl rfl rfl ?_
        refine HQ.on rfl rfl hg60 ?_
        obtain ⟨h61, H⟩ := asr H
        refine HQ.op [] [] (OT.indexB ul24 sz113 hb_0 h61) ⟨rfl, rfl, trivial⟩ trivial rfl rfl rfl rfl (fun _ => rfl) fun _ => ?_
        refine HQ.on rfl rfl hg60 ?_
        refine HQ.pu (Pu.fieldE fo113_1 rfl) ⟨rfl, trivial⟩ rfl rfl rfl ?_
        refine HQ.on rfl rfl hg60 ?_
        obtain ⟨⟨a62, c63⟩, hb64, hn65⟩ := BorS.nest hb_0 h61
        refine HQ.op [] [] (OT.loadN (v := .slice a62 (List.length ((gt p0.Cells p1).B)) c63) sc22 hn65 hlTCell rfl) ⟨rfl, trivial⟩ trivial rfl rfl rfl rfl (fun _ => rfl) fun _ => ?_
        refine HQ.on rfl rfl hg60 ?_
        refine HQ.pu (Pu.len ul22) ⟨rfl, trivial⟩ rfl rfl rfl ?_
        refine HQ.on rfl rfl hg60 ?_
        refine HQ.pu Pu.eql ⟨rfl, rfl, trivial⟩ rfl rfl rfl ?_
        obtain rfl := Option.some.inj H
        refine HQ.pu (Pu.pickC0 hg60) ⟨rfl, rfl, trivial⟩ rfl rfl rfl ?_
        exact HQ.mid ⟨rfl, rfl, rfl, rfl, rfl, trivial⟩ ⟨rfl, trivial⟩ rfl
    refine HQ.done ?_
    refine HQ.keep [(55, _), (1, _), (2, _), (4, _), (5, _)] ⟨rfl, rfl, rfl, rfl, rfl, trivial⟩ ?_
    rcases brk H with ⟨hc, H⟩ | ⟨hc, H⟩
    · refine HQ.condT rfl hc ?_
      clear hc
      refine HQ.rseq ?_
      refine HQ.op [] [5] (OT.buildF (us := []) (ys := ([] : (List Int))) (enc := (encI .u8)) (hl := fun _ => ⟨rfl, rfl⟩) [] sl22.ul sl22.szE sl22.zc rfl rfl rfl rfl rfl) trivial trivial rfl rfl rfl rfl (fun _ => rfl) fun ⟨a68, c69⟩ => ?_
      refine HQ.pu Pu.assign ⟨rfl, trivial⟩ rfl rfl rfl ?_
      refine HQ.pu Pu.assign ⟨rfl, trivial⟩ rfl rfl rfl ?_
      refine HQ.done ?_
      refine HQ.keep [(1, _), (2, _), (4, _), (5, _)] ⟨rfl, rfl, rfl, rfl, trivial⟩ ?_
      refine HQ.ret ?_
      refine HQ.thenR ?_
      obtain rfl := Option.some.inj H
      exact HQ.fin (vs := [_, _]) Try.results18 (a68, c69) ⟨rfl, rfl, trivial⟩ rfl [5] ⟨rfl, trivial⟩ rfl
    · refine HQ.condF rfl hc ?_
      clear hc
      refine HQ.skipThen ?_
      refine HQ.rseq ?_
      refine HQ.op [] [6] (OT.buildF (us := []) (ys := ([] : (List Int))) (enc := (encI .u8)) (hl := fun _ => ⟨rfl, rfl⟩) [] sl22.ul sl22.szE sl22.zc rfl rfl rfl rfl rfl) trivial trivial rfl rfl rfl rfl (fun _ => rfl) fun ⟨a70, c71⟩ => ?_
      refine HQ.pu (Pu.fieldB fo27_0 rfl) ⟨rfl, trivial⟩ rfl rfl rfl ?_
      refine HQ.op [1] [1] (OT.loadB sc24 rfl) ⟨rfl, trivial⟩ ⟨rfl, trivial⟩ rfl rfl rfl rfl (fun _ => rfl) fun _ => ?_
      refine HQ.pu Pu.move ⟨rfl, trivial⟩ rfl rfl rfl ?_
      obtain ⟨h72, H⟩ := asr H
      refine HQ.op [] [] (OT.indexB ul24 sz113 hb_0 h72) ⟨rfl, rfl, trivial⟩ trivial rfl rfl rfl rfl (fun _ => rfl) fun _ => ?_
      refine HQ.pu (Pu.fieldE fo113_1 rfl) ⟨rfl, trivial⟩ rfl rfl rfl ?_
      obtain ⟨⟨a73, c74⟩, hb75, hn76⟩ := BorS.nest hb_0 h72
      refine HQ.op [] [] (OT.loadN (v := .slice a73 (List.length ((gt p0.Cells p1).B)) c74) sc22 hn76 hlTCell rfl) ⟨rfl, trivial⟩ trivial rfl rfl rfl rfl (fun _ => rfl) fun _ => ?_
      obtain ⟨h79, H⟩ := asr H
      refine HQ.op [6] [6] (OT.appendF (enc := (encI .u8)) (hl := fun _ => ⟨rfl, rfl⟩) sl22 ul22 hb75 h79) ⟨rfl, rfl, trivial⟩ ⟨rfl, trivial⟩ rfl rfl rfl rfl (fun _ => rfl) fun ⟨a77, c78⟩ => ?_
      refine HQ.pu Pu.assign ⟨rfl, trivial⟩ rfl rfl rfl ?_
      refine HQ.pu Pu.assign ⟨rfl, trivial⟩ rfl rfl rfl ?_
      refine HQ.done ?_
      refine HQ.keep [(4, _), (5, _)] ⟨rfl, rfl, trivial⟩ ?_
      refine HQ.ret ?_
      obtain rfl := Option.some.inj H
      exact HQ.fin (vs := [_, _]) Try.results18 (a77, c78) ⟨rfl, rfl, trivial⟩ rfl [6] ⟨rfl, trivial⟩ rfl
  · rintro r rfl a w hr
    obtain rfl := Option.some.inj H
    exact hr

/-! laws.same -/
theorem laws_same_c {w : World} {k : Nat} {p0 : (List Int)} {p1 : (List Int)} {a_0 : Option Addr} {c_0 : Nat} {a_1 : Option Addr} {c_1 : Nat} (hb_0 : BorS kU8 a_0 c_0 p0 w.heap (Lt w Nil)) (hb_1 : BorS kU8 a_1 c_1 p1 w.heap (Lt w Nil)) {r : Bool} (H : laws_same k p0 p1 = some r) :
    Calls Try.prog 23 #[.slice a_0 (List.length p0) c_0, .slice a_1 (List.length p1) c_1] w (Rt w Nil (fun _ : Unit => .bool r) (fun _ => [])) := by
  rw [laws_same] at H
  refine Calls.enter0 (N := 26) (us := [_, _]) Try.func23 rfl rfl rfl ?_
  refine HQ.rseq ?_
  refine HQ.pu Pu.assign ⟨rfl, trivial⟩ rfl rfl rfl ?_
  refine HQ.done ?_
  refine HQ.keep [(0, _), (1, _), (4, _)] ⟨rfl, rfl, rfl, trivial⟩ ?_
  refine HQ.seq ?_
  refine HQ.rseq ?_
  refine HQ.pu Pu.move ⟨rfl, trivial⟩ rfl rfl rfl ?_
  refine HQ.pu (Pu.len ul22) ⟨rfl, trivial⟩ rfl rfl rfl ?_
  refine HQ.pu Pu.move ⟨rfl, trivial⟩ rfl rfl rfl ?_
  refine HQ.pu (Pu.len ul22) ⟨rfl, trivial⟩ rfl rfl rfl ?_
  refine HQ.pu Pu.neq ⟨rfl, rfl, trivial⟩ rfl rfl rfl ?_
  refine HQ.done ?_
  refine HQ.keep [(0, _), (1, _), (4, _), (10, _)] ⟨rfl, rfl, rfl, rfl, trivial⟩ ?_
  rcases brk H with ⟨hc, H⟩ | ⟨hc, H⟩
  · refine HQ.condT rfl hc ?_
    clear hc
    refine HQ.rseq ?_
    refine HQ.pu Pu.assign ⟨rfl, trivial⟩ rfl rfl rfl ?_
    refine HQ.done ?_
    refine HQ.keep [(0, _), (1, _), (4, _)] ⟨rfl, rfl, rfl, trivial⟩ ?_
    refine HQ.ret ?_
    refine HQ.thenR ?_
    obtain rfl := Option.some.inj H
    exact HQ.fin (vs := [_]) Try.results23 () ⟨rfl, trivial⟩ rfl [] trivial rfl
  · refine HQ.condF rfl hc ?_
    clear hc
    refine HQ.skipThen ?_
    refine HQ.seq ?_
    refine HQ.rseq ?_
    refine HQ.pu Pu.assign ⟨rfl, trivial⟩ rfl rfl rfl ?_
    refine HQ.done ?_
    refine HQ.keep [(0, _), (1, _), (4, _), (5, _)] ⟨rfl, rfl, rfl, rfl, trivial⟩ ?_
    refine HQ.block ?_
    obtain ⟨o11, h13, H⟩ := bnd H
    refine HQ.loop h13 0 (fun (s : Int) (g : Unit) => match s, g with | i4, () => [(0, .slice a_0 (List.length p0) c_0), (1, .slice a_1 (List.length p1) c_1), (4, .bool false), (5, .int .i64 i4)]) (fun (s : Int) (g : Unit) => match s, g with | i4, () => []) (fun r => bodyPost Try.prog Try.f23 (Rt w Nil (fun _ : Unit => .bool r) (fun _ => [])) .ret) () ⟨rfl, rfl, rfl, rfl, trivial⟩ trivial rfl ?_ ?_ ?_
    · clear H h13
      rintro i4 _ o H
      rw [laws_same_b0] at H
      refine HQ.keep [(0, _), (1, _), (4, _), (5, _)] ⟨rfl, rfl, rfl, rfl, trivial⟩ ?_
      refine HQ.keepR [] trivial rfl ?_
      refine HQ.seq ?_
      refine HQ.rseq ?_
      refine HQ.pu Pu.move ⟨rfl, trivial⟩ rfl rfl rfl ?_
      refine HQ.pu Pu.move ⟨rfl, trivial⟩ rfl rfl rfl ?_
      refine HQ.pu (Pu.len ul22) ⟨rfl, trivial⟩ rfl rfl rfl ?_
      refine HQ.pu Pu.lss ⟨rfl, rfl, trivial⟩ rfl rfl rfl ?_
      refine HQ.done ?_
      refine HQ.keep [(0, _), (1, _), (4, _), (5, _), (14, _)] ⟨rfl, rfl, rfl, rfl, rfl, trivial⟩ ?_
      rcases brk H with ⟨hc, H⟩ | ⟨hc, H⟩
      · refine HQ.condT rfl hc ?_
        clear hc
        refine HQ.skipThen ?_
        refine HQ.seq ?_
        refine HQ.block ?_
        obtain ⟨h9, H⟩ := asr H
        obtain ⟨h10, H⟩ := asr H
        refine HQ.drawS mixd [(0, .slice a_0 (List.length p0) c_0), (1, .slice a_1 (List.length p1) c_1), (4, .bool false), (5, .int .i64 i4)] 8 [⟨[], [], []⟩, ⟨[], [], []⟩, ⟨[], [], [0, 1]⟩, ⟨[], [], [2]⟩, ⟨[], [], []⟩, ⟨[], [], []⟩, ⟨[], [], [4, 5]⟩, ⟨[], [], [6]⟩] [] (fun (g8 : Unit) => [.slice a_0 (List.length p0) c_0, .int .i64 i4, EP a_0 i4 1 0, .int .u8 (gt p0 i4), .slice a_1 (List.length p1) c_1, .int .i64 i4, EP a_1 i4 1 0, .int .u8 (gt p1 i4)]) (fun (g8 : Unit) => []) () [] [] [] ⟨rfl, rfl, rfl, rfl, trivial⟩ trivial rfl (by kernel_rfl) (fun _ => rfl) (by kernel_rfl) (fun _ => rfl) ⟨?_, ?_, ?_, ?_, ?_, ?_, ?_, ?_, trivial⟩ fun g8 => ?_
        · exact OpOK.of (fun g8 => [(.tmp 0, .slice a_0 (List.length p0) c_0)]) _ _ (fun g8 _ => g8) rfl rfl (fun _ => ⟨rfl, trivial⟩) (fun g8 => Pu.toOT Pu.move) (fun _ _ => ⟨rfl, rfl, trivial⟩)
        · exact OpOK.of (fun g8 => [(.tmp 5, .int .i64 i4)]) _ _ (fun g8 _ => g8) rfl rfl (fun _ => ⟨rfl, trivial⟩) (fun g8 => Pu.toOT Pu.move) (fun _ _ => ⟨rfl, rfl, trivial⟩)
        · exact OpOK.of (fun g8 => [(.tmp 17, .slice a_0 (List.length p0) c_0), (.tmp 18, .int .i64 i4)]) _ _ (fun g8 _ => g8) rfl rfl (fun _ => ⟨rfl, rfl, trivial⟩) (fun g8 => OT.indexB ul22 sz5 hb_0 h9) (fun _ _ => ⟨rfl, rfl, trivial⟩)
        · exact OpOK.of (fun g8 => [(.tmp 19, EP a_0 i4 1 0)]) _ _ (fun g8 _ => g8) rfl rfl (fun _ => ⟨rfl, trivial⟩) (fun g8 => OT.loadF sc5 hb_0 h9 rfl) (fun _ _ => ⟨rfl, rfl, trivial⟩)
        · exact OpOK.of (fun g8 => [(.tmp 1, .slice a_1 (List.length p1) c_1)]) _ _ (fun g8 _ => g8) rfl rfl (fun _ => ⟨rfl, trivial⟩) (fun g8 => Pu.toOT Pu.move) (fun _ _ => ⟨rfl, rfl, trivial⟩)
        · exact OpOK.of (fun g8 => [(.tmp 5, .int .i64 i4)]) _ _ (fun g8 _ => g8) rfl rfl (fun _ => ⟨rfl, trivial⟩) (fun g8 => Pu.toOT Pu.move) (fun _ _ => ⟨rfl, rfl, trivial⟩)
        · exact OpOK.of (fun g8 => [(.tmp 21, .slice a_1 (List.length p1) c_1), (.tmp 22, .int .i64 i4)]) _ _ (fun g8 _ => g8) rfl rfl (fun _ => ⟨rfl, rfl, trivial⟩) (fun g8 => OT.indexB ul22 sz5 hb_1 h10) (fun _ _ => ⟨rfl, rfl, trivial⟩)
        · exact OpOK.of (fun g8 => [(.tmp 23, EP a_1 i4 1 0)]) _ _ (fun g8 _ => g8) rfl rfl (fun _ => ⟨rfl, trivial⟩) (fun g8 => OT.loadF sc5 hb_1 h10 rfl) (fun _ _ => ⟨rfl, rfl, trivial⟩)
        refine HQ.keep [(0, _), (1, _), (4, _), (5, _), (20, _), (24, _)] ⟨rfl, rfl, rfl, rfl, rfl, rfl, trivial⟩ ?_
        refine HQ.keepR [] trivial rfl ?_
        refine HQ.pu Pu.neq ⟨rfl, rfl, trivial⟩ rfl rfl rfl ?_
        refine HQ.done ?_
        refine HQ.keep [(0, _), (1, _), (4, _), (5, _), (25, _)] ⟨rfl, rfl, rfl, rfl, rfl, trivial⟩ ?_
        rcases brk H with ⟨hc, H⟩ | ⟨hc, H⟩
        · refine HQ.condT rfl hc ?_
          clear hc
          refine HQ.rseq ?_
          refine HQ.pu Pu.assign ⟨rfl, trivial⟩ rfl rfl rfl ?_
          refine HQ.done ?_
          refine HQ.keep [(0, _), (1, _), (4, _), (5, _)] ⟨rfl, rfl, rfl, rfl, trivial⟩ ?_
          refine HQ.ret ?_
          refine HQ.blkR ?_
          refine HQ.thenR ?_
          obtain rfl := Option.some.inj H
          refine HQ.retL ?_
          exact HQ.fin (vs := [_]) Try.results23 () ⟨rfl, trivial⟩ rfl [] trivial rfl
        · refine HQ.condF rfl hc ?_
          clear hc
          refine HQ.skip ?_
          refine HQ.blkN ?_
          refine HQ.thenN ?_
          refine HQ.regionQ ?_
          refine HQ.pu Pu.move ⟨rfl, trivial⟩ rfl rfl rfl ?_
          refine HQ.pu Pu.add ⟨rfl, rfl, trivial⟩ rfl rfl rfl ?_
          refine HQ.pu Pu.assign ⟨rfl, trivial⟩ rfl rfl rfl ?_
          refine HQ.done ?_
          refine HQ.keep [(0, _), (1, _), (4, _), (5, _)] ⟨rfl, rfl, rfl, rfl, trivial⟩ ?_
          obtain rfl := Option.some.inj H
          exact HQ.next () ⟨rfl, rfl, rfl, rfl, trivial⟩ trivial rfl
      · refine HQ.condF rfl hc ?_
        clear hc
        refine HQ.exit ?_
        refine HQ.thenE ?_
        obtain rfl := Option.some.inj H
        exact HQ.out () ⟨rfl, rfl, rfl, rfl, trivial⟩ trivial rfl
    · rintro i12 rfl _
      clear h13
      replace H := H
      refine HQ.keep [(0, _), (1, _), (4, _), (5, _)] ⟨rfl, rfl, rfl, rfl, trivial⟩ ?_
      refine HQ.keepR [] trivial rfl ?_
      refine HQ.blkE ?_
      refine HQ.thenN ?_
      refine HQ.rseq ?_
      refine HQ.pu Pu.assign ⟨rfl, trivial⟩ rfl rfl rfl ?_
      refine HQ.done ?_
      refine HQ.keep [(4, _)] ⟨rfl, trivial⟩ ?_
      refine HQ.ret ?_
      obtain rfl := Option.some.inj H
      exact HQ.fin (vs := [_]) Try.results23 () ⟨rfl, trivial⟩ rfl [] trivial rfl
    · rintro r rfl a w hr
      obtain rfl := Option.some.inj H
      exact hr

end Go.Proofs.Sx
