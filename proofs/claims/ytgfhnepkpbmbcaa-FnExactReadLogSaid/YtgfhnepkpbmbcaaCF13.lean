import Derived.Test.YtgfhnepkpbmbcaaCF12
import Derived.KernelRfl
namespace Go.Proofs.Sx
open Go.RowKit
set_option linter.unusedVariables false
set_option linter.unusedSimpArgs false
set_option maxRecDepth 20000
set_option maxHeartbeats 1000000
/-! laws.heldEntryS -/
theorem laws_heldEntryS_c {w : World} {k : Nat} {p0 : (List TEntry)} {p1 : Int} {a_0 : Option Addr} {c_0 : Nat} (hb_0 : BorS kTEntry a_0 c_0 p0 w.heap (Lt w Nil)) {r : Int} (H : laws_heldEntryS k p0 p1 = some r) :
    Calls Try.prog 169 #[.slice a_0 (List.length p0) c_0, .int .i64 p1] w (Rt w Nil (fun _ : Unit => .int .i64 r) (fun _ => [])) := by
  rw [laws_heldEntryS] at H
  refine Calls.enter0 (N := 62) (us := [_, _]) Try.func169 rfl rfl rfl ?_
  refine HQ.rseq ?_
  refine HQ.pu Pu.assign ⟨rfl, trivial⟩ rfl rfl rfl ?_
  refine HQ.done ?_
  refine HQ.keep [(0, _), (1, _), (4, _)] ⟨rfl, rfl, rfl, trivial⟩ ?_
  refine HQ.seq ?_
  refine HQ.rseq ?_
  refine HQ.pu Pu.assign ⟨rfl, trivial⟩ rfl rfl rfl ?_
  refine HQ.done ?_
  refine HQ.keep [(0, _), (1, _), (4, _), (5, _)] ⟨rfl, rfl, rfl, rfl, trivial⟩ ?_
  refine HQ.block ?_
  obtain ⟨o18, h21, H⟩ := bnd H
  refine HQ.loop h21 0 (fun (s : Int × Int) (g : Unit) => match s, g with | (i6, i7), () => [(0, .slice a_0 (List.length p0) c_0), (1, .int .i64 i6), (4, .int .i64 0), (5, .int .i64 i7)]) (fun (s : Int × Int) (g : Unit) => match s, g with | (i6, i7), () => []) (fun r => bodyPost Try.prog Try.f169 (Rt w Nil (fun _ : Unit => .int .i64 r) (fun _ => [])) .ret) () ⟨rfl, rfl, rfl, rfl, trivial⟩ trivial rfl ?_ ?_ ?_
  · clear H h21
    rintro ⟨i6, i7⟩ _ o H
    rw [laws_heldEntryS_b0] at H
    refine HQ.keep [(0, _), (1, _), (4, _), (5, _)] ⟨rfl, rfl, rfl, rfl, trivial⟩ ?_
    refine HQ.keepR [] trivial rfl ?_
    refine HQ.seq ?_
    refine HQ.rseq ?_
    refine HQ.pu Pu.move ⟨rfl, trivial⟩ rfl rfl rfl ?_
    refine HQ.pu Pu.move ⟨rfl, trivial⟩ rfl rfl rfl ?_
    refine HQ.pu (Pu.len ul77) ⟨rfl, trivial⟩ rfl rfl rfl ?_
    refine HQ.pu Pu.lss ⟨rfl, rfl, trivial⟩ rfl rfl rfl ?_
    refine HQ.done ?_
    refine HQ.keep [(0, _), (1, _), (4, _), (5, _), (9, _)] ⟨rfl, rfl, rfl, rfl, rfl, trivial⟩ ?_
    rcases brk H with ⟨hc, H⟩ | ⟨hc, H⟩
    · refine HQ.condT rfl hc ?_
      clear hc
      refine HQ.skipThen ?_
      refine HQ.seq ?_
      refine HQ.block ?_
      refine HQ.seq ?_
      refine HQ.rseq ?_
      refine HQ.pu Pu.move ⟨rfl, trivial⟩ rfl rfl rfl ?_
      refine HQ.pu Pu.move ⟨rfl, trivial⟩ rfl rfl rfl ?_
      obtain ⟨h13, H⟩ := asr H
      refine HQ.op [] [] (OT.indexB ul77 sz196 hb_0 h13) ⟨rfl, rfl, trivial⟩ trivial rfl rfl rfl rfl (fun _ => rfl) fun _ => ?_
      refine HQ.pu (Pu.fieldE fo196_0 rfl) ⟨rfl, trivial⟩ rfl rfl rfl ?_
      refine HQ.op [] [] (OT.loadF sc3 hb_0 h13 rfl) ⟨rfl, trivial⟩ trivial rfl rfl rfl rfl (fun _ => rfl) fun _ => ?_
      refine HQ.pu Pu.move ⟨rfl, trivial⟩ rfl rfl rfl ?_
      refine HQ.pu Pu.neq ⟨rfl, rfl, trivial⟩ rfl rfl rfl ?_
      refine HQ.done ?_
      refine HQ.keep [(0, _), (1, _), (4, _), (5, _), (18, _)] ⟨rfl, rfl, rfl, rfl, rfl, trivial⟩ ?_
      rcases brk H with ⟨hc, H⟩ | ⟨hc, H⟩
      · refine HQ.condT rfl hc ?_
        clear hc
        refine HQ.rseq ?_
        refine HQ.pu Pu.assign ⟨rfl, trivial⟩ rfl rfl rfl ?_
        refine HQ.done ?_
        refine HQ.keep [(0, _), (1, _), (4, _), (5, _)] ⟨rfl, rfl, rfl, rfl, trivial⟩ ?_
        refine HQ.ret ?_
        refine HQ.thenR ?_
        refine HQ.blkR ?_
        refine HQ.thenR ?_
        obtain rfl := Option.some.inj H
        refine HQ.retL ?_
        exact HQ.fin (vs := [_]) Try.results169 () ⟨rfl, trivial⟩ rfl [] trivial rfl
      · refine HQ.condF rfl hc ?_
        clear hc
        refine HQ.skipThen ?_
        refine HQ.rseq ?_
        refine HQ.pu Pu.move ⟨rfl, trivial⟩ rfl rfl rfl ?_
        refine HQ.pu Pu.add ⟨rfl, rfl, trivial⟩ rfl rfl rfl ?_
        refine HQ.pu Pu.assign ⟨rfl, trivial⟩ rfl rfl rfl ?_
        refine HQ.done ?_
        refine HQ.keep [(0, _), (1, _), (4, _), (5, _)] ⟨rfl, rfl, rfl, rfl, trivial⟩ ?_
        refine HQ.seq ?_
        refine HQ.rseq ?_
        refine HQ.pu Pu.move ⟨rfl, trivial⟩ rfl rfl rfl ?_
        refine HQ.pu Pu.move ⟨rfl, trivial⟩ rfl rfl rfl ?_
        obtain ⟨h14, H⟩ := asr H
        refine HQ.op [] [] (OT.indexB ul77 sz196 hb_0 h14) ⟨rfl, rfl, trivial⟩ trivial rfl rfl rfl rfl (fun _ => rfl) fun _ => ?_
        refine HQ.pu (Pu.fieldE fo196_1 rfl) ⟨rfl, trivial⟩ rfl rfl rfl ?_
        refine HQ.pu (Pu.fieldE fo194_0 rfl) ⟨rfl, trivial⟩ rfl rfl rfl ?_
        refine HQ.op [] [] (OT.loadF sc3 hb_0 h14 rfl) ⟨rfl, trivial⟩ trivial rfl rfl rfl rfl (fun _ => rfl) fun _ => ?_
        refine HQ.pu Pu.move ⟨rfl, trivial⟩ rfl rfl rfl ?_
        refine HQ.pu Pu.neq ⟨rfl, rfl, trivial⟩ rfl rfl rfl ?_
        refine HQ.done ?_
        refine HQ.keep [(0, _), (1, _), (4, _), (5, _), (28, _)] ⟨rfl, rfl, rfl, rfl, rfl, trivial⟩ ?_
        rcases brk H with ⟨hc, H⟩ | ⟨hc, H⟩
        · refine HQ.condT rfl hc ?_
          clear hc
          refine HQ.rseq ?_
          refine HQ.pu Pu.assign ⟨rfl, trivial⟩ rfl rfl rfl ?_
          refine HQ.done ?_
          refine HQ.keep [(0, _), (1, _), (4, _), (5, _)] ⟨rfl, rfl, rfl, rfl, trivial⟩ ?_
          refine HQ.ret ?_
          refine HQ.thenR ?_
          refine HQ.blkR ?_
          refine HQ.thenR ?_
          obtain rfl := Option.some.inj H
          refine HQ.retL ?_
          exact HQ.fin (vs := [_]) Try.results169 () ⟨rfl, trivial⟩ rfl [] trivial rfl
        · refine HQ.condF rfl hc ?_
          clear hc
          refine HQ.skipThen ?_
          refine HQ.rseq ?_
          refine HQ.pu Pu.move ⟨rfl, trivial⟩ rfl rfl rfl ?_
          refine HQ.pu Pu.add ⟨rfl, rfl, trivial⟩ rfl rfl rfl ?_
          refine HQ.pu Pu.assign ⟨rfl, trivial⟩ rfl rfl rfl ?_
          refine HQ.done ?_
          refine HQ.keep [(0, _), (1, _), (4, _), (5, _)] ⟨rfl, rfl, rfl, rfl, trivial⟩ ?_
          refine HQ.seq ?_
          refine HQ.rseq ?_
          refine HQ.pu Pu.move ⟨rfl, trivial⟩ rfl rfl rfl ?_
          refine HQ.pu Pu.move ⟨rfl, trivial⟩ rfl rfl rfl ?_
          obtain ⟨h15, H⟩ := asr H
          refine HQ.op [] [] (OT.indexB ul77 sz196 hb_0 h15) ⟨rfl, rfl, trivial⟩ trivial rfl rfl rfl rfl (fun _ => rfl) fun _ => ?_
          refine HQ.pu (Pu.fieldE fo196_1 rfl) ⟨rfl, trivial⟩ rfl rfl rfl ?_
          refine HQ.pu (Pu.fieldE fo194_1 rfl) ⟨rfl, trivial⟩ rfl rfl rfl ?_
          refine HQ.op [] [] (OT.loadF sc3 hb_0 h15 rfl) ⟨rfl, trivial⟩ trivial rfl rfl rfl rfl (fun _ => rfl) fun _ => ?_
          refine HQ.pu Pu.move ⟨rfl, trivial⟩ rfl rfl rfl ?_
          refine HQ.pu Pu.neq ⟨rfl, rfl, trivial⟩ rfl rfl rfl ?_
          refine HQ.done ?_
          refine HQ.keep [(0, _), (1, _), (4, _), (5, _), (38, _)] ⟨rfl, rfl, rfl, rfl, rfl, trivial⟩ ?_
          rcases brk H with ⟨hc, H⟩ | ⟨hc, H⟩
          · refine HQ.condT rfl hc ?_
            clear hc
            refine HQ.rseq ?_
            refine HQ.pu Pu.assign ⟨rfl, trivial⟩ rfl rfl rfl ?_
            refine HQ.done ?_
            refine HQ.keep [(0, _), (1, _), (4, _), (5, _)] ⟨rfl, rfl, rfl, rfl, trivial⟩ ?_
            refine HQ.ret ?_
            refine HQ.thenR ?_
            refine HQ.blkR ?_
            refine HQ.thenR ?_
            obtain rfl := Option.some.inj H
            refine HQ.retL ?_
            exact HQ.fin (vs := [_]) Try.results169 () ⟨rfl, trivial⟩ rfl [] trivial rfl
          · refine HQ.condF rfl hc ?_
            clear hc
            refine HQ.skipThen ?_
            refine HQ.rseq ?_
            refine HQ.pu Pu.move ⟨rfl, trivial⟩ rfl rfl rfl ?_
            refine HQ.pu Pu.add ⟨rfl, rfl, trivial⟩ rfl rfl rfl ?_
            refine HQ.pu Pu.assign ⟨rfl, trivial⟩ rfl rfl rfl ?_
            refine HQ.done ?_
            refine HQ.keep [(0, _), (1, _), (4, _), (5, _)] ⟨rfl, rfl, rfl, rfl, trivial⟩ ?_
            refine HQ.seq ?_
            refine HQ.rseq ?_
            refine HQ.pu Pu.move ⟨rfl, trivial⟩ rfl rfl rfl ?_
            refine HQ.pu Pu.move ⟨rfl, trivial⟩ rfl rfl rfl ?_
            obtain ⟨h16, H⟩ := asr H
            refine HQ.op [] [] (OT.indexB ul77 sz196 hb_0 h16) ⟨rfl, rfl, trivial⟩ trivial rfl rfl rfl rfl (fun _ => rfl) fun _ => ?_
            refine HQ.pu (Pu.fieldE fo196_1 rfl) ⟨rfl, trivial⟩ rfl rfl rfl ?_
            refine HQ.pu (Pu.fieldE fo194_2 rfl) ⟨rfl, trivial⟩ rfl rfl rfl ?_
            refine HQ.op [] [] (OT.loadF sc3 hb_0 h16 rfl) ⟨rfl, trivial⟩ trivial rfl rfl rfl rfl (fun _ => rfl) fun _ => ?_
            refine HQ.pu Pu.move ⟨rfl, trivial⟩ rfl rfl rfl ?_
            refine HQ.pu Pu.neq ⟨rfl, rfl, trivial⟩ rfl rfl rfl ?_
            refine HQ.done ?_
            refine HQ.keep [(0, _), (1, _), (4, _), (5, _), (48, _)] ⟨rfl, rfl, rfl, rfl, rfl, trivial⟩ ?_
            rcases brk H with ⟨hc, H⟩ | ⟨hc, H⟩
            · refine HQ.condT rfl hc ?_
              clear hc
              refine HQ.rseq ?_
              refine HQ.pu Pu.assign ⟨rfl, trivial⟩ rfl rfl rfl ?_
              refine HQ.done ?_
              refine HQ.keep [(0, _), (1, _), (4, _), (5, _)] ⟨rfl, rfl, rfl, rfl, trivial⟩ ?_
              refine HQ.ret ?_
              refine HQ.thenR ?_
              refine HQ.blkR ?_
              refine HQ.thenR ?_
              obtain rfl := Option.some.inj H
              refine HQ.retL ?_
              exact HQ.fin (vs := [_]) Try.results169 () ⟨rfl, trivial⟩ rfl [] trivial rfl
            · refine HQ.condF rfl hc ?_
              clear hc
              refine HQ.skipThen ?_
              refine HQ.rseq ?_
              refine HQ.pu Pu.move ⟨rfl, trivial⟩ rfl rfl rfl ?_
              refine HQ.pu Pu.add ⟨rfl, rfl, trivial⟩ rfl rfl rfl ?_
              refine HQ.pu Pu.assign ⟨rfl, trivial⟩ rfl rfl rfl ?_
              refine HQ.done ?_
              refine HQ.keep [(0, _), (1, _), (4, _), (5, _)] ⟨rfl, rfl, rfl, rfl, trivial⟩ ?_
              refine HQ.seq ?_
              refine HQ.rseq ?_
              refine HQ.pu Pu.move ⟨rfl, trivial⟩ rfl rfl rfl ?_
              refine HQ.pu Pu.move ⟨rfl, trivial⟩ rfl rfl rfl ?_
              obtain ⟨h17, H⟩ := asr H
              refine HQ.op [] [] (OT.indexB ul77 sz196 hb_0 h17) ⟨rfl, rfl, trivial⟩ trivial rfl rfl rfl rfl (fun _ => rfl) fun _ => ?_
              refine HQ.pu (Pu.fieldE fo196_1 rfl) ⟨rfl, trivial⟩ rfl rfl rfl ?_
              refine HQ.pu (Pu.fieldE fo194_3 rfl) ⟨rfl, trivial⟩ rfl rfl rfl ?_
              refine HQ.op [] [] (OT.loadF sc3 hb_0 h17 rfl) ⟨rfl, trivial⟩ trivial rfl rfl rfl rfl (fun _ => rfl) fun _ => ?_
              refine HQ.pu Pu.move ⟨rfl, trivial⟩ rfl rfl rfl ?_
              refine HQ.pu Pu.neq ⟨rfl, rfl, trivial⟩ rfl rfl rfl ?_
              refine HQ.done ?_
              refine HQ.keep [(0, _), (1, _), (4, _), (5, _), (58, _)] ⟨rfl, rfl, rfl, rfl, rfl, trivial⟩ ?_
              rcases brk H with ⟨hc, H⟩ | ⟨hc, H⟩
              · refine HQ.condT rfl hc ?_
                clear hc
                refine HQ.rseq ?_
                refine HQ.pu Pu.assign ⟨rfl, trivial⟩ rfl rfl rfl ?_
                refine HQ.done ?_
                refine HQ.keep [(0, _), (1, _), (4, _), (5, _)] ⟨rfl, rfl, rfl, rfl, trivial⟩ ?_
                refine HQ.ret ?_
                refine HQ.thenR ?_
                refine HQ.blkR ?_
                refine HQ.thenR ?_
                obtain rfl := Option.some.inj H
                refine HQ.retL ?_
                exact HQ.fin (vs := [_]) Try.results169 () ⟨rfl, trivial⟩ rfl [] trivial rfl
              · refine HQ.condF rfl hc ?_
                clear hc
                refine HQ.skipThen ?_
                refine HQ.regionQ ?_
                refine HQ.pu Pu.move ⟨rfl, trivial⟩ rfl rfl rfl ?_
                refine HQ.pu Pu.add ⟨rfl, rfl, trivial⟩ rfl rfl rfl ?_
                refine HQ.pu Pu.assign ⟨rfl, trivial⟩ rfl rfl rfl ?_
                refine HQ.done ?_
                refine HQ.keep [(0, _), (1, _), (4, _), (5, _)] ⟨rfl, rfl, rfl, rfl, trivial⟩ ?_
                refine HQ.blkN ?_
                refine HQ.thenN ?_
                refine HQ.regionQ ?_
                refine HQ.pu Pu.move ⟨rfl, trivial⟩ rfl rfl rfl ?_
                refine HQ.pu Pu.add ⟨rfl, rfl, trivial⟩ rfl rfl rfl ?_
                refine HQ.pu Pu.assign ⟨rfl, trivial⟩ rfl rfl rfl ?_
                refine HQ.done ?_
                refine HQ.keep [(0, _), (1, _), (4, _), (5, _)] ⟨rfl, rfl, rfl, rfl, trivial⟩ ?_
                obtain rfl := Option.some.inj H
                exact HQ.next () ⟨rfl, rfl, rfl, rfl, trivial⟩ trivial rfl
    · refine HQ.condF rfl hc ?_
      clear hc
      refine HQ.exit ?_
      refine HQ.thenE ?_
      obtain rfl := Option.some.inj H
      exact HQ.out () ⟨rfl, rfl, rfl, rfl, trivial⟩ trivial rfl
  · rintro ⟨i19, i20⟩ rfl _
    clear h21
    replace H := H
    refine HQ.keep [(0, _), (1, _), (4, _), (5, _)] ⟨rfl, rfl, rfl, rfl, trivial⟩ ?_
    refine HQ.keepR [] trivial rfl ?_
    refine HQ.blkE ?_
    refine HQ.thenN ?_
    refine HQ.rseq ?_
    refine HQ.pu Pu.move ⟨rfl, trivial⟩ rfl rfl rfl ?_
    refine HQ.pu Pu.assign ⟨rfl, trivial⟩ rfl rfl rfl ?_
    refine HQ.done ?_
    refine HQ.keep [(4, _)] ⟨rfl, trivial⟩ ?_
    refine HQ.ret ?_
    obtain rfl := Option.some.inj H
    exact HQ.fin (vs := [_]) Try.results169 () ⟨rfl, trivial⟩ rfl [] trivial rfl
  · rintro r rfl a w hr
    obtain rfl := Option.some.inj H
    exact hr

/-! laws.heldChangeS -/
theorem laws_heldChangeS_c {w : World} {k : Nat} {p0 : (List TChange)} {p1 : Int} {a_0 : Option Addr} {c_0 : Nat} (hb_0 : BorS kTChange a_0 c_0 p0 w.heap (Lt w Nil)) {r : Int} (H : laws_heldChangeS k p0 p1 = some r) :
    Calls Try.prog 147 #[.slice a_0 (List.length p0) c_0, .int .i64 p1] w (Rt w Nil (fun _ : Unit => .int .i64 r) (fun _ => [])) := by
  rw [laws_heldChangeS] at H
  refine Calls.enter0 (N := 44) (us := [_, _]) Try.func147 rfl rfl rfl ?_
  refine HQ.rseq ?_
  refine HQ.pu Pu.assign ⟨rfl, trivial⟩ rfl rfl rfl ?_
  refine HQ.done ?_
  refine HQ.keep [(0, _), (1, _), (4, _)] ⟨rfl, rfl, rfl, trivial⟩ ?_
  refine HQ.seq ?_
  refine HQ.rseq ?_
  refine HQ.pu Pu.assign ⟨rfl, trivial⟩ rfl rfl rfl ?_
  refine HQ.done ?_
  refine HQ.keep [(0, _), (1, _), (4, _), (5, _)] ⟨rfl, rfl, rfl, rfl, trivial⟩ ?_
  refine HQ.block ?_
  obtain ⟨o54, h57, H⟩ := bnd H
  refine HQ.loop h57 0 (fun (s : Int × Int) (g : Unit) => match s, g with | (i18, i19), () => [(0, .slice a_0 (List.length p0) c_0), (1, .int .i64 i18), (4, .int .i64 0), (5, .int .i64 i19)]) (fun (s : Int × Int) (g : Unit) => match s, g with | (i18, i19), () => []) (fun r => bodyPost Try.prog Try.f147 (Rt w Nil (fun _ : Unit => .int .i64 r) (fun _ => [])) .ret) () ⟨rfl, rfl, rfl, rfl, trivial⟩ trivial rfl ?_ ?_ ?_
  · clear H h57
    rintro ⟨i18, i19⟩ _ o H
    rw [laws_heldChangeS_b0] at H
    refine HQ.keep [(0, _), (1, _), (4, _), (5, _)] ⟨rfl, rfl, rfl, rfl, trivial⟩ ?_
    refine HQ.keepR [] trivial rfl ?_
    refine HQ.seq ?_
    refine HQ.rseq ?_
    refine HQ.pu Pu.move ⟨rfl, trivial⟩ rfl rfl rfl ?_
    refine HQ.pu Pu.move ⟨rfl, trivial⟩ rfl rfl rfl ?_
    refine HQ.pu (Pu.len ul58) ⟨rfl, trivial⟩ rfl rfl rfl ?_
    refine HQ.pu Pu.lss ⟨rfl, rfl, trivial⟩ rfl rfl rfl ?_
    refine HQ.done ?_
    refine HQ.keep [(0, _), (1, _), (4, _), (5, _), (9, _)] ⟨rfl, rfl, rfl, rfl, rfl, trivial⟩ ?_
    rcases brk H with ⟨hc, H⟩ | ⟨hc, H⟩
    · refine HQ.condT rfl hc ?_
      clear hc
      refine HQ.skipThen ?_
      refine HQ.seq ?_
      refine HQ.block ?_
      refine HQ.seq ?_
      refine HQ.rseq ?_
      refine HQ.pu Pu.move ⟨rfl, trivial⟩ rfl rfl rfl ?_
      refine HQ.pu Pu.move ⟨rfl, trivial⟩ rfl rfl rfl ?_
      obtain ⟨h37, H⟩ := asr H
      refine HQ.op [] [] (OT.indexB ul58 sz81 hb_0 h37) ⟨rfl, rfl, trivial⟩ trivial rfl rfl rfl rfl (fun _ => rfl) fun _ => ?_
      refine HQ.pu (Pu.fieldE fo81_0 rfl) ⟨rfl, trivial⟩ rfl rfl rfl ?_
      obtain ⟨⟨a38, c39⟩, hb40, hn41⟩ := BorS.nest hb_0 h37
      refine HQ.op [] [] (OT.loadN (v := .int .i64 ((gt p0 i19).Page)) sc3 hn41 hlTChange rfl) ⟨rfl, trivial⟩ trivial rfl rfl rfl rfl (fun _ => rfl) fun _ => ?_
      refine HQ.pu Pu.move ⟨rfl, trivial⟩ rfl rfl rfl ?_
      refine HQ.pu Pu.neq ⟨rfl, rfl, trivial⟩ rfl rfl rfl ?_
      refine HQ.done ?_
      refine HQ.keep [(0, _), (1, _), (4, _), (5, _), (18, _)] ⟨rfl, rfl, rfl, rfl, rfl, trivial⟩ ?_
      rcases brk H with ⟨hc, H⟩ | ⟨hc, H⟩
      · refine HQ.condT rfl hc ?_
        clear hc
        refine HQ.rseq ?_
        refine HQ.pu Pu.assign ⟨rfl, trivial⟩ rfl rfl rfl ?_
        refine HQ.done ?_
        refine HQ.keep [(0, _), (1, _), (4, _), (5, _)] ⟨rfl, rfl, rfl, rfl, trivial⟩ ?_
        refine HQ.ret ?_
        refine HQ.thenR ?_
        refine HQ.blkR ?_
        refine HQ.thenR ?_
        obtain rfl := Option.some.inj H
        refine HQ.retL ?_
        exact HQ.fin (vs := [_]) Try.results147 () ⟨rfl, trivial⟩ rfl [] trivial rfl
      · refine HQ.condF rfl hc ?_
        clear hc
        refine HQ.skipThen ?_
        refine HQ.rseq ?_
        refine HQ.pu Pu.move ⟨rfl, trivial⟩ rfl rfl rfl ?_
        refine HQ.pu Pu.add ⟨rfl, rfl, trivial⟩ rfl rfl rfl ?_
        refine HQ.pu Pu.assign ⟨rfl, trivial⟩ rfl rfl rfl ?_
        refine HQ.done ?_
        refine HQ.keep [(0, _), (1, _), (4, _), (5, _)] ⟨rfl, rfl, rfl, rfl, trivial⟩ ?_
        refine HQ.seq ?_
        refine HQ.rseq ?_
        refine HQ.pu Pu.move ⟨rfl, trivial⟩ rfl rfl rfl ?_
        refine HQ.pu Pu.move ⟨rfl, trivial⟩ rfl rfl rfl ?_
        obtain ⟨h42, H⟩ := asr H
        refine HQ.op [] [] (OT.indexB ul58 sz81 hb_0 h42) ⟨rfl, rfl, trivial⟩ trivial rfl rfl rfl rfl (fun _ => rfl) fun _ => ?_
        refine HQ.pu (Pu.fieldE fo81_1 rfl) ⟨rfl, trivial⟩ rfl rfl rfl ?_
        refine HQ.pu (Pu.fieldE fo79_0 rfl) ⟨rfl, trivial⟩ rfl rfl rfl ?_
        obtain ⟨⟨a43, c44⟩, hb45, hn46⟩ := BorS.nest hb_0 h42
        refine HQ.op [] [] (OT.loadN (v := .bool ((gt p0 i19).N.Leaf)) sc4 hn46 hlTChange rfl) ⟨rfl, trivial⟩ trivial rfl rfl rfl rfl (fun _ => rfl) fun _ => ?_
        refine HQ.pu Pu.move ⟨rfl, trivial⟩ rfl rfl rfl ?_
        refine HQ.pu (Pu.rem (by decide)) ⟨rfl, rfl, trivial⟩ rfl rfl rfl ?_
        refine HQ.pu Pu.eql ⟨rfl, rfl, trivial⟩ rfl rfl rfl ?_
        refine HQ.pu (Pu.neqB ul4) ⟨rfl, rfl, trivial⟩ rfl rfl rfl ?_
        refine HQ.done ?_
        refine HQ.keep [(0, _), (1, _), (4, _), (5, _), (30, _)] ⟨rfl, rfl, rfl, rfl, rfl, trivial⟩ ?_
        rcases brk H with ⟨hc, H⟩ | ⟨hc, H⟩
        · refine HQ.condT rfl hc ?_
          clear hc
          refine HQ.rseq ?_
          refine HQ.pu Pu.assign ⟨rfl, trivial⟩ rfl rfl rfl ?_
          refine HQ.done ?_
          refine HQ.keep [(0, _), (1, _), (4, _), (5, _)] ⟨rfl, rfl, rfl, rfl, trivial⟩ ?_
          refine HQ.ret ?_
          refine HQ.thenR ?_
          refine HQ.blkR ?_
          refine HQ.thenR ?_
          obtain rfl := Option.some.inj H
          refine HQ.retL ?_
          exact HQ.fin (vs := [_]) Try.results147 () ⟨rfl, trivial⟩ rfl [] trivial rfl
        · refine HQ.condF rfl hc ?_
          clear hc
          refine HQ.skipThen ?_
          refine HQ.rseq ?_
          refine HQ.pu Pu.move ⟨rfl, trivial⟩ rfl rfl rfl ?_
          refine HQ.pu Pu.add ⟨rfl, rfl, trivial⟩ rfl rfl rfl ?_
          refine HQ.pu Pu.assign ⟨rfl, trivial⟩ rfl rfl rfl ?_
          refine HQ.done ?_
          refine HQ.keep [(0, _), (1, _), (4, _), (5, _)] ⟨rfl, rfl, rfl, rfl, trivial⟩ ?_
          refine HQ.rseq ?_
          refine HQ.pu Pu.move ⟨rfl, trivial⟩ rfl rfl rfl ?_
          refine HQ.pu Pu.move ⟨rfl, trivial⟩ rfl rfl rfl ?_
          obtain ⟨h47, H⟩ := asr H
          refine HQ.op [] [] (OT.indexB ul58 sz81 hb_0 h47) ⟨rfl, rfl, trivial⟩ trivial rfl rfl rfl rfl (fun _ => rfl) fun _ => ?_
          refine HQ.pu (Pu.fieldE fo81_1 rfl) ⟨rfl, trivial⟩ rfl rfl rfl ?_
          refine HQ.pu (Pu.fieldE fo79_1 rfl) ⟨rfl, trivial⟩ rfl rfl rfl ?_
          obtain ⟨⟨a48, c49⟩, hb50, hn51⟩ := BorS.nest hb_0 h47
          refine HQ.op [] [] (OT.loadN (v := .slice a48 (List.length ((gt p0 i19).N.L)) c49) sc77 hn51 hlTChange rfl) ⟨rfl, trivial⟩ trivial rfl rfl rfl rfl (fun _ => rfl) fun _ => ?_
          refine HQ.pu Pu.move ⟨rfl, trivial⟩ rfl rfl rfl ?_
          obtain ⟨t52, h53, H⟩ := bnd H
          refine HQ.op [] [] (OT.call (us := [_, _]) (Pre := []) [.tmp 38, .tmp 39] Try.call169 rfl rfl fun w F hs hF hp => laws_heldEntryS_c (hb50.pass hp) h53) ⟨rfl, rfl, rfl, trivial⟩ trivial rfl rfl rfl rfl (fun _ => rfl) fun _ => ?_
          refine HQ.pu Pu.assign ⟨rfl, trivial⟩ rfl rfl rfl ?_
          refine HQ.done ?_
          refine HQ.keep [(0, _), (1, _), (4, _), (5, _)] ⟨rfl, rfl, rfl, rfl, trivial⟩ ?_
          refine HQ.rseq ?_
          refine HQ.pu Pu.move ⟨rfl, trivial⟩ rfl rfl rfl ?_
          refine HQ.pu Pu.lss ⟨rfl, rfl, trivial⟩ rfl rfl rfl ?_
          refine HQ.done ?_
          refine HQ.keep [(0, _), (1, _), (4, _), (5, _), (42, _)] ⟨rfl, rfl, rfl, rfl, rfl, trivial⟩ ?_
          rcases brk H with ⟨hc, H⟩ | ⟨hc, H⟩
          · refine HQ.condT rfl hc ?_
            clear hc
            refine HQ.rseq ?_
            refine HQ.pu Pu.assign ⟨rfl, trivial⟩ rfl rfl rfl ?_
            refine HQ.done ?_
            refine HQ.keep [(0, _), (1, _), (4, _), (5, _)] ⟨rfl, rfl, rfl, rfl, trivial⟩ ?_
            refine HQ.ret ?_
            refine HQ.blkR ?_
            refine HQ.thenR ?_
            obtain rfl := Option.some.inj H
            refine HQ.retL ?_
            exact HQ.fin (vs := [_]) Try.results147 () ⟨rfl, trivial⟩ rfl [] trivial rfl
          · refine HQ.condF rfl hc ?_
            clear hc
            refine HQ.skip ?_
            refine HQ.blkN ?_
            refine HQ.thenN ?_
            refine HQ.regionQ ?_
            refine HQ.pu Pu.move ⟨rfl, trivial⟩ rfl rfl rfl ?_
            refine HQ.pu Pu.add ⟨rfl, rfl, trivial⟩ rfl rfl rfl ?_
            refine HQ.pu Pu.assign ⟨rfl, trivial⟩ rfl rfl rfl ?_
            refine HQ.done ?_
            refine HQ.keep [(0, _), (1, _), (4, _), (5, _)] ⟨rfl, rfl, rfl, rfl, trivial⟩ ?_
            obtain rfl := Option.some.inj H
            exact HQ.next () ⟨rfl, rfl, rfl, rfl, trivial⟩ trivial rfl
    · refine HQ.condF rfl hc ?_
      clear hc
      refine HQ.exit ?_
      refine HQ.thenE ?_
      obtain rfl := Option.some.inj H
      exact HQ.out () ⟨rfl, rfl, rfl, rfl, trivial⟩ trivial rfl
  · rintro ⟨i55, i56⟩ rfl _
    clear h57
    replace H := H
    refine HQ.keep [(0, _), (1, _), (4, _), (5, _)] ⟨rfl, rfl, rfl, rfl, trivial⟩ ?_
    refine HQ.keepR [] trivial rfl ?_
    refine HQ.blkE ?_
    refine HQ.thenN ?_
    refine HQ.rseq ?_
    refine HQ.pu Pu.move ⟨rfl, trivial⟩ rfl rfl rfl ?_
    refine HQ.pu Pu.assign ⟨rfl, trivial⟩ rfl rfl rfl ?_
    refine HQ.done ?_
    refine HQ.keep [(4, _)] ⟨rfl, trivial⟩ ?_
    refine HQ.ret ?_
    obtain rfl := Option.some.inj H
    exact HQ.fin (vs := [_]) Try.results147 () ⟨rfl, trivial⟩ rfl [] trivial rfl
  · rintro r rfl a w hr
    obtain rfl := Option.some.inj H
    exact hr

/-! laws.heldTxS -/
theorem laws_heldTxS_c {w : World} {k : Nat} {p0 : (List TTx)} {p1 : Int} {a_0 : Option Addr} {c_0 : Nat} (hb_0 : BorS kTTx a_0 c_0 p0 w.heap (Lt w Nil)) {r : Int} (H : laws_heldTxS k p0 p1 = some r) :
    Calls Try.prog 77 #[.slice a_0 (List.length p0) c_0, .int .i64 p1] w (Rt w Nil (fun _ : Unit => .int .i64 r) (fun _ => [])) := by
  rw [laws_heldTxS] at H
  refine Calls.enter0 (N := 49) (us := [_, _]) Try.func77 rfl rfl rfl ?_
  refine HQ.rseq ?_
  refine HQ.pu Pu.assign ⟨rfl, trivial⟩ rfl rfl rfl ?_
  refine HQ.done ?_
  refine HQ.keep [(0, _), (1, _), (4, _)] ⟨rfl, rfl, rfl, trivial⟩ ?_
  refine HQ.seq ?_
  refine HQ.rseq ?_
  refine HQ.pu Pu.assign ⟨rfl, trivial⟩ rfl rfl rfl ?_
  refine HQ.done ?_
  refine HQ.keep [(0, _), (1, _), (4, _), (5, _)] ⟨rfl, rfl, rfl, rfl, trivial⟩ ?_
  refine HQ.block ?_
  obtain ⟨o69, h72, H⟩ := bnd H
  refine HQ.loop h72 0 (fun (s : Int × Int) (g : Unit) => match s, g with | (i23, i24), () => [(0, .slice a_0 (List.length p0) c_0), (1, .int .i64 i23), (4, .int .i64 0), (5, .int .i64 i24)]) (fun (s : Int × Int) (g : Unit) => match s, g with | (i23, i24), () => []) (fun r => bodyPost Try.prog Try.f77 (Rt w Nil (fun _ : Unit => .int .i64 r) (fun _ => [])) .ret) () ⟨rfl, rfl, rfl, rfl, trivial⟩ trivial rfl ?_ ?_ ?_
  · clear H h72
    rintro ⟨i23, i24⟩ _ o H
    rw [laws_heldTxS_b0] at H
    refine HQ.keep [(0, _), (1, _), (4, _), (5, _)] ⟨rfl, rfl, rfl, rfl, trivial⟩ ?_
    refine HQ.keepR [] trivial rfl ?_
    refine HQ.seq ?_
    refine HQ.rseq ?_
    refine HQ.pu Pu.move ⟨rfl, trivial⟩ rfl rfl rfl ?_
    refine HQ.pu Pu.move ⟨rfl, trivial⟩ rfl rfl rfl ?_
    refine HQ.pu (Pu.len ul26) ⟨rfl, trivial⟩ rfl rfl rfl ?_
    refine HQ.pu Pu.lss ⟨rfl, rfl, trivial⟩ rfl rfl rfl ?_
    refine HQ.done ?_
    refine HQ.keep [(0, _), (1, _), (4, _), (5, _), (9, _)] ⟨rfl, rfl, rfl, rfl, rfl, trivial⟩ ?_
    rcases brk H with ⟨hc, H⟩ | ⟨hc, H⟩
    · refine HQ.condT rfl hc ?_
      clear hc
      refine HQ.skipThen ?_
      refine HQ.seq ?_
      refine HQ.block ?_
      refine HQ.seq ?_
      refine HQ.rseq ?_
      refine HQ.pu Pu.move ⟨rfl, trivial⟩ rfl rfl rfl ?_
      refine HQ.pu Pu.move ⟨rfl, trivial⟩ rfl rfl rfl ?_
      obtain ⟨h47, H⟩ := asr H
      refine HQ.op [] [] (OT.indexB ul26 sz60 hb_0 h47) ⟨rfl, rfl, trivial⟩ trivial rfl rfl rfl rfl (fun _ => rfl) fun _ => ?_
      refine HQ.pu (Pu.fieldE fo60_0 rfl) ⟨rfl, trivial⟩ rfl rfl rfl ?_
      obtain ⟨⟨a48, c49⟩, hb50, hn51⟩ := BorS.nest hb_0 h47
      refine HQ.op [] [] (OT.loadN (v := .int .i64 ((gt p0 i24).Seq)) sc3 hn51 hlTTx rfl) ⟨rfl, trivial⟩ trivial rfl rfl rfl rfl (fun _ => rfl) fun _ => ?_
      refine HQ.pu Pu.move ⟨rfl, trivial⟩ rfl rfl rfl ?_
      refine HQ.pu Pu.neq ⟨rfl, rfl, trivial⟩ rfl rfl rfl ?_
      refine HQ.done ?_
      refine HQ.keep [(0, _), (1, _), (4, _), (5, _), (18, _)] ⟨rfl, rfl, rfl, rfl, rfl, trivial⟩ ?_
      rcases brk H with ⟨hc, H⟩ | ⟨hc, H⟩
      · refine HQ.condT rfl hc ?_
        clear hc
        refine HQ.rseq ?_
        refine HQ.pu Pu.assign ⟨rfl, trivial⟩ rfl rfl rfl ?_
        refine HQ.done ?_
        refine HQ.keep [(0, _), (1, _), (4, _), (5, _)] ⟨rfl, rfl, rfl, rfl, trivial⟩ ?_
        refine HQ.ret ?_
        refine HQ.thenR ?_
        refine HQ.blkR ?_
        refine HQ.thenR ?_
        obtain rfl := Option.some.inj H
        refine HQ.retL ?_
        exact HQ.fin (vs := [_]) Try.results77 () ⟨rfl, trivial⟩ rfl [] trivial rfl
      · refine HQ.condF rfl hc ?_
        clear hc
        refine HQ.skipThen ?_
        refine HQ.rseq ?_
        refine HQ.pu Pu.move ⟨rfl, trivial⟩ rfl rfl rfl ?_
        refine HQ.pu Pu.add ⟨rfl, rfl, trivial⟩ rfl rfl rfl ?_
        refine HQ.pu Pu.assign ⟨rfl, trivial⟩ rfl rfl rfl ?_
        refine HQ.done ?_
        refine HQ.keep [(0, _), (1, _), (4, _), (5, _)] ⟨rfl, rfl, rfl, rfl, trivial⟩ ?_
        refine HQ.seq ?_
        refine HQ.rseq ?_
        refine HQ.pu Pu.move ⟨rfl, trivial⟩ rfl rfl rfl ?_
        refine HQ.pu Pu.move ⟨rfl, trivial⟩ rfl rfl rfl ?_
        obtain ⟨h52, H⟩ := asr H
        refine HQ.op [] [] (OT.indexB ul26 sz60 hb_0 h52) ⟨rfl, rfl, trivial⟩ trivial rfl rfl rfl rfl (fun _ => rfl) fun _ => ?_
        refine HQ.pu (Pu.fieldE fo60_1 rfl) ⟨rfl, trivial⟩ rfl rfl rfl ?_
        obtain ⟨⟨a53, c54⟩, hb55, hn56⟩ := BorS.nest hb_0 h52
        refine HQ.op [] [] (OT.loadN (v := .int .i64 ((gt p0 i24).Root)) sc3 hn56 hlTTx rfl) ⟨rfl, trivial⟩ trivial rfl rfl rfl rfl (fun _ => rfl) fun _ => ?_
        refine HQ.pu Pu.move ⟨rfl, trivial⟩ rfl rfl rfl ?_
        refine HQ.pu Pu.neq ⟨rfl, rfl, trivial⟩ rfl rfl rfl ?_
        refine HQ.done ?_
        refine HQ.keep [(0, _), (1, _), (4, _), (5, _), (27, _)] ⟨rfl, rfl, rfl, rfl, rfl, trivial⟩ ?_
        rcases brk H with ⟨hc, H⟩ | ⟨hc, H⟩
        · refine HQ.condT rfl hc ?_
          clear hc
          refine HQ.rseq ?_
          refine HQ.pu Pu.assign ⟨rfl, trivial⟩ rfl rfl rfl ?_
          refine HQ.done ?_
          refine HQ.keep [(0, _), (1, _), (4, _), (5, _)] ⟨rfl, rfl, rfl, rfl, trivial⟩ ?_
          refine HQ.ret ?_
          refine HQ.thenR ?_
          refine HQ.blkR ?_
          refine HQ.thenR ?_
          obtain rfl := Option.some.inj H
          refine HQ.retL ?_
          exact HQ.fin (vs := [_]) Try.results77 () ⟨rfl, trivial⟩ rfl [] trivial rfl
        · refine HQ.condF rfl hc ?_
          clear hc
          refine HQ.skipThen ?_
          refine HQ.rseq ?_
          refine HQ.pu Pu.move ⟨rfl, trivial⟩ rfl rfl rfl ?_
          refine HQ.pu Pu.add ⟨rfl, rfl, trivial⟩ rfl rfl rfl ?_
          refine HQ.pu Pu.assign ⟨rfl, trivial⟩ rfl rfl rfl ?_
          refine HQ.done ?_
          refine HQ.keep [(0, _), (1, _), (4, _), (5, _)] ⟨rfl, rfl, rfl, rfl, trivial⟩ ?_
          refine HQ.seq ?_
          refine HQ.rseq ?_
          refine HQ.pu Pu.move ⟨rfl, trivial⟩ rfl rfl rfl ?_
          refine HQ.pu Pu.move ⟨rfl, trivial⟩ rfl rfl rfl ?_
          obtain ⟨h57, H⟩ := asr H
          refine HQ.op [] [] (OT.indexB ul26 sz60 hb_0 h57) ⟨rfl, rfl, trivial⟩ trivial rfl rfl rfl rfl (fun _ => rfl) fun _ => ?_
          refine HQ.pu (Pu.fieldE fo60_2 rfl) ⟨rfl, trivial⟩ rfl rfl rfl ?_
          obtain ⟨⟨a58, c59⟩, hb60, hn61⟩ := BorS.nest hb_0 h57
          refine HQ.op [] [] (OT.loadN (v := .int .i64 ((gt p0 i24).Size)) sc3 hn61 hlTTx rfl) ⟨rfl, trivial⟩ trivial rfl rfl rfl rfl (fun _ => rfl) fun _ => ?_
          refine HQ.pu Pu.move ⟨rfl, trivial⟩ rfl rfl rfl ?_
          refine HQ.pu Pu.neq ⟨rfl, rfl, trivial⟩ rfl rfl rfl ?_
          refine HQ.done ?_
          refine HQ.keep [(0, _), (1, _), (4, _), (5, _), (36, _)] ⟨rfl, rfl, rfl, rfl, rfl, trivial⟩ ?_
          rcases brk H with ⟨hc, H⟩ | ⟨hc, H⟩
          · refine HQ.condT rfl hc ?_
            clear hc
            refine HQ.rseq ?_
            refine HQ.pu Pu.assign ⟨rfl, trivial⟩ rfl rfl rfl ?_
            refine HQ.done ?_
            refine HQ.keep [(0, _), (1, _), (4, _), (5, _)] ⟨rfl, rfl, rfl, rfl, trivial⟩ ?_
            refine HQ.ret ?_
            refine HQ.thenR ?_
            refine HQ.blkR ?_
            refine HQ.thenR ?_
            obtain rfl := Option.some.inj H
            refine HQ.retL ?_
            exact HQ.fin (vs := [_]) Try.results77 () ⟨rfl, trivial⟩ rfl [] trivial rfl
          · refine HQ.condF rfl hc ?_
            clear hc
            refine HQ.skipThen ?_
            refine HQ.rseq ?_
            refine HQ.pu Pu.move ⟨rfl, trivial⟩ rfl rfl rfl ?_
            refine HQ.pu Pu.add ⟨rfl, rfl, trivial⟩ rfl rfl rfl ?_
            refine HQ.pu Pu.assign ⟨rfl, trivial⟩ rfl rfl rfl ?_
            refine HQ.done ?_
            refine HQ.keep [(0, _), (1, _), (4, _), (5, _)] ⟨rfl, rfl, rfl, rfl, trivial⟩ ?_
            refine HQ.rseq ?_
            refine HQ.pu Pu.move ⟨rfl, trivial⟩ rfl rfl rfl ?_
            refine HQ.pu Pu.move ⟨rfl, trivial⟩ rfl rfl rfl ?_
            obtain ⟨h62, H⟩ := asr H
            refine HQ.op [] [] (OT.indexB ul26 sz60 hb_0 h62) ⟨rfl, rfl, trivial⟩ trivial rfl rfl rfl rfl (fun _ => rfl) fun _ => ?_
            refine HQ.pu (Pu.fieldE fo60_3 rfl) ⟨rfl, trivial⟩ rfl rfl rfl ?_
            obtain ⟨⟨a63, c64⟩, hb65, hn66⟩ := BorS.nest hb_0 h62
            refine HQ.op [] [] (OT.loadN (v := .slice a63 (List.length ((gt p0 i24).Puts)) c64) sc58 hn66 hlTTx rfl) ⟨rfl, trivial⟩ trivial rfl rfl rfl rfl (fun _ => rfl) fun _ => ?_
            refine HQ.pu Pu.move ⟨rfl, trivial⟩ rfl rfl rfl ?_
            obtain ⟨t67, h68, H⟩ := bnd H
            refine HQ.op [] [] (OT.call (us := [_, _]) (Pre := []) [.tmp 43, .tmp 44] Try.call147 rfl rfl fun w F hs hF hp => laws_heldChangeS_c (hb65.pass hp) h68) ⟨rfl, rfl, rfl, trivial⟩ trivial rfl rfl rfl rfl (fun _ => rfl) fun _ => ?_
            refine HQ.pu Pu.assign ⟨rfl, trivial⟩ rfl rfl rfl ?_
            refine HQ.done ?_
            refine HQ.keep [(0, _), (1, _), (4, _), (5, _)] ⟨rfl, rfl, rfl, rfl, trivial⟩ ?_
            refine HQ.rseq ?_
            refine HQ.pu Pu.move ⟨rfl, trivial⟩ rfl rfl rfl ?_
            refine HQ.pu Pu.lss ⟨rfl, rfl, trivial⟩ rfl rfl rfl ?_
            refine HQ.done ?_
            refine HQ.keep [(0, _), (1, _), (4, _), (5, _), (47, _)] ⟨rfl, rfl, rfl, rfl, rfl, trivial⟩ ?_
            rcases brk H with ⟨hc, H⟩ | ⟨hc, H⟩
            · refine HQ.condT rfl hc ?_
              clear hc
              refine HQ.rseq ?_
              refine HQ.pu Pu.assign ⟨rfl, trivial⟩ rfl rfl rfl ?_
              refine HQ.done ?_
              refine HQ.keep [(0, _), (1, _), (4, _), (5, _)] ⟨rfl, rfl, rfl, rfl, trivial⟩ ?_
              refine HQ.ret ?_
              refine HQ.blkR ?_
              refine HQ.thenR ?_
              obtain rfl := Option.some.inj H
              refine HQ.retL ?_
              exact HQ.fin (vs := [_]) Try.results77 () ⟨rfl, trivial⟩ rfl [] trivial rfl
            · refine HQ.condF rfl hc ?_
              clear hc
              refine HQ.skip ?_
              refine HQ.blkN ?_
              refine HQ.thenN ?_
              refine HQ.regionQ ?_
              refine HQ.pu Pu.move ⟨rfl, trivial⟩ rfl rfl rfl ?_
              refine HQ.pu Pu.add ⟨rfl, rfl, trivial⟩ rfl rfl rfl ?_
              refine HQ.pu Pu.assign ⟨rfl, trivial⟩ rfl rfl rfl ?_
              refine HQ.done ?_
              refine HQ.keep [(0, _), (1, _), (4, _), (5, _)] ⟨rfl, rfl, rfl, rfl, trivial⟩ ?_
              obtain rfl := Option.some.inj H
              exact HQ.next () ⟨rfl, rfl, rfl, rfl, trivial⟩ trivial rfl
    · refine HQ.condF rfl hc ?_
      clear hc
      refine HQ.exit ?_
      refine HQ.thenE ?_
      obtain rfl := Option.some.inj H
      exact HQ.out () ⟨rfl, rfl, rfl, rfl, trivial⟩ trivial rfl
  · rintro ⟨i70, i71⟩ rfl _
    clear h72
    replace H := H
    refine HQ.keep [(0, _), (1, _), (4, _), (5, _)] ⟨rfl, rfl, rfl, rfl, trivial⟩ ?_
    refine HQ.keepR [] trivial rfl ?_
    refine HQ.blkE ?_
    refine HQ.thenN ?_
    refine HQ.rseq ?_
    refine HQ.pu Pu.move ⟨rfl, trivial⟩ rfl rfl rfl ?_
    refine HQ.pu Pu.assign ⟨rfl, trivial⟩ rfl rfl rfl ?_
    refine HQ.done ?_
    refine HQ.keep [(4, _)] ⟨rfl, trivial⟩ ?_
    refine HQ.ret ?_
    obtain rfl := Option.some.inj H
    exact HQ.fin (vs := [_]) Try.results77 () ⟨rfl, trivial⟩ rfl [] trivial rfl
  · rintro r rfl a w hr
    obtain rfl := Option.some.inj H
    exact hr

end Go.Proofs.Sx
