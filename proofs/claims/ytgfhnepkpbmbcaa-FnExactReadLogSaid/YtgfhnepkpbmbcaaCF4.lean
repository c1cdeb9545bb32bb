import Derived.Test.YtgfhnepkpbmbcaaCF3
import Derived.KernelRfl
namespace Go.Proofs.Sx
open Go.RowKit
set_option linter.unusedVariables false
set_option linter.unusedSimpArgs false
set_option maxRecDepth 20000
set_option maxHeartbeats 1000000
/-! spec.l6Same -/
theorem spec_l6Same_c {w : World} {k : Nat} {p0 : (List Int)} {p1 : (List Int)} {a_0 : Option Addr} {c_0 : Nat} {a_1 : Option Addr} {c_1 : Nat} (hb_0 : BorS kU8 a_0 c_0 p0 w.heap (Lt w Nil)) (hb_1 : BorS kU8 a_1 c_1 p1 w.heap (Lt w Nil)) {r : Bool} (H : spec_l6Same k p0 p1 = some r) :
    Calls Try.prog 118 #[.slice a_0 (List.length p0) c_0, .slice a_1 (List.length p1) c_1] w (Rt w Nil (fun _ : Unit => .bool r) (fun _ => [])) := by
  rw [spec_l6Same] at H
  refine Calls.enter0 (N := 26) (us := [_, _]) Try.func118 rfl rfl rfl ?_
  refine HQ.rseq ?_
  refine HQ.pu Pu.assign ⟨rfl, trivial⟩ rfl rfl rfl ?_
  refine HQ.done ?_
  refine HQ.keep [(0, _), (1, _), (4, _)] ⟨rfl, rfl, rfl, trivial⟩ ?_
  refine HQ.seq ?_
  refine HQ.rseq ?_
  refine HQ.pu Pu.move ⟨rfl, trivial⟩ rfl rfl rfl ?_
  refine HQ.pu (Pu.len ul37) ⟨rfl, trivial⟩ rfl rfl rfl ?_
  refine HQ.pu Pu.move ⟨rfl, trivial⟩ rfl rfl rfl ?_
  refine HQ.pu (Pu.len ul37) ⟨rfl, trivial⟩ rfl rfl rfl ?_
  refine HQ.pu Pu.neq ⟨rfl, rfl, trivial⟩ rfl rfl rfl ?_
  refine HQ.done ?_
  refine HQ.keep [(0, _), (1, _), (4, _), (10, _)] ⟨rfl, rfl, rfl, rfl, trivial⟩ ?_
  rcases brk H with ⟨hc, H⟩ | ⟨hc, H⟩
  · refine HQ.condT rfl hc ?_
    clear hc
    refine HQ.rseq ?_
    refine HQ.pu Pu.assign ⟨rfl, trivial⟩ rfl rfl rfl ?_
    refine HQ.done ?_
    refine HQ.keep [(0, _), (1, _), (4, _)] ⟨rfl, rfl, rfl, trivial⟩ ?_
    refine HQ.ret ?_
    refine HQ.thenR ?_
    obtain rfl := Option.some.inj H
    exact HQ.fin (vs := [_]) Try.results118 () ⟨rfl, trivial⟩ rfl [] trivial rfl
  · refine HQ.condF rfl hc ?_
    clear hc
    refine HQ.skipThen ?_
    refine HQ.seq ?_
    refine HQ.rseq ?_
    refine HQ.pu Pu.assign ⟨rfl, trivial⟩ rfl rfl rfl ?_
    refine HQ.done ?_
    refine HQ.keep [(0, _), (1, _), (4, _), (5, _)] ⟨rfl, rfl, rfl, rfl, trivial⟩ ?_
    refine HQ.block ?_
    obtain ⟨o11, h13, H⟩ := bnd H
    refine HQ.loop h13 0 (fun (s : Int) (g : Unit) => match s, g with | i4, () => [(0, .slice a_0 (List.length p0) c_0), (1, .slice a_1 (List.length p1) c_1), (4, .bool false), (5, .int .i64 i4)]) (fun (s : Int) (g : Unit) => match s, g with | i4, () => []) (fun r => bodyPost Try.prog Try.f118 (Rt w Nil (fun _ : Unit => .bool r) (fun _ => [])) .ret) () ⟨rfl, rfl, rfl, rfl, trivial⟩ trivial rfl ?_ ?_ ?_
    · clear H h13
      rintro i4 _ o H
      rw [spec_l6Same_b0] at H
      refine HQ.keep [(0, _), (1, _), (4, _), (5, _)] ⟨rfl, rfl, rfl, rfl, trivial⟩ ?_
      refine HQ.keepR [] trivial rfl ?_
      refine HQ.seq ?_
      refine HQ.rseq ?_
      refine HQ.pu Pu.move ⟨rfl, trivial⟩ rfl rfl rfl ?_
      refine HQ.pu Pu.move ⟨rfl, trivial⟩ rfl rfl rfl ?_
      refine HQ.pu (Pu.len ul37) ⟨rfl, trivial⟩ rfl rfl rfl ?_
      refine HQ.pu Pu.lss ⟨rfl, rfl, trivial⟩ rfl rfl rfl ?_
      refine HQ.done ?_
      refine HQ.keep [(0, _), (1, _), (4, _), (5, _), (14, _)] ⟨rfl, rfl, rfl, rfl, rfl, trivial⟩ ?_
      rcases brk H with ⟨hc, H⟩ | ⟨hc, H⟩
      · refine HQ.condT rfl hc ?_
        clear hc
        refine HQ.skipThen ?_
        refine HQ.seq ?_
        refine HQ.block ?_
        obtain ⟨h9, H⟩ := asr H
        obtain ⟨h10, H⟩ := asr H
        refine HQ.drawS mixd [(0, .slice a_0 (List.length p0) c_0), (1, .slice a_1 (List.length p1) c_1), (4, .bool false), (5, .int .i64 i4)] 8 [⟨[], [], []⟩, ⟨[], [], []⟩, ⟨[], [], [0, 1]⟩, ⟨[], [], [2]⟩, ⟨[], [], []⟩, ⟨[], [], []⟩, ⟨[], [], [4, 5]⟩, ⟨[], [], [6]⟩] [] (fun (g8 : Unit) => [.slice a_0 (List.length p0) c_0, .int .i64 i4, EP a_0 i4 1 0, .int .u8 (gt p0 i4), .slice a_1 (List.length p1) c_1, .int .i64 i4, EP a_1 i4 1 0, .int .u8 (gt p1 i4)]) (fun (g8 : Unit) => []) () [] [] [] ⟨rfl, rfl, rfl, rfl, trivial⟩ trivial rfl (by kernel_rfl) (fun _ => rfl) (by kernel_rfl) (fun _ => rfl) ⟨?_, ?_, ?_, ?_, ?_, ?_, ?_, ?_, trivial⟩ fun g8 => ?_
        · exact OpOK.of (fun g8 => [(.tmp 0, .slice a_0 (List.length p0) c_0)]) _ _ (fun g8 _ => g8) rfl rfl (fun _ => ⟨rfl, trivial⟩) (fun g8 => Pu.toOT Pu.move) (fun _ _ => ⟨rfl, rfl, trivial⟩)
        · exact OpOK.of (fun g8 => [(.tmp 5, .int .i64 i4)]) _ _ (fun g8 _ => g8) rfl rfl (fun _ => ⟨rfl, trivial⟩) (fun g8 => Pu.toOT Pu.move) (fun _ _ => ⟨rfl, rfl, trivial⟩)
        · exact OpOK.of (fun g8 => [(.tmp 17, .slice a_0 (List.length p0) c_0), (.tmp 18, .int .i64 i4)]) _ _ (fun g8 _ => g8) rfl rfl (fun _ => ⟨rfl, rfl, trivial⟩) (fun g8 => OT.indexB ul37 sz5 hb_0 h9) (fun _ _ => ⟨rfl, rfl, trivial⟩)
        · exact OpOK.of (fun g8 => [(.tmp 19, EP a_0 i4 1 0)]) _ _ (fun g8 _ => g8) rfl rfl (fun _ => ⟨rfl, trivial⟩) (fun g8 => OT.loadF sc5 hb_0 h9 rfl) (fun _ _ => ⟨rfl, rfl, trivial⟩)
        · exact OpOK.of (fun g8 => [(.tmp 1, .slice a_1 (List.length p1) c_1)]) _ _ (fun g8 _ => g8) rfl rfl (fun _ => ⟨rfl, trivial⟩) (fun g8 => Pu.toOT Pu.move) (fun _ _ => ⟨rfl, rfl, trivial⟩)
        · exact OpOK.of (fun g8 => [(.tmp 5, .int .i64 i4)]) _ _ (fun g8 _ => g8) rfl rfl (fun _ => ⟨rfl, trivial⟩) (fun g8 => Pu.toOT Pu.move) (fun _ _ => ⟨rfl, rfl, trivial⟩)
        · exact OpOK.of (fun g8 => [(.tmp 21, .slice a_1 (List.length p1) c_1), (.tmp 22, .int .i64 i4)]) _ _ (fun g8 _ => g8) rfl rfl (fun _ => ⟨rfl, rfl, trivial⟩) (fun g8 => OT.indexB ul37 sz5 hb_1 h10) (fun _ _ => ⟨rfl, rfl, trivial⟩)
        · exact OpOK.of (fun g8 => [(.tmp 23, EP a_1 i4 1 0)]) _ _ (fun g8 _ => g8) rfl rfl (fun _ => ⟨rfl, trivial⟩) (fun g8 => OT.loadF sc5 hb_1 h10 rfl) (fun _ _ => ⟨rfl, rfl, trivial⟩)
        refine HQ.keep [(0, _), (1, _), (4, _), (5, _), (20, _), (24, _)] ⟨rfl, rfl, rfl, rfl, rfl, rfl, trivial⟩ ?_
        refine HQ.keepR [] trivial rfl ?_
        refine HQ.pu Pu.neq ⟨rfl, rfl, trivial⟩ rfl rfl rfl ?_
        refine HQ.done ?_
        refine HQ.keep [(0, _), (1, _), (4, _), (5, _), (25, _)] ⟨rfl, rfl, rfl, rfl, rfl, trivial⟩ ?_
        rcases brk H with ⟨hc, H⟩ | ⟨hc, H⟩
        · refine HQ.condT rfl hc ?_
          clear hc
          refine HQ.rseq ?_
          refine HQ.pu Pu.assign ⟨rfl, trivial⟩ rfl rfl rfl ?_
          refine HQ.done ?_
          refine HQ.keep [(0, _), (1, _), (4, _), (5, _)] ⟨rfl, rfl, rfl, rfl, trivial⟩ ?_
          refine HQ.ret ?_
          refine HQ.blkR ?_
          refine HQ.thenR ?_
          obtain rfl := Option.some.inj H
          refine HQ.retL ?_
          exact HQ.fin (vs := [_]) Try.results118 () ⟨rfl, trivial⟩ rfl [] trivial rfl
        · refine HQ.condF rfl hc ?_
          clear hc
          refine HQ.skip ?_
          refine HQ.blkN ?_
          refine HQ.thenN ?_
          refine HQ.regionQ ?_
          refine HQ.pu Pu.move ⟨rfl, trivial⟩ rfl rfl rfl ?_
          refine HQ.pu Pu.add ⟨rfl, rfl, trivial⟩ rfl rfl rfl ?_
          refine HQ.pu Pu.assign ⟨rfl, trivial⟩ rfl rfl rfl ?_
          refine HQ.done ?_
          refine HQ.keep [(0, _), (1, _), (4, _), (5, _)] ⟨rfl, rfl, rfl, rfl, trivial⟩ ?_
          obtain rfl := Option.some.inj H
          exact HQ.next () ⟨rfl, rfl, rfl, rfl, trivial⟩ trivial rfl
      · refine HQ.condF rfl hc ?_
        clear hc
        refine HQ.exit ?_
        refine HQ.thenE ?_
        obtain rfl := Option.some.inj H
        exact HQ.out () ⟨rfl, rfl, rfl, rfl, trivial⟩ trivial rfl
    · rintro i12 rfl _
      clear h13
      replace H := H
      refine HQ.keep [(0, _), (1, _), (4, _), (5, _)] ⟨rfl, rfl, rfl, rfl, trivial⟩ ?_
      refine HQ.keepR [] trivial rfl ?_
      refine HQ.blkE ?_
      refine HQ.thenN ?_
      refine HQ.rseq ?_
      refine HQ.pu Pu.assign ⟨rfl, trivial⟩ rfl rfl rfl ?_
      refine HQ.done ?_
      refine HQ.keep [(4, _)] ⟨rfl, trivial⟩ ?_
      refine HQ.ret ?_
      obtain rfl := Option.some.inj H
      exact HQ.fin (vs := [_]) Try.results118 () ⟨rfl, trivial⟩ rfl [] trivial rfl
    · rintro r rfl a w hr
      obtain rfl := Option.some.inj H
      exact hr

/-! spec.GetNode -/
theorem spec_GetNode_c {w : World} {k : Nat} {p0 : (List Int)} {a_0 : Option Addr} {c_0 : Nat} (hb_0 : BorS kU8 a_0 c_0 p0 w.heap (Lt w Nil)) {r : TNode × Bool} (H : spec_GetNode k p0 = some r) :
    Calls Try.prog 117 #[.slice a_0 (List.length p0) c_0] w (Rt w Nil (fun g : Option Addr × Nat => .tuple #[.agg #[.bool r.1.Leaf, .slice g.1 (List.length r.1.L) g.2], .bool r.2]) (fun g => [OwnS kTEntry g.1 g.2 r.1.L])) := by
  rw [spec_GetNode] at H
  refine Calls.enter0 (N := 56) (us := [_]) Try.func117 rfl rfl rfl ?_
  refine HQ.rseq ?_
  refine HQ.op [] [1] (OT.alloc zc79) trivial trivial rfl rfl rfl rfl (fun _ => rfl) fun b1 => ?_
  refine HQ.pu Pu.assign ⟨rfl, trivial⟩ rfl rfl rfl ?_
  refine HQ.done ?_
  refine HQ.keep [(0, _), (2, _), (3, _)] ⟨rfl, rfl, rfl, trivial⟩ ?_
  refine HQ.seq ?_
  refine HQ.rseq ?_
  refine HQ.pu Pu.move ⟨rfl, trivial⟩ rfl rfl rfl ?_
  refine HQ.pu (Pu.len ul37) ⟨rfl, trivial⟩ rfl rfl rfl ?_
  refine HQ.pu Pu.neq ⟨rfl, rfl, trivial⟩ rfl rfl rfl ?_
  refine HQ.done ?_
  refine HQ.keep [(0, _), (2, _), (3, _), (11, _)] ⟨rfl, rfl, rfl, rfl, trivial⟩ ?_
  rcases brk H with ⟨hc, H⟩ | ⟨hc, H⟩
  · refine HQ.condT rfl hc ?_
    clear hc
    refine HQ.rseq ?_
    refine HQ.pu (Pu.build (us := []) (cs := [.bool false, .slice none 0 0]) [] st79 rfl rfl rfl) trivial rfl rfl rfl ?_
    refine HQ.opN [1] [1] [] (OT.storeC (cs' := [.bool false, .slice none 0 0]) sz79 rfl rfl rfl rfl rfl) ⟨rfl, rfl, trivial⟩ ⟨rfl, trivial⟩ rfl rfl rfl (fun _ => rfl) fun _ => ?_
    refine HQ.pu Pu.assign ⟨rfl, trivial⟩ rfl rfl rfl ?_
    refine HQ.done ?_
    refine HQ.keep [(0, _), (2, _), (3, _)] ⟨rfl, rfl, rfl, trivial⟩ ?_
    refine HQ.ret ?_
    refine HQ.thenR ?_
    obtain rfl := Option.some.inj H
    refine HQ.nil kTEntry 2 rfl ?_
    exact HQ.fin (vs := [_, _]) Try.results117 (none, 0) ⟨⟨_, _, 1, rfl, rfl, ag79, sz79, rfl⟩, rfl, trivial⟩ rfl [2] ⟨rfl, trivial⟩ rfl
  · refine HQ.condF rfl hc ?_
    clear hc
    refine HQ.skipThen ?_
    refine HQ.rseq ?_
    refine HQ.pu Pu.move ⟨rfl, trivial⟩ rfl rfl rfl ?_
    obtain ⟨h2, H⟩ := asr H
    refine HQ.op [] [] (OT.indexB ul37 sz5 hb_0 h2) ⟨rfl, rfl, trivial⟩ trivial rfl rfl rfl rfl (fun _ => rfl) fun _ => ?_
    refine HQ.op [] [] (OT.loadF sc5 hb_0 h2 rfl) ⟨rfl, trivial⟩ trivial rfl rfl rfl rfl (fun _ => rfl) fun _ => ?_
    refine HQ.pu Pu.geq ⟨rfl, rfl, trivial⟩ rfl rfl rfl ?_
    refine HQ.pu (Pu.build (us := [.bool (decide ((gt p0 0) ≥ 16))]) (cs := [.bool (decide ((gt p0 0) ≥ 16)), .slice none 0 0]) [(0, .tmp 16)] st79 rfl rfl rfl) ⟨rfl, trivial⟩ rfl rfl rfl ?_
    refine HQ.op [] [3] (OT.alloc zc79) trivial trivial rfl rfl rfl rfl (fun _ => rfl) fun b3 => ?_
    refine HQ.opN [3] [3] [] (OT.storeC (cs' := [.bool (decide ((gt p0 0) ≥ 16)), .slice none 0 0]) sz79 rfl rfl rfl rfl rfl) ⟨rfl, rfl, trivial⟩ ⟨rfl, trivial⟩ rfl rfl rfl (fun _ => rfl) fun _ => ?_
    refine HQ.done ?_
    refine HQ.keep [(0, _), (2, _), (3, _), (4, _)] ⟨rfl, rfl, rfl, rfl, trivial⟩ ?_
    refine HQ.rseq ?_
    refine HQ.pu Pu.move ⟨rfl, trivial⟩ rfl rfl rfl ?_
    obtain ⟨h4, H⟩ := asr H
    refine HQ.op [] [] (OT.indexB ul37 sz5 hb_0 h4) ⟨rfl, rfl, trivial⟩ trivial rfl rfl rfl rfl (fun _ => rfl) fun _ => ?_
    refine HQ.op [] [] (OT.loadF sc5 hb_0 h4 rfl) ⟨rfl, trivial⟩ trivial rfl rfl rfl rfl (fun _ => rfl) fun _ => ?_
    refine HQ.pu (Pu.conv ul5 ul3) ⟨rfl, trivial⟩ rfl rfl rfl ?_
    refine HQ.pu (Pu.rem (by decide)) ⟨rfl, rfl, trivial⟩ rfl rfl rfl ?_
    refine HQ.pu Pu.assign ⟨rfl, trivial⟩ rfl rfl rfl ?_
    refine HQ.done ?_
    refine HQ.keep [(0, _), (2, _), (3, _), (4, _), (5, _)] ⟨rfl, rfl, rfl, rfl, rfl, trivial⟩ ?_
    refine HQ.seq ?_
    refine HQ.rseq ?_
    refine HQ.pu Pu.assign ⟨rfl, trivial⟩ rfl rfl rfl ?_
    refine HQ.done ?_
    refine HQ.keep [(0, _), (2, _), (3, _), (4, _), (5, _), (6, _)] ⟨rfl, rfl, rfl, rfl, rfl, rfl, trivial⟩ ?_
    refine HQ.block ?_
    refine HQ.nil kTEntry 7 rfl ?_
    obtain ⟨o36, h47, H⟩ := bnd H
    refine HQ.loop h47 0 (fun (s : Int × (List TEntry)) (g : Option Addr × Nat) => match s, g with | (i14, l15), (a16, c17) => [(0, .slice a_0 (List.length p0) c_0), (2, BP b1 0), (3, .bool false), (4, BP b3 0), (5, .int .i64 (Int.tmod (IntKind.i64.wrap (gt p0 0)) 16)), (6, .int .i64 i14)]) (fun (s : Int × (List TEntry)) (g : Option Addr × Nat) => match s, g with | (i14, l15), (a16, c17) => [(1, Box b1 [.bool false, .slice none 0 0]), (3, Box b3 [.bool (decide ((gt p0 0) ≥ 16)), .slice a16 (List.length l15) c17]), (7, OwnS kTEntry a16 c17 l15)]) (fun r => bodyPost Try.prog Try.f117 (Rt w Nil (fun g : Option Addr × Nat => .tuple #[.agg #[.bool r.1.Leaf, .slice g.1 (List.length r.1.L) g.2], .bool r.2]) (fun g => [OwnS kTEntry g.1 g.2 r.1.L])) .ret) (none, 0) ⟨rfl, rfl, rfl, rfl, rfl, rfl, trivial⟩ ⟨rfl, rfl, rfl, trivial⟩ rfl ?_ ?_ ?_
    · clear H h47
      rintro ⟨i14, l15⟩ ⟨a16, c17⟩ o H
      rw [spec_GetNode_b0] at H
      refine HQ.keep [(0, _), (2, _), (3, _), (4, _), (5, _), (6, _)] ⟨rfl, rfl, rfl, rfl, rfl, rfl, trivial⟩ ?_
      refine HQ.keepR [(1, _), (3, _), (7, _)] ⟨rfl, rfl, rfl, trivial⟩ rfl ?_
      refine HQ.seq ?_
      refine HQ.rseq ?_
      refine HQ.pu Pu.move ⟨rfl, trivial⟩ rfl rfl rfl ?_
      refine HQ.pu Pu.move ⟨rfl, trivial⟩ rfl rfl rfl ?_
      refine HQ.pu Pu.lss ⟨rfl, rfl, trivial⟩ rfl rfl rfl ?_
      refine HQ.pu Pu.move ⟨rfl, trivial⟩ rfl rfl rfl ?_
      refine HQ.cutAt 3 [(29, .bool ((decide (i14 < (Int.tmod (IntKind.i64.wrap (gt p0 0)) 16))) && (decide ((Int.tmod (IntKind.i64.wrap (gt p0 0)) 16) ≤ 4)))), (0, .slice a_0 (List.length p0) c_0), (2, BP b1 0), (3, .bool false), (4, BP b3 0), (5, .int .i64 (Int.tmod (IntKind.i64.wrap (gt p0 0)) 16)), (6, .int .i64 i14)] [(1, Box b1 [.bool false, .slice none 0 0]), (3, Box b3 [.bool (decide ((gt p0 0) ≥ 16)), .slice a16 (List.length l15) c17]), (7, OwnS kTEntry a16 c17 l15)] ?_ ?_
      · rcases Bool.eq_false_or_eq_true (decide (i14 < (Int.tmod (IntKind.i64.wrap (gt p0 0)) 16))) with hg27 | hg27
        · refine HQ.on rfl rfl hg27 ?_
          refine HQ.pu Pu.move ⟨rfl, trivial⟩ rfl rfl rfl ?_
          refine HQ.on rfl rfl hg27 ?_
          refine HQ.pu Pu.leq ⟨rfl, rfl, trivial⟩ rfl rfl rfl ?_
          refine HQ.pu (Pu.pickAT hg27) ⟨rfl, rfl, trivial⟩ rfl rfl rfl ?_
          exact HQ.mid ⟨rfl, rfl, rfl, rfl, rfl, rfl, rfl, trivial⟩ ⟨rfl, rfl, rfl, trivial⟩ rfl
        · refine HQ.off rfl rfl hg27 rfl ?_
          refine HQ.off rfl rfl hg27 rfl ?_
          refine HQ.pu (Pu.pickAF (u := (decide ((Int.tmod (IntKind.i64.wrap (gt p0 0)) 16) ≤ 4))) hg27) ⟨rfl, rfl, trivial⟩ rfl rfl rfl ?_
          exact HQ.mid ⟨rfl, rfl, rfl, rfl, rfl, rfl, rfl, trivial⟩ ⟨rfl, rfl, rfl, trivial⟩ rfl
      refine HQ.done ?_
      refine HQ.keep [(29, _), (0, _), (2, _), (3, _), (4, _), (5, _), (6, _)] ⟨rfl, rfl, rfl, rfl, rfl, rfl, rfl, trivial⟩ ?_
      rcases brk H with ⟨hc, H⟩ | ⟨hc, H⟩
      · refine HQ.condT rfl hc ?_
        clear hc
        refine HQ.skipThen ?_
        refine HQ.seq ?_
        refine HQ.block ?_
        refine HQ.rseq ?_
        refine HQ.pu Pu.move ⟨rfl, trivial⟩ rfl rfl rfl ?_
        refine HQ.pu Pu.move ⟨rfl, trivial⟩ rfl rfl rfl ?_
        refine HQ.pu Pu.mul ⟨rfl, rfl, trivial⟩ rfl rfl rfl ?_
        refine HQ.pu Pu.add ⟨rfl, rfl, trivial⟩ rfl rfl rfl ?_
        obtain ⟨t28, h29, H⟩ := bnd H
        refine HQ.op [] [] (OT.call (us := [_, _]) (Pre := []) [.tmp 33, .tmp 36] Try.call165 rfl rfl fun w F hs hF hp => spec_GetEntry_c (hb_0.pass hp) h29) ⟨rfl, rfl, rfl, trivial⟩ trivial rfl rfl rfl rfl (fun _ => rfl) fun _ => ?_
        refine HQ.pu Pu.move ⟨rfl, trivial⟩ rfl rfl rfl ?_
        refine HQ.pu (Pu.extract rfl) ⟨rfl, trivial⟩ rfl rfl rfl ?_
        refine HQ.pu (Pu.extract rfl) ⟨rfl, trivial⟩ rfl rfl rfl ?_
        refine HQ.op [] [10] (OT.alloc zc196) trivial trivial rfl rfl rfl rfl (fun _ => rfl) fun b30 => ?_
        refine HQ.opN [10] [10] [] (OT.storeC (cs' := [.int .i64 t28.1.N, .int .i64 t28.1.R.X0, .int .i64 t28.1.R.Y0, .int .i64 t28.1.R.X1, .int .i64 t28.1.R.Y1]) sz196 rfl rfl rfl rfl rfl) ⟨rfl, rfl, trivial⟩ ⟨rfl, trivial⟩ rfl rfl rfl (fun _ => rfl) fun _ => ?_
        refine HQ.pu Pu.assign ⟨rfl, trivial⟩ rfl rfl rfl ?_
        refine HQ.done ?_
        refine HQ.keep [(0, _), (2, _), (3, _), (4, _), (5, _), (6, _), (7, _), (8, _)] ⟨rfl, rfl, rfl, rfl, rfl, rfl, rfl, rfl, trivial⟩ ?_
        refine HQ.seq ?_
        refine HQ.rseq ?_
        refine HQ.pu Pu.move ⟨rfl, trivial⟩ rfl rfl rfl ?_
        refine HQ.pu Pu.not ⟨rfl, trivial⟩ rfl rfl rfl ?_
        refine HQ.done ?_
        refine HQ.keep [(0, _), (2, _), (3, _), (4, _), (5, _), (6, _), (7, _), (41, _)] ⟨rfl, rfl, rfl, rfl, rfl, rfl, rfl, rfl, trivial⟩ ?_
        rcases brk H with ⟨hc, H⟩ | ⟨hc, H⟩
        · refine HQ.condT rfl hc ?_
          clear hc
          refine HQ.rseq ?_
          refine HQ.pu (Pu.build (us := []) (cs := [.bool false, .slice none 0 0]) [] st79 rfl rfl rfl) trivial rfl rfl rfl ?_
          refine HQ.opN [1] [1] [] (OT.storeC (cs' := [.bool false, .slice none 0 0]) sz79 rfl rfl rfl rfl rfl) ⟨rfl, rfl, trivial⟩ ⟨rfl, trivial⟩ rfl rfl rfl (fun _ => rfl) fun _ => ?_
          refine HQ.pu Pu.assign ⟨rfl, trivial⟩ rfl rfl rfl ?_
          refine HQ.done ?_
          refine HQ.keep [(0, _), (2, _), (3, _), (4, _), (5, _), (6, _), (7, _)] ⟨rfl, rfl, rfl, rfl, rfl, rfl, rfl, trivial⟩ ?_
          refine HQ.ret ?_
          refine HQ.thenR ?_
          refine HQ.blkR ?_
          refine HQ.thenR ?_
          obtain rfl := Option.some.inj H
          refine HQ.nil kTEntry 11 rfl ?_
          refine HQ.retL ?_
          exact HQ.fin (vs := [_, _]) Try.results117 (none, 0) ⟨⟨_, _, 1, rfl, rfl, ag79, sz79, rfl⟩, rfl, trivial⟩ rfl [11] ⟨rfl, trivial⟩ rfl
        · refine HQ.condF rfl hc ?_
          clear hc
          refine HQ.skipThen ?_
          refine HQ.regionQ ?_
          refine HQ.pu (Pu.fieldB fo79_1 rfl) ⟨rfl, trivial⟩ rfl rfl rfl ?_
          refine HQ.op [3] [3] (OT.loadB sc77 rfl) ⟨rfl, trivial⟩ ⟨rfl, trivial⟩ rfl rfl rfl rfl (fun _ => rfl) fun _ => ?_
          refine HQ.op [10] [10] (OT.loadBA (vs := [.int .i64 t28.1.N, .int .i64 t28.1.R.X0, .int .i64 t28.1.R.Y0, .int .i64 t28.1.R.X1, .int .i64 t28.1.R.Y1]) ag196 sz196 rfl rfl) ⟨rfl, trivial⟩ ⟨rfl, trivial⟩ rfl rfl rfl rfl (fun _ => rfl) fun _ => ?_
          refine HQ.op [] [12] (OT.buildF (us := [.agg #[.int .i64 t28.1.N, .int .i64 t28.1.R.X0, .int .i64 t28.1.R.Y0, .int .i64 t28.1.R.X1, .int .i64 t28.1.R.Y1]]) (ys := ([t28.1] : (List TEntry))) (enc := encTEntry) (hl := fun _ => ⟨rfl, rfl⟩) [.tmp 45] sl77.ul sl77.szE sl77.zc rfl rfl rfl rfl rfl) ⟨rfl, trivial⟩ trivial rfl rfl rfl rfl (fun _ => rfl) fun ⟨a31, c32⟩ => ?_
          obtain ⟨h35, H⟩ := asr H
          refine HQ.op [7, 12] [7, 12] (OT.appendG (enc := encTEntry) (hl := fun _ => ⟨rfl, rfl⟩) sl77 ul77 h35) ⟨rfl, rfl, trivial⟩ ⟨rfl, rfl, trivial⟩ rfl rfl rfl rfl (fun _ => rfl) fun ⟨a33, c34⟩ => ?_
          refine HQ.pu (Pu.fieldB fo79_1 rfl) ⟨rfl, trivial⟩ rfl rfl rfl ?_
          refine HQ.opN [3] [3] [] (OT.storeC (cs' := [.bool (decide ((gt p0 0) ≥ 16)), .slice a33 (List.length (l15 ++ ([t28.1] : (List TEntry)))) c34]) sz77 rfl rfl rfl rfl rfl) ⟨rfl, rfl, trivial⟩ ⟨rfl, trivial⟩ rfl rfl rfl (fun _ => rfl) fun _ => ?_
          refine HQ.done ?_
          refine HQ.keep [(0, _), (2, _), (3, _), (4, _), (5, _), (6, _)] ⟨rfl, rfl, rfl, rfl, rfl, rfl, trivial⟩ ?_
          refine HQ.blkN ?_
          refine HQ.thenN ?_
          refine HQ.regionQ ?_
          refine HQ.pu Pu.move ⟨rfl, trivial⟩ rfl rfl rfl ?_
          refine HQ.pu Pu.add ⟨rfl, rfl, trivial⟩ rfl rfl rfl ?_
          refine HQ.pu Pu.assign ⟨rfl, trivial⟩ rfl rfl rfl ?_
          refine HQ.done ?_
          refine HQ.keep [(0, _), (2, _), (3, _), (4, _), (5, _), (6, _)] ⟨rfl, rfl, rfl, rfl, rfl, rfl, trivial⟩ ?_
          obtain rfl := Option.some.inj H
          exact HQ.next (a33, c34) ⟨rfl, rfl, rfl, rfl, rfl, rfl, trivial⟩ ⟨rfl, rfl, rfl, trivial⟩ rfl
      · refine HQ.condF rfl hc ?_
        clear hc
        refine HQ.exit ?_
        refine HQ.thenE ?_
        obtain rfl := Option.some.inj H
        exact HQ.out (a16, c17) ⟨rfl, rfl, rfl, rfl, rfl, rfl, trivial⟩ ⟨rfl, rfl, rfl, trivial⟩ rfl
    · rintro ⟨i37, l38⟩ rfl ⟨a39, c40⟩
      clear h47
      replace H := H
      refine HQ.keep [(0, _), (2, _), (3, _), (4, _), (5, _), (6, _)] ⟨rfl, rfl, rfl, rfl, rfl, rfl, trivial⟩ ?_
      refine HQ.keepR [(1, _), (3, _), (7, _)] ⟨rfl, rfl, rfl, trivial⟩ rfl ?_
      refine HQ.blkE ?_
      refine HQ.thenN ?_
      refine HQ.seq ?_
      refine HQ.rseq ?_
      refine HQ.op [3] [3] (OT.loadBA (vs := [.bool (decide ((gt p0 0) ≥ 16)), .slice a39 (List.length l38) c40]) ag79 sz79 rfl rfl) ⟨rfl, trivial⟩ ⟨rfl, trivial⟩ rfl rfl rfl rfl (fun _ => rfl) fun _ => ?_
      obtain ⟨t41, h42, H⟩ := bnd H
      refine HQ.op [7] [13, 7] (OT.call (us := [_]) (Pre := [OwnS kTEntry a39 c40 l38]) [.tmp 49] Try.call166 rfl rfl fun w F hs hF hp => spec_PutNode_c (hs.lend hF 0 rfl) h42) ⟨rfl, rfl, trivial⟩ ⟨rfl, trivial⟩ rfl rfl rfl rfl (fun _ => rfl) fun ⟨a43, c44⟩ => ?_
      refine HQ.pu Pu.move ⟨rfl, trivial⟩ rfl rfl rfl ?_
      obtain ⟨t45, h46, H⟩ := bnd H
      refine HQ.op [13] [13] (OT.call (us := [_, _]) (Pre := [OwnS kU8 a43 c44 t41]) [.tmp 50, .tmp 51] Try.call118 rfl rfl fun w F hs hF hp => spec_l6Same_c (hs.lend hF 0 rfl) (hb_0.pass hp) h46) ⟨rfl, rfl, rfl, trivial⟩ ⟨rfl, trivial⟩ rfl rfl rfl rfl (fun _ => rfl) fun _ => ?_
      refine HQ.pu Pu.not ⟨rfl, trivial⟩ rfl rfl rfl ?_
      refine HQ.done ?_
      refine HQ.keep [(2, _), (3, _), (4, _), (53, _)] ⟨rfl, rfl, rfl, rfl, trivial⟩ ?_
      rcases brk H with ⟨hc, H⟩ | ⟨hc, H⟩
      · refine HQ.condT rfl hc ?_
        clear hc
        refine HQ.rseq ?_
        refine HQ.pu (Pu.build (us := []) (cs := [.bool false, .slice none 0 0]) [] st79 rfl rfl rfl) trivial rfl rfl rfl ?_
        refine HQ.opN [1] [1] [] (OT.storeC (cs' := [.bool false, .slice none 0 0]) sz79 rfl rfl rfl rfl rfl) ⟨rfl, rfl, trivial⟩ ⟨rfl, trivial⟩ rfl rfl rfl (fun _ => rfl) fun _ => ?_
        refine HQ.pu Pu.assign ⟨rfl, trivial⟩ rfl rfl rfl ?_
        refine HQ.done ?_
        refine HQ.keep [(2, _), (3, _), (4, _)] ⟨rfl, rfl, rfl, trivial⟩ ?_
        refine HQ.ret ?_
        refine HQ.thenR ?_
        obtain rfl := Option.some.inj H
        refine HQ.nil kTEntry 14 rfl ?_
        exact HQ.fin (vs := [_, _]) Try.results117 (none, 0) ⟨⟨_, _, 1, rfl, rfl, ag79, sz79, rfl⟩, rfl, trivial⟩ rfl [14] ⟨rfl, trivial⟩ rfl
      · refine HQ.condF rfl hc ?_
        clear hc
        refine HQ.skipThen ?_
        refine HQ.rseq ?_
        refine HQ.op [3] [3] (OT.loadBA (vs := [.bool (decide ((gt p0 0) ≥ 16)), .slice a39 (List.length l38) c40]) ag79 sz79 rfl rfl) ⟨rfl, trivial⟩ ⟨rfl, trivial⟩ rfl rfl rfl rfl (fun _ => rfl) fun _ => ?_
        refine HQ.opN [1] [1] [] (OT.storeC (cs' := [.bool (decide ((gt p0 0) ≥ 16)), .slice a39 (List.length l38) c40]) sz79 rfl rfl rfl rfl rfl) ⟨rfl, rfl, trivial⟩ ⟨rfl, trivial⟩ rfl rfl rfl (fun _ => rfl) fun _ => ?_
        refine HQ.pu Pu.assign ⟨rfl, trivial⟩ rfl rfl rfl ?_
        refine HQ.done ?_
        refine HQ.keep [(2, _), (3, _)] ⟨rfl, rfl, trivial⟩ ?_
        refine HQ.ret ?_
        obtain rfl := Option.some.inj H
        exact HQ.fin (vs := [_, _]) Try.results117 (a39, c40) ⟨⟨_, _, 1, rfl, rfl, ag79, sz79, rfl⟩, rfl, trivial⟩ rfl [7] ⟨rfl, trivial⟩ rfl
    · rintro r rfl a w hr
      obtain rfl := Option.some.inj H
      exact hr

/-! spec.PutCell -/
theorem spec_PutCell_c {w : World} {k : Nat} {p0 : Int} {p1 : TChange} {a_0 : Option Addr} {c_0 : Nat} (hb_0 : BorS kTEntry a_0 c_0 p1.N.L w.heap (Lt w Nil)) {r : (List Int)} (H : spec_PutCell k p0 p1 = some r) :
    Calls Try.prog 119 #[.int .i64 p0, .agg #[.int .i64 p1.Page, .bool p1.N.Leaf, .slice a_0 (List.length p1.N.L) c_0]] w (Rt w Nil (fun g : Option Addr × Nat => .slice g.1 (List.length r) g.2) (fun g => [OwnS kU8 g.1 g.2 r])) := by
  rw [spec_PutCell] at H
  refine Calls.enter0 (N := 33) (us := [_, _]) Try.func119 rfl rfl rfl ?_
  refine HQ.rseq ?_
  refine HQ.op [] [1] (OT.box (cs := [.int .i64 p1.Page, .bool p1.N.Leaf, .slice a_0 (List.length p1.N.L) c_0]) rfl) ⟨rfl, trivial⟩ trivial rfl rfl rfl rfl (fun _ => rfl) fun b1 => ?_
  refine HQ.pu Pu.assign ⟨rfl, trivial⟩ rfl rfl rfl ?_
  refine HQ.done ?_
  refine HQ.keep [(0, _), (3, _), (4, _)] ⟨rfl, rfl, rfl, trivial⟩ ?_
  refine HQ.seq ?_
  refine HQ.rseq ?_
  refine HQ.pu Pu.move ⟨rfl, trivial⟩ rfl rfl rfl ?_
  obtain ⟨t2, h3, H⟩ := bnd H
  refine HQ.op [] [] (OT.call (us := [_, _, _]) (Pre := []) [.tmp 5, .const (.int .i64 0), .const (.int .i64 65535)] Try.call85 rfl rfl fun w F hs hF hp => spec_l1In_c h3) ⟨rfl, rfl, rfl, rfl, trivial⟩ trivial rfl rfl rfl rfl (fun _ => rfl) fun _ => ?_
  refine HQ.pu Pu.not ⟨rfl, trivial⟩ rfl rfl rfl ?_
  refine HQ.pu Pu.move ⟨rfl, trivial⟩ rfl rfl rfl ?_
  obtain ⟨c7, h8, H⟩ := bnd H
  refine HQ.cutAt 5 [(13, .bool c7), (0, .int .i64 p0), (3, BP b1 0), (4, .slice none 0 0)] [(1, Box b1 [.int .i64 p1.Page, .bool p1.N.Leaf, .slice a_0 (List.length p1.N.L) c_0])] ?_ ?_
  · clear H
    have H := h8
    rcases brk H with ⟨hg4, H⟩ | ⟨hg4, H⟩
    · obtain rfl := Option.some.inj H
      refine HQ.off rfl rfl hg4 rfl ?_
      refine HQ.off rfl rfl hg4 rfl ?_
      refine HQ.off rfl rfl hg4 rfl ?_
      refine HQ.off rfl rfl hg4 rfl ?_
      refine HQ.pu (Pu.pickC1 hg4) ⟨rfl, rfl, trivial⟩ rfl rfl rfl ?_
      exact HQ.mid ⟨rfl, rfl, rfl, rfl, trivial⟩ ⟨rfl, trivial⟩ rfl
    · refine HQ.on rfl rfl hg4 ?_
      refine HQ.pu (Pu.fieldB fo81_0 rfl) ⟨rfl, trivial⟩ rfl rfl rfl ?_
      refine HQ.on rfl rfl hg4 ?_
      refine HQ.op [1] [1] (OT.loadB sc3 rfl) ⟨rfl, trivial⟩ ⟨rfl, trivial⟩ rfl rfl rfl rfl (fun _ => rfl) fun _ => ?_
      refine HQ.on rfl rfl hg4 ?_
      obtain ⟨t5, h6, H⟩ := bnd H
      refine HQ.op [] [] (OT.call (us := [_, _, _]) (Pre := []) [.tmp 10, .const (.int .i64 0), .const (.int .i64 47)] Try.call85 rfl rfl fun w F hs hF hp => spec_l1In_c h6) ⟨rfl, rfl, rfl, rfl, trivial⟩ trivial rfl rfl rfl rfl (fun _ => rfl) fun _ => ?_
      refine HQ.on rfl rfl hg4 ?_
      refine HQ.pu Pu.not ⟨rfl, trivial⟩ rfl rfl rfl ?_
      obtain rfl := Option.some.inj H
      refine HQ.pu (Pu.pickC0 hg4) ⟨rfl, rfl, trivial⟩ rfl rfl rfl ?_
      exact HQ.mid ⟨rfl, rfl, rfl, rfl, trivial⟩ ⟨rfl, trivial⟩ rfl
  refine HQ.pu Pu.move ⟨rfl, trivial⟩ rfl rfl rfl ?_
  obtain ⟨c12, h13, H⟩ := bnd H
  refine HQ.cutAt 5 [(19, .bool c12), (0, .int .i64 p0), (3, BP b1 0), (4, .slice none 0 0)] [(1, Box b1 [.int .i64 p1.Page, .bool p1.N.Leaf, .slice a_0 (List.length p1.N.L) c_0])] ?_ ?_
  · clear H
    have H := h13
    rcases brk H with ⟨hg9, H⟩ | ⟨hg9, H⟩
    · obtain rfl := Option.some.inj H
      refine HQ.off rfl rfl hg9 rfl ?_
      refine HQ.off rfl rfl hg9 rfl ?_
      refine HQ.off rfl rfl hg9 rfl ?_
      refine HQ.off rfl rfl hg9 rfl ?_
      refine HQ.pu (Pu.pickC1 hg9) ⟨rfl, rfl, trivial⟩ rfl rfl rfl ?_
      exact HQ.mid ⟨rfl, rfl, rfl, rfl, trivial⟩ ⟨rfl, trivial⟩ rfl
    · refine HQ.on rfl rfl hg9 ?_
      refine HQ.pu (Pu.fieldB fo81_1 rfl) ⟨rfl, trivial⟩ rfl rfl rfl ?_
      refine HQ.on rfl rfl hg9 ?_
      refine HQ.op [1] [1] (OT.loadBA (vs := [.bool p1.N.Leaf, .slice a_0 (List.length p1.N.L) c_0]) ag79 sz79 rfl rfl) ⟨rfl, trivial⟩ ⟨rfl, trivial⟩ rfl rfl rfl rfl (fun _ => rfl) fun _ => ?_
      refine HQ.on rfl rfl hg9 ?_
      obtain ⟨t10, h11, H⟩ := bnd H
      refine HQ.op [] [] (OT.call (us := [_]) (Pre := []) [.tmp 16] Try.call158 rfl rfl fun w F hs hF hp => spec_NodeOk_c (hb_0.pass hp) h11) ⟨rfl, rfl, trivial⟩ trivial rfl rfl rfl rfl (fun _ => rfl) fun _ => ?_
      refine HQ.on rfl rfl hg9 ?_
      refine HQ.pu Pu.not ⟨rfl, trivial⟩ rfl rfl rfl ?_
      obtain rfl := Option.some.inj H
      refine HQ.pu (Pu.pickC0 hg9) ⟨rfl, rfl, trivial⟩ rfl rfl rfl ?_
      exact HQ.mid ⟨rfl, rfl, rfl, rfl, trivial⟩ ⟨rfl, trivial⟩ rfl
  refine HQ.done ?_
  refine HQ.keep [(19, _), (0, _), (3, _), (4, _)] ⟨rfl, rfl, rfl, rfl, trivial⟩ ?_
  rcases brk H with ⟨hc, H⟩ | ⟨hc, H⟩
  · refine HQ.condT rfl hc ?_
    clear hc
    refine HQ.rseq ?_
    refine HQ.op [] [2] (OT.buildF (us := []) (ys := ([] : (List Int))) (enc := (encI .u8)) (hl := fun _ => ⟨rfl, rfl⟩) [] sl37.ul sl37.szE sl37.zc rfl rfl rfl rfl rfl) trivial trivial rfl rfl rfl rfl (fun _ => rfl) fun ⟨a14, c15⟩ => ?_
    refine HQ.pu Pu.assign ⟨rfl, trivial⟩ rfl rfl rfl ?_
    refine HQ.done ?_
    refine HQ.keep [(0, _), (3, _), (4, _)] ⟨rfl, rfl, rfl, trivial⟩ ?_
    refine HQ.ret ?_
    refine HQ.thenR ?_
    obtain rfl := Option.some.inj H
    exact HQ.fin (vs := [_]) Try.results119 (a14, c15) ⟨rfl, trivial⟩ rfl [2] ⟨rfl, trivial⟩ rfl
  · refine HQ.condF rfl hc ?_
    clear hc
    refine HQ.skipThen ?_
    obtain ⟨t19, h20, H⟩ := bnd H
    obtain ⟨h27, H⟩ := asr H
    refine HQ.drawS mixd [(0, .int .i64 p0), (3, BP b1 0), (4, .slice none 0 0)] 10 [⟨[], [0], []⟩, ⟨[], [], []⟩, ⟨[0], [1, 0], [0, 1]⟩, ⟨[], [], []⟩, ⟨[2], [2], [3]⟩, ⟨[], [], [4]⟩, ⟨[], [3], [5]⟩, ⟨[1, 3], [4, 3], [2, 6]⟩, ⟨[], [], []⟩, ⟨[2], [2], [8]⟩] [⟨some 0, none⟩, ⟨some 2, some 7⟩, ⟨none, none⟩, ⟨some 6, none⟩, ⟨some 7, none⟩] (fun (g16 : (Option Addr × Nat) × (Option Addr × Nat) × (Option Addr × Nat) × (Option Addr × Nat)) => [.slice g16.1.1 (List.length ([1] : (List Int))) g16.1.2, .int .i64 p0, .slice g16.2.1.1 (List.length t19) g16.2.1.2, BP b1 0, .int .i64 p1.Page, .int .u8 (IntKind.u8.wrap p1.Page), .slice g16.2.2.1.1 (List.length ([(IntKind.u8.wrap p1.Page)] : (List Int))) g16.2.2.1.2, .slice g16.2.2.2.1 (List.length (t19 ++ ([(IntKind.u8.wrap p1.Page)] : (List Int)))) g16.2.2.2.2, BP b1 1, .agg #[.bool p1.N.Leaf, .slice a_0 (List.length p1.N.L) c_0]]) (fun (g16 : (Option Addr × Nat) × (Option Addr × Nat) × (Option Addr × Nat) × (Option Addr × Nat)) => [OwnS kU8 g16.1.1 g16.1.2 ([1] : (List Int)), OwnS kU8 g16.2.1.1 g16.2.1.2 t19, Box b1 [.int .i64 p1.Page, .bool p1.N.Leaf, .slice a_0 (List.length p1.N.L) c_0], OwnS kU8 g16.2.2.1.1 g16.2.2.1.2 ([(IntKind.u8.wrap p1.Page)] : (List Int)), OwnS kU8 g16.2.2.2.1 g16.2.2.2.2 (t19 ++ ([(IntKind.u8.wrap p1.Page)] : (List Int)))]) ((none, 0), (none, 0), (none, 0), (none, 0)) [1] [3, 1, 5, 4] [] ⟨rfl, rfl, rfl, trivial⟩ ⟨rfl, trivial⟩ rfl (by kernel_rfl) (fun _ => rfl) (by kernel_rfl) (fun _ => rfl) ⟨?_, ?_, ?_, ?_, ?_, ?_, ?_, ?_, ?_, ?_, trivial⟩ fun g16 => ?_
    · exact OpOK.of (fun g16 => [(.const (.int .u8 1), .int .u8 1)]) _ _ (fun g16 x => (x, g16.2.1, g16.2.2.1, g16.2.2.2)) rfl rfl (fun _ => ⟨rfl, trivial⟩) (fun g16 => OT.buildF (us := [.int .u8 1]) (ys := ([1] : (List Int))) (enc := (encI .u8)) (hl := fun _ => ⟨rfl, rfl⟩) [.const (.int .u8 1)] sl37.ul sl37.szE sl37.zc rfl rfl rfl rfl rfl) (fun _ _ => ⟨rfl, rfl, ⟨rfl, rfl, rfl, rfl, rfl, trivial⟩⟩)
    · exact OpOK.of (fun g16 => [(.tmp 0, .int .i64 p0)]) _ _ (fun g16 _ => g16) rfl rfl (fun _ => ⟨rfl, trivial⟩) (fun g16 => Pu.toOT Pu.move) (fun _ _ => ⟨rfl, rfl, ⟨rfl, rfl, rfl, rfl, rfl, trivial⟩⟩)
    · exact OpOK.of (fun g16 => [(.func 103, .func (.func 103) #[] #[]), (.tmp 21, .slice g16.1.1 (List.length ([1] : (List Int))) g16.1.2), (.tmp 22, .int .i64 p0)]) _ _ (fun g16 x => (g16.1, x, g16.2.2.1, g16.2.2.2)) rfl rfl (fun _ => ⟨rfl, rfl, rfl, trivial⟩) (fun g16 => OT.call (us := [_, _]) (Pre := [OwnS kU8 g16.1.1 g16.1.2 ([1] : (List Int))]) [.tmp 21, .tmp 22] Try.call103 rfl rfl fun w F hs hF hp => spec_Put2_c (hs.lend hF 0 rfl) h20) (fun _ _ => ⟨rfl, rfl, ⟨rfl, rfl, rfl, rfl, rfl, trivial⟩⟩)
    · exact OpOK.of (fun g16 => [(.tmp 3, BP b1 0)]) _ _ (fun g16 _ => g16) rfl rfl (fun _ => ⟨rfl, trivial⟩) (fun g16 => Pu.toOT (Pu.fieldB fo81_0 rfl)) (fun _ _ => ⟨rfl, rfl, ⟨rfl, rfl, rfl, rfl, rfl, trivial⟩⟩)
    · exact OpOK.of (fun g16 => [(.tmp 24, BP b1 0)]) _ _ (fun g16 _ => g16) rfl rfl (fun _ => ⟨rfl, trivial⟩) (fun g16 => OT.loadB sc3 rfl) (fun _ _ => ⟨rfl, rfl, ⟨rfl, rfl, rfl, rfl, rfl, trivial⟩⟩)
    · exact OpOK.of (fun g16 => [(.tmp 25, .int .i64 p1.Page)]) _ _ (fun g16 _ => g16) rfl rfl (fun _ => ⟨rfl, trivial⟩) (fun g16 => Pu.toOT (Pu.conv ul3 ul5)) (fun _ _ => ⟨rfl, rfl, ⟨rfl, rfl, rfl, rfl, rfl, trivial⟩⟩)
    · exact OpOK.of (fun g16 => [(.tmp 26, .int .u8 (IntKind.u8.wrap p1.Page))]) _ _ (fun g16 x => (g16.1, g16.2.1, x, g16.2.2.2)) rfl rfl (fun _ => ⟨rfl, trivial⟩) (fun g16 => OT.buildF (us := [.int .u8 (IntKind.u8.wrap p1.Page)]) (ys := ([(IntKind.u8.wrap p1.Page)] : (List Int))) (enc := (encI .u8)) (hl := fun _ => ⟨rfl, rfl⟩) [.tmp 26] sl37.ul sl37.szE sl37.zc rfl rfl rfl rfl rfl) (fun _ _ => ⟨rfl, rfl, ⟨rfl, rfl, rfl, rfl, rfl, trivial⟩⟩)
    · exact OpOK.of (fun g16 => [(.tmp 23, .slice g16.2.1.1 (List.length t19) g16.2.1.2), (.tmp 27, .slice g16.2.2.1.1 (List.length ([(IntKind.u8.wrap p1.Page)] : (List Int))) g16.2.2.1.2)]) _ _ (fun g16 x => (g16.1, g16.2.1, g16.2.2.1, x)) rfl rfl (fun _ => ⟨rfl, rfl, trivial⟩) (fun g16 => OT.appendG (enc := (encI .u8)) (hl := fun _ => ⟨rfl, rfl⟩) sl37 ul37 h27) (fun _ _ => ⟨rfl, rfl, ⟨rfl, rfl, rfl, rfl, rfl, trivial⟩⟩)
    · exact OpOK.of (fun g16 => [(.tmp 3, BP b1 0)]) _ _ (fun g16 _ => g16) rfl rfl (fun _ => ⟨rfl, trivial⟩) (fun g16 => Pu.toOT (Pu.fieldB fo81_1 rfl)) (fun _ _ => ⟨rfl, rfl, ⟨rfl, rfl, rfl, rfl, rfl, trivial⟩⟩)
    · exact OpOK.of (fun g16 => [(.tmp 29, BP b1 1)]) _ _ (fun g16 _ => g16) rfl rfl (fun _ => ⟨rfl, trivial⟩) (fun g16 => OT.loadBA (vs := [.bool p1.N.Leaf, .slice a_0 (List.length p1.N.L) c_0]) ag79 sz79 rfl rfl) (fun _ _ => ⟨rfl, rfl, ⟨rfl, rfl, rfl, rfl, rfl, trivial⟩⟩)
    refine HQ.keep [(4, _), (28, _), (30, _)] ⟨rfl, rfl, rfl, trivial⟩ ?_
    refine HQ.keepR [(1, _), (3, _), (5, _), (4, _)] ⟨rfl, rfl, rfl, rfl, trivial⟩ rfl ?_
    obtain ⟨t28, h29, H⟩ := bnd H
    refine HQ.op [] [6] (OT.call (us := [_]) (Pre := []) [.tmp 30] Try.call166 rfl rfl fun w F hs hF hp => spec_PutNode_c (hb_0.pass hp) h29) ⟨rfl, rfl, trivial⟩ trivial rfl rfl rfl rfl (fun _ => rfl) fun ⟨a30, c31⟩ => ?_
    obtain ⟨h34, H⟩ := asr H
    refine HQ.op [4, 6] [4, 6] (OT.appendG (enc := (encI .u8)) (hl := fun _ => ⟨rfl, rfl⟩) sl37 ul37 h34) ⟨rfl, rfl, trivial⟩ ⟨rfl, rfl, trivial⟩ rfl rfl rfl rfl (fun _ => rfl) fun ⟨a32, c33⟩ => ?_
    refine HQ.pu Pu.assign ⟨rfl, trivial⟩ rfl rfl rfl ?_
    refine HQ.done ?_
    refine HQ.keep [(4, _)] ⟨rfl, trivial⟩ ?_
    refine HQ.ret ?_
    obtain rfl := Option.some.inj H
    exact HQ.fin (vs := [_]) Try.results119 (a32, c33) ⟨rfl, trivial⟩ rfl [4] ⟨rfl, trivial⟩ rfl

/-! spec.GetPut -/
theorem spec_GetPut_c {w : World} {k : Nat} {p0 : Int} {p1 : (List Int)} {a_0 : Option Addr} {c_0 : Nat} (hb_0 : BorS kU8 a_0 c_0 p1 w.heap (Lt w Nil)) {r : TChange × Bool} (H : spec_GetPut k p0 p1 = some r) :
    Calls Try.prog 52 #[.int .i64 p0, .slice a_0 (List.length p1) c_0] w (Rt w Nil (fun g : Option Addr × Nat => .tuple #[.agg #[.int .i64 r.1.Page, .bool r.1.N.Leaf, .slice g.1 (List.length r.1.N.L) g.2], .bool r.2]) (fun g => [OwnS kTEntry g.1 g.2 r.1.N.L])) := by
  rw [spec_GetPut] at H
  refine Calls.enter0 (N := 38) (us := [_, _]) Try.func52 rfl rfl rfl ?_
  refine HQ.rseq ?_
  refine HQ.op [] [1] (OT.alloc zc81) trivial trivial rfl rfl rfl rfl (fun _ => rfl) fun b1 => ?_
  refine HQ.pu Pu.assign ⟨rfl, trivial⟩ rfl rfl rfl ?_
  refine HQ.done ?_
  refine HQ.keep [(0, _), (1, _), (4, _), (5, _)] ⟨rfl, rfl, rfl, rfl, trivial⟩ ?_
  refine HQ.seq ?_
  refine HQ.rseq ?_
  refine HQ.pu Pu.move ⟨rfl, trivial⟩ rfl rfl rfl ?_
  refine HQ.pu (Pu.len ul37) ⟨rfl, trivial⟩ rfl rfl rfl ?_
  refine HQ.pu Pu.neq ⟨rfl, rfl, trivial⟩ rfl rfl rfl ?_
  refine HQ.done ?_
  refine HQ.keep [(0, _), (1, _), (4, _), (5, _), (11, _)] ⟨rfl, rfl, rfl, rfl, rfl, trivial⟩ ?_
  rcases brk H with ⟨hc, H⟩ | ⟨hc, H⟩
  · refine HQ.condT rfl hc ?_
    clear hc
    refine HQ.rseq ?_
    refine HQ.pu (Pu.build (us := []) (cs := [.int .i64 0, .bool false, .slice none 0 0]) [] st81 rfl rfl rfl) trivial rfl rfl rfl ?_
    refine HQ.opN [1] [1] [] (OT.storeC (cs' := [.int .i64 0, .bool false, .slice none 0 0]) sz81 rfl rfl rfl rfl rfl) ⟨rfl, rfl, trivial⟩ ⟨rfl, trivial⟩ rfl rfl rfl (fun _ => rfl) fun _ => ?_
    refine HQ.pu Pu.assign ⟨rfl, trivial⟩ rfl rfl rfl ?_
    refine HQ.done ?_
    refine HQ.keep [(0, _), (1, _), (4, _), (5, _)] ⟨rfl, rfl, rfl, rfl, trivial⟩ ?_
    refine HQ.ret ?_
    refine HQ.thenR ?_
    obtain rfl := Option.some.inj H
    refine HQ.nil kTEntry 2 rfl ?_
    exact HQ.fin (vs := [_, _]) Try.results52 (none, 0) ⟨⟨_, _, 1, rfl, rfl, ag81, sz81, rfl⟩, rfl, trivial⟩ rfl [2] ⟨rfl, trivial⟩ rfl
  · refine HQ.condF rfl hc ?_
    clear hc
    refine HQ.skipThen ?_
    refine HQ.rseq ?_
    refine HQ.pu Pu.move ⟨rfl, trivial⟩ rfl rfl rfl ?_
    obtain ⟨h2, H⟩ := asr H
    refine HQ.op [] [] (OT.cutB (vs := [(.const (.int .i64 4), .int .i64 4), (.const (.int .i64 29), .int .i64 29)]) (l := 4) (h := 29) ul37 sz5 hb_0 (.inr ⟨_, _, rfl, .tail _ (.head _)⟩) (.inr ⟨_, _, rfl, .tail _ (.tail _ (.head _))⟩) h2) ⟨rfl, rfl, rfl, trivial⟩ trivial rfl rfl rfl rfl (fun _ => rfl) fun _ => ?_
    obtain ⟨t3, h4, H⟩ := bnd H
    refine HQ.op [] [3] (OT.call (us := [_]) (Pre := []) [.tmp 15] Try.call117 rfl rfl fun w F hs hF hp => spec_GetNode_c ((hb_0.slice h2).pass hp) h4) ⟨rfl, rfl, trivial⟩ trivial rfl rfl rfl rfl (fun _ => rfl) fun ⟨a5, c6⟩ => ?_
    refine HQ.pu Pu.move ⟨rfl, trivial⟩ rfl rfl rfl ?_
    refine HQ.pu (Pu.extract rfl) ⟨rfl, trivial⟩ rfl rfl rfl ?_
    refine HQ.pu (Pu.extract rfl) ⟨rfl, trivial⟩ rfl rfl rfl ?_
    refine HQ.op [] [4] (OT.alloc zc79) trivial trivial rfl rfl rfl rfl (fun _ => rfl) fun b7 => ?_
    refine HQ.opN [4] [4] [] (OT.storeC (cs' := [.bool t3.1.Leaf, .slice a5 (List.length t3.1.L) c6]) sz79 rfl rfl rfl rfl rfl) ⟨rfl, rfl, trivial⟩ ⟨rfl, trivial⟩ rfl rfl rfl (fun _ => rfl) fun _ => ?_
    refine HQ.pu Pu.assign ⟨rfl, trivial⟩ rfl rfl rfl ?_
    refine HQ.done ?_
    refine HQ.keep [(0, _), (1, _), (4, _), (5, _), (6, _), (7, _)] ⟨rfl, rfl, rfl, rfl, rfl, rfl, trivial⟩ ?_
    obtain ⟨h9, H⟩ := asr H
    refine HQ.drawS mixd [(0, .int .i64 p0), (1, .slice a_0 (List.length p1) c_0), (4, BP b1 0), (5, .bool false), (6, BP b7 0), (7, .bool t3.2)] 7 [⟨[], [], []⟩, ⟨[], [], [0]⟩, ⟨[], [], [1]⟩, ⟨[], [], [2]⟩, ⟨[0], [0], []⟩, ⟨[], [], [3, 4]⟩, ⟨[], [1], []⟩] [⟨none, none⟩, ⟨some 6, none⟩] (fun (g8 : Nat) => [.slice a_0 (List.length p1) c_0, EP a_0 3 1 0, .int .u8 (gt p1 3), .int .i64 (IntKind.i64.wrap (gt p1 3)), .agg #[.bool t3.1.Leaf, .slice a5 (List.length t3.1.L) c6], .agg #[.int .i64 (IntKind.i64.wrap (gt p1 3)), .bool t3.1.Leaf, .slice a5 (List.length t3.1.L) c6], BP g8 0]) (fun (g8 : Nat) => [Box b7 [.bool t3.1.Leaf, .slice a5 (List.length t3.1.L) c6], Box g8 [.int .i64 0, .bool false, .slice none 0 0]]) 0 [4] [4, 5] [] ⟨rfl, rfl, rfl, rfl, rfl, rfl, trivial⟩ ⟨rfl, trivial⟩ rfl (by kernel_rfl) (fun _ => rfl) (by kernel_rfl) (fun _ => rfl) ⟨?_, ?_, ?_, ?_, ?_, ?_, ?_, trivial⟩ fun g8 => ?_
    · exact OpOK.of (fun g8 => [(.tmp 1, .slice a_0 (List.length p1) c_0)]) _ _ (fun g8 _ => g8) rfl rfl (fun _ => ⟨rfl, trivial⟩) (fun g8 => Pu.toOT Pu.move) (fun _ _ => ⟨rfl, rfl, ⟨rfl, rfl, trivial⟩⟩)
    · exact OpOK.of (fun g8 => [(.tmp 19, .slice a_0 (List.length p1) c_0), (.const (.int .i64 3), .int .i64 3)]) _ _ (fun g8 _ => g8) rfl rfl (fun _ => ⟨rfl, rfl, trivial⟩) (fun g8 => OT.indexB ul37 sz5 hb_0 h9) (fun _ _ => ⟨rfl, rfl, ⟨rfl, rfl, trivial⟩⟩)
    · exact OpOK.of (fun g8 => [(.tmp 20, EP a_0 3 1 0)]) _ _ (fun g8 _ => g8) rfl rfl (fun _ => ⟨rfl, trivial⟩) (fun g8 => OT.loadF sc5 hb_0 h9 rfl) (fun _ _ => ⟨rfl, rfl, ⟨rfl, rfl, trivial⟩⟩)
    · exact OpOK.of (fun g8 => [(.tmp 21, .int .u8 (gt p1 3))]) _ _ (fun g8 _ => g8) rfl rfl (fun _ => ⟨rfl, trivial⟩) (fun g8 => Pu.toOT (Pu.conv ul5 ul3)) (fun _ _ => ⟨rfl, rfl, ⟨rfl, rfl, trivial⟩⟩)
    · exact OpOK.of (fun g8 => [(.tmp 6, BP b7 0)]) _ _ (fun g8 _ => g8) rfl rfl (fun _ => ⟨rfl, trivial⟩) (fun g8 => OT.loadBA (vs := [.bool t3.1.Leaf, .slice a5 (List.length t3.1.L) c6]) ag79 sz79 rfl rfl) (fun _ _ => ⟨rfl, rfl, ⟨rfl, rfl, trivial⟩⟩)
    · exact OpOK.of (fun g8 => [(.tmp 22, .int .i64 (IntKind.i64.wrap (gt p1 3))), (.tmp 23, .agg #[.bool t3.1.Leaf, .slice a5 (List.length t3.1.L) c6])]) _ _ (fun g8 _ => g8) rfl rfl (fun _ => ⟨rfl, rfl, trivial⟩) (fun g8 => Pu.toOT (Pu.build (us := [.int .i64 (IntKind.i64.wrap (gt p1 3)), .agg #[.bool t3.1.Leaf, .slice a5 (List.length t3.1.L) c6]]) (cs := [.int .i64 (IntKind.i64.wrap (gt p1 3)), .bool t3.1.Leaf, .slice a5 (List.length t3.1.L) c6]) [(0, .tmp 22), (1, .tmp 23)] st81 rfl rfl rfl)) (fun _ _ => ⟨rfl, rfl, ⟨rfl, rfl, trivial⟩⟩)
    · exact OpOK.of (fun g8 => []) _ _ (fun g8 x => x) rfl rfl (fun _ => trivial) (fun g8 => OT.alloc zc81) (fun _ _ => ⟨rfl, rfl, ⟨rfl, rfl, trivial⟩⟩)
    refine HQ.keep [(0, _), (1, _), (4, _), (5, _), (7, _), (24, _), (8, _)] ⟨rfl, rfl, rfl, rfl, rfl, rfl, rfl, trivial⟩ ?_
    refine HQ.keepR [(1, _), (3, _), (4, _), (5, _)] ⟨rfl, rfl, rfl, rfl, trivial⟩ rfl ?_
    refine HQ.opN [5] [5] [] (OT.storeC (cs' := [.int .i64 (IntKind.i64.wrap (gt p1 3)), .bool t3.1.Leaf, .slice a5 (List.length t3.1.L) c6]) sz81 rfl rfl rfl rfl rfl) ⟨rfl, rfl, trivial⟩ ⟨rfl, trivial⟩ rfl rfl rfl (fun _ => rfl) fun _ => ?_
    refine HQ.done ?_
    refine HQ.keep [(0, _), (1, _), (4, _), (5, _), (7, _), (8, _)] ⟨rfl, rfl, rfl, rfl, rfl, rfl, trivial⟩ ?_
    refine HQ.seq ?_
    refine HQ.rseq ?_
    refine HQ.pu Pu.move ⟨rfl, trivial⟩ rfl rfl rfl ?_
    refine HQ.pu Pu.not ⟨rfl, trivial⟩ rfl rfl rfl ?_
    refine HQ.pu Pu.move ⟨rfl, trivial⟩ rfl rfl rfl ?_
    obtain ⟨c22, h23, H⟩ := bnd H
    refine HQ.cutAt 8 [(35, .bool c22), (4, BP b1 0), (5, .bool false), (8, BP g8 0)] [(1, Box b1 [.int .i64 0, .bool false, .slice none 0 0]), (3, OwnS kTEntry a5 c6 t3.1.L), (4, Box b7 [.bool t3.1.Leaf, .slice a5 (List.length t3.1.L) c6]), (5, Box g8 [.int .i64 (IntKind.i64.wrap (gt p1 3)), .bool t3.1.Leaf, .slice a5 (List.length t3.1.L) c6])] ?_ ?_
    · clear H
      have H := h23
      rcases brk H with ⟨hg11, H⟩ | ⟨hg11, H⟩
      · obtain rfl := Option.some.inj H
        refine HQ.off rfl rfl hg11 rfl ?_
        refine HQ.off rfl rfl hg11 rfl ?_
        refine HQ.off rfl rfl hg11 rfl ?_
        refine HQ.off rfl rfl hg11 rfl ?_
        refine HQ.off rfl rfl hg11 rfl ?_
        refine HQ.off rfl rfl hg11 rfl ?_
        refine HQ.off rfl rfl hg11 rfl ?_
        refine HQ.pu (Pu.pickC1 hg11) ⟨rfl, rfl, trivial⟩ rfl rfl rfl ?_
        exact HQ.mid ⟨rfl, rfl, rfl, rfl, trivial⟩ ⟨rfl, rfl, rfl, rfl, trivial⟩ rfl
      · refine HQ.on rfl rfl hg11 ?_
        refine HQ.pu Pu.move ⟨rfl, trivial⟩ rfl rfl rfl ?_
        refine HQ.on rfl rfl hg11 ?_
        refine HQ.op [5] [5] (OT.loadBA (vs := [.int .i64 (IntKind.i64.wrap (gt p1 3)), .bool t3.1.Leaf, .slice a5 (List.length t3.1.L) c6]) ag81 sz81 rfl rfl) ⟨rfl, trivial⟩ ⟨rfl, trivial⟩ rfl rfl rfl rfl (fun _ => rfl) fun _ => ?_
        refine HQ.on rfl rfl hg11 ?_
        obtain ⟨t12, h13, H⟩ := bnd H
        refine HQ.op [3] [6, 3] (OT.call (us := [_, _]) (Pre := [OwnS kTEntry a5 c6 t3.1.L]) [.tmp 28, .tmp 29] Try.call119 rfl rfl fun w F hs hF hp => spec_PutCell_c (hs.lend hF 0 rfl) h13) ⟨rfl, rfl, rfl, trivial⟩ ⟨rfl, trivial⟩ rfl rfl rfl rfl (fun _ => rfl) fun ⟨a14, c15⟩ => ?_
        refine HQ.on rfl rfl hg11 ?_
        obtain ⟨t16, h17, H⟩ := bnd H
        refine HQ.op [6] [7, 6] (OT.call (us := [_, _]) (Pre := [OwnS kU8 a14 c15 t12]) [.tmp 30, .const (.int .i64 32)] Try.call86 rfl rfl fun w F hs hF hp => spec_Pad_c (hs.lend hF 0 rfl) h17) ⟨rfl, rfl, rfl, trivial⟩ ⟨rfl, trivial⟩ rfl rfl rfl rfl (fun _ => rfl) fun ⟨a18, c19⟩ => ?_
        refine HQ.on rfl rfl hg11 ?_
        refine HQ.pu Pu.move ⟨rfl, trivial⟩ rfl rfl rfl ?_
        refine HQ.on rfl rfl hg11 ?_
        obtain ⟨t20, h21, H⟩ := bnd H
        refine HQ.op [7] [7] (OT.call (us := [_, _]) (Pre := [OwnS kU8 a18 c19 t16]) [.tmp 31, .tmp 32] Try.call118 rfl rfl fun w F hs hF hp => spec_l6Same_c (hs.lend hF 0 rfl) (hb_0.pass hp) h21) ⟨rfl, rfl, rfl, trivial⟩ ⟨rfl, trivial⟩ rfl rfl rfl rfl (fun _ => rfl) fun _ => ?_
        refine HQ.on rfl rfl hg11 ?_
        refine HQ.pu Pu.not ⟨rfl, trivial⟩ rfl rfl rfl ?_
        obtain rfl := Option.some.inj H
        refine HQ.pu (Pu.pickC0 hg11) ⟨rfl, rfl, trivial⟩ rfl rfl rfl ?_
        exact HQ.mid ⟨rfl, rfl, rfl, rfl, trivial⟩ ⟨rfl, rfl, rfl, rfl, trivial⟩ rfl
    refine HQ.done ?_
    refine HQ.keep [(35, _), (4, _), (5, _), (8, _)] ⟨rfl, rfl, rfl, rfl, trivial⟩ ?_
    rcases brk H with ⟨hc, H⟩ | ⟨hc, H⟩
    · refine HQ.condT rfl hc ?_
      clear hc
      refine HQ.rseq ?_
      refine HQ.pu (Pu.build (us := []) (cs := [.int .i64 0, .bool false, .slice none 0 0]) [] st81 rfl rfl rfl) trivial rfl rfl rfl ?_
      refine HQ.opN [1] [1] [] (OT.storeC (cs' := [.int .i64 0, .bool false, .slice none 0 0]) sz81 rfl rfl rfl rfl rfl) ⟨rfl, rfl, trivial⟩ ⟨rfl, trivial⟩ rfl rfl rfl (fun _ => rfl) fun _ => ?_
      refine HQ.pu Pu.assign ⟨rfl, trivial⟩ rfl rfl rfl ?_
      refine HQ.done ?_
      refine HQ.keep [(4, _), (5, _), (8, _)] ⟨rfl, rfl, rfl, trivial⟩ ?_
      refine HQ.ret ?_
      refine HQ.thenR ?_
      obtain rfl := Option.some.inj H
      refine HQ.nil kTEntry 8 rfl ?_
      exact HQ.fin (vs := [_, _]) Try.results52 (none, 0) ⟨⟨_, _, 1, rfl, rfl, ag81, sz81, rfl⟩, rfl, trivial⟩ rfl [8] ⟨rfl, trivial⟩ rfl
    · refine HQ.condF rfl hc ?_
      clear hc
      refine HQ.skipThen ?_
      refine HQ.rseq ?_
      refine HQ.op [5] [5] (OT.loadBA (vs := [.int .i64 (IntKind.i64.wrap (gt p1 3)), .bool t3.1.Leaf, .slice a5 (List.length t3.1.L) c6]) ag81 sz81 rfl rfl) ⟨rfl, trivial⟩ ⟨rfl, trivial⟩ rfl rfl rfl rfl (fun _ => rfl) fun _ => ?_
      refine HQ.opN [1] [1] [] (OT.storeC (cs' := [.int .i64 (IntKind.i64.wrap (gt p1 3)), .bool t3.1.Leaf, .slice a5 (List.length t3.1.L) c6]) sz81 rfl rfl rfl rfl rfl) ⟨rfl, rfl, trivial⟩ ⟨rfl, trivial⟩ rfl rfl rfl (fun _ => rfl) fun _ => ?_
      refine HQ.pu Pu.assign ⟨rfl, trivial⟩ rfl rfl rfl ?_
      refine HQ.done ?_
      refine HQ.keep [(4, _), (5, _)] ⟨rfl, rfl, trivial⟩ ?_
      refine HQ.ret ?_
      obtain rfl := Option.some.inj H
      exact HQ.fin (vs := [_, _]) Try.results52 (a5, c6) ⟨⟨_, _, 1, rfl, rfl, ag81, sz81, rfl⟩, rfl, trivial⟩ rfl [3] ⟨rfl, trivial⟩ rfl

end Go.Proofs.Sx
