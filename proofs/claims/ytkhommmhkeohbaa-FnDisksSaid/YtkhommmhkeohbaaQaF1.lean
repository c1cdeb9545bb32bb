import Derived.Test.YtkhommmhkeohbaaQaF0
import Derived.KernelRfl
namespace Go.Proofs.Sx
open Go.RowKit
set_option linter.unusedVariables false
set_option linter.unusedSimpArgs false
set_option maxRecDepth 20000
set_option maxHeartbeats 1000000
/-! laws.big -/
theorem laws_big_c {w : World} {p0 : (List Int)} {a_0 : Option Addr} {c_0 : Nat}  {r : Bool} (H : laws_big p0 = some r) :
    Calls Try.prog 9 #[.slice a_0 (List.length p0) c_0] w (Rt w Nil (fun _ : Unit => .bool r) (fun _ => [])) := by
  rw [laws_big] at H
  refine Calls.enter0 (N := 6) (us := [_]) Try.func9 rfl rfl rfl ?_
  refine HQ.rseq ?_
  refine HQ.pu Pu.assign ⟨rfl, trivial⟩ rfl rfl rfl ?_
  refine HQ.done ?_
  refine HQ.keep [(0, _), (2, _)] ⟨rfl, rfl, trivial⟩ ?_
  refine HQ.rseq ?_
  refine HQ.pu Pu.move ⟨rfl, trivial⟩ rfl rfl rfl ?_
  refine HQ.pu (Pu.len ul22) ⟨rfl, trivial⟩ rfl rfl rfl ?_
  refine HQ.pu Pu.gtr ⟨rfl, rfl, trivial⟩ rfl rfl rfl ?_
  refine HQ.pu Pu.assign ⟨rfl, trivial⟩ rfl rfl rfl ?_
  refine HQ.done ?_
  refine HQ.keep [(2, _)] ⟨rfl, trivial⟩ ?_
  refine HQ.ret ?_
  obtain rfl := Option.some.inj H
  exact HQ.fin (vs := [_]) Try.results9 () ⟨rfl, trivial⟩ rfl [] trivial rfl

/-! spec.l1New -/
theorem spec_l1New_c {w : World} {k : Nat} {p0 : (List Int)} {a_0 : Option Addr} {c_0 : Nat} (hb_0 : BorS kU8 a_0 c_0 p0 w.heap (Lt w Nil)) {r : TCur} (H : spec_l1New k p0 = some r) :
    Calls Try.prog 77 #[.slice a_0 (List.length p0) c_0] w (Rt w Nil (fun g : Nat => BP g 0) (fun g => [Box g [.slice a_0 (List.length p0) c_0, .int .i64 r.i, .int .i64 r.h]])) := by
  rw [spec_l1New] at H
  refine Calls.enter0 (N := 32) (us := [_]) Try.func77 rfl rfl rfl ?_
  refine HQ.rseq ?_
  refine HQ.pu Pu.assign ⟨rfl, trivial⟩ rfl rfl rfl ?_
  refine HQ.done ?_
  refine HQ.keep [(0, _), (2, _)] ⟨rfl, rfl, trivial⟩ ?_
  refine HQ.rseq ?_
  refine HQ.pu Pu.move ⟨rfl, trivial⟩ rfl rfl rfl ?_
  refine HQ.pu (Pu.len ul22) ⟨rfl, trivial⟩ rfl rfl rfl ?_
  refine HQ.pu Pu.add ⟨rfl, rfl, trivial⟩ rfl rfl rfl ?_
  refine HQ.pu Pu.assign ⟨rfl, trivial⟩ rfl rfl rfl ?_
  refine HQ.done ?_
  refine HQ.keep [(0, _), (2, _), (3, _)] ⟨rfl, rfl, rfl, trivial⟩ ?_
  refine HQ.seq ?_
  refine HQ.rseq ?_
  refine HQ.pu Pu.assign ⟨rfl, trivial⟩ rfl rfl rfl ?_
  refine HQ.done ?_
  refine HQ.keep [(0, _), (2, _), (3, _), (4, _)] ⟨rfl, rfl, rfl, rfl, trivial⟩ ?_
  refine HQ.block ?_
  obtain ⟨o9, h13, H⟩ := bnd H
  refine HQ.loop h13 0 (fun (s : Int × Int) (g : Unit) => match s, g with | (i3, i4), () => [(0, .slice a_0 (List.length p0) c_0), (2, .pointer none), (3, .int .i64 i3), (4, .int .i64 i4)]) (fun (s : Int × Int) (g : Unit) => match s, g with | (i3, i4), () => []) (fun _ _ _ => False) () ⟨rfl, rfl, rfl, rfl, trivial⟩ trivial rfl ?_ ?_ ?_
  · clear H h13
    rintro ⟨i3, i4⟩ _ o H
    rw [spec_l1New_b0] at H
    refine HQ.keep [(0, _), (2, _), (3, _), (4, _)] ⟨rfl, rfl, rfl, rfl, trivial⟩ ?_
    refine HQ.keepR [] trivial rfl ?_
    refine HQ.seq ?_
    refine HQ.rseq ?_
    refine HQ.pu Pu.move ⟨rfl, trivial⟩ rfl rfl rfl ?_
    refine HQ.pu Pu.move ⟨rfl, trivial⟩ rfl rfl rfl ?_
    refine HQ.pu (Pu.len ul22) ⟨rfl, trivial⟩ rfl rfl rfl ?_
    refine HQ.pu Pu.lss ⟨rfl, rfl, trivial⟩ rfl rfl rfl ?_
    refine HQ.pu Pu.move ⟨rfl, trivial⟩ rfl rfl rfl ?_
    refine HQ.cutAt 3 [(15, .bool ((decide (i4 < ((List.length p0 : Nat) : Int))) && (decide (i4 < 4000)))), (0, .slice a_0 (List.length p0) c_0), (2, .pointer none), (3, .int .i64 i3), (4, .int .i64 i4)] [] ?_ ?_
    · rcases Bool.eq_false_or_eq_true (decide (i4 < ((List.length p0 : Nat) : Int))) with hg7 | hg7
      · refine HQ.on rfl rfl hg7 ?_
        refine HQ.pu Pu.move ⟨rfl, trivial⟩ rfl rfl rfl ?_
        refine HQ.on rfl rfl hg7 ?_
        refine HQ.pu Pu.lss ⟨rfl, rfl, trivial⟩ rfl rfl rfl ?_
        refine HQ.pu (Pu.pickAT hg7) ⟨rfl, rfl, trivial⟩ rfl rfl rfl ?_
        exact HQ.mid ⟨rfl, rfl, rfl, rfl, rfl, trivial⟩ trivial rfl
      · refine HQ.off rfl rfl hg7 rfl ?_
        refine HQ.off rfl rfl hg7 rfl ?_
        refine HQ.pu (Pu.pickAF (u := (decide (i4 < 4000))) hg7) ⟨rfl, rfl, trivial⟩ rfl rfl rfl ?_
        exact HQ.mid ⟨rfl, rfl, rfl, rfl, rfl, trivial⟩ trivial rfl
    refine HQ.done ?_
    refine HQ.keep [(15, _), (0, _), (2, _), (3, _), (4, _)] ⟨rfl, rfl, rfl, rfl, rfl, trivial⟩ ?_
    rcases brk H with ⟨hc, H⟩ | ⟨hc, H⟩
    · refine HQ.condT rfl hc ?_
      clear hc
      refine HQ.skipThen ?_
      refine HQ.seq ?_
      refine HQ.block ?_
      refine HQ.regionQ ?_
      refine HQ.pu Pu.move ⟨rfl, trivial⟩ rfl rfl rfl ?_
      refine HQ.pu Pu.mul ⟨rfl, rfl, trivial⟩ rfl rfl rfl ?_
      refine HQ.pu Pu.move ⟨rfl, trivial⟩ rfl rfl rfl ?_
      refine HQ.pu Pu.move ⟨rfl, trivial⟩ rfl rfl rfl ?_
      obtain ⟨h8, H⟩ := asr H
      refine HQ.op [] [] (OT.indexB ul22 sz5 hb_0 h8) ⟨rfl, rfl, trivial⟩ trivial rfl rfl rfl rfl (fun _ => rfl) fun _ => ?_
      refine HQ.op [] [] (OT.loadF sc5 hb_0 h8 rfl) ⟨rfl, trivial⟩ trivial rfl rfl rfl rfl (fun _ => rfl) fun _ => ?_
      refine HQ.pu (Pu.conv ul5 ul3) ⟨rfl, trivial⟩ rfl rfl rfl ?_
      refine HQ.pu Pu.add ⟨rfl, rfl, trivial⟩ rfl rfl rfl ?_
      refine HQ.pu Pu.add ⟨rfl, rfl, trivial⟩ rfl rfl rfl ?_
      refine HQ.pu Pu.and ⟨rfl, rfl, trivial⟩ rfl rfl rfl ?_
      refine HQ.pu Pu.assign ⟨rfl, trivial⟩ rfl rfl rfl ?_
      refine HQ.done ?_
      refine HQ.keep [(0, _), (2, _), (3, _), (4, _)] ⟨rfl, rfl, rfl, rfl, trivial⟩ ?_
      refine HQ.blkN ?_
      refine HQ.thenN ?_
      refine HQ.regionQ ?_
      refine HQ.pu Pu.move ⟨rfl, trivial⟩ rfl rfl rfl ?_
      refine HQ.pu Pu.add ⟨rfl, rfl, trivial⟩ rfl rfl rfl ?_
      refine HQ.pu Pu.assign ⟨rfl, trivial⟩ rfl rfl rfl ?_
      refine HQ.done ?_
      refine HQ.keep [(0, _), (2, _), (3, _), (4, _)] ⟨rfl, rfl, rfl, rfl, trivial⟩ ?_
      obtain rfl := Option.some.inj H
      exact HQ.next () ⟨rfl, rfl, rfl, rfl, trivial⟩ trivial rfl
    · refine HQ.condF rfl hc ?_
      clear hc
      refine HQ.exit ?_
      refine HQ.thenE ?_
      obtain rfl := Option.some.inj H
      exact HQ.out () ⟨rfl, rfl, rfl, rfl, trivial⟩ trivial rfl
  · rintro ⟨i10, i11⟩ rfl _
    clear h13
    replace H := H
    refine HQ.keep [(0, _), (2, _), (3, _), (4, _)] ⟨rfl, rfl, rfl, rfl, trivial⟩ ?_
    refine HQ.keepR [] trivial rfl ?_
    refine HQ.blkE ?_
    refine HQ.thenN ?_
    refine HQ.rseq ?_
    refine HQ.pu Pu.move ⟨rfl, trivial⟩ rfl rfl rfl ?_
    refine HQ.pu Pu.move ⟨rfl, trivial⟩ rfl rfl rfl ?_
    refine HQ.pu (Pu.build (us := [.slice a_0 (List.length p0) c_0, .int .i64 i10]) (cs := [.slice a_0 (List.length p0) c_0, .int .i64 0, .int .i64 i10]) [(0, .tmp 28), (2, .tmp 29)] st144 rfl rfl rfl) ⟨rfl, rfl, trivial⟩ rfl rfl rfl ?_
    refine HQ.op [] [1] (OT.box (cs := [.slice a_0 (List.length p0) c_0, .int .i64 0, .int .i64 i10]) rfl) ⟨rfl, trivial⟩ trivial rfl rfl rfl rfl (fun _ => rfl) fun b12 => ?_
    refine HQ.pu Pu.assign ⟨rfl, trivial⟩ rfl rfl rfl ?_
    refine HQ.done ?_
    refine HQ.keep [(2, _)] ⟨rfl, trivial⟩ ?_
    refine HQ.ret ?_
    obtain rfl := Option.some.inj H
    exact HQ.fin (vs := [_]) Try.results77 b12 ⟨rfl, trivial⟩ rfl [1] ⟨rfl, trivial⟩ rfl
  · exact fun r h a w hf => hf.elim

/-! spec.DiskNew -/
theorem spec_DiskNew_c {w : World}   {r : TDisk} (H : spec_DiskNew = some r) :
    Calls Try.prog 115 #[] w (Rt w Nil (fun g : (Option Addr × Nat) × (Option Addr × Nat) => .agg #[.slice g.1.1 (List.length r.Cells) g.1.2, .slice g.2.1 (List.length r.Wet) g.2.2, .int .i64 r.Fuse, .bool r.Dead]) (fun g => [OwnS kTCell g.1.1 g.1.2 r.Cells, OwnS kTWet g.2.1 g.2.2 r.Wet])) := by
  rw [spec_DiskNew] at H
  refine Calls.enter0 (N := 2) (us := []) Try.func115 rfl rfl rfl ?_
  refine HQ.rseq ?_
  refine HQ.op [] [1] (OT.alloc zc27) trivial trivial rfl rfl rfl rfl (fun _ => rfl) fun b1 => ?_
  refine HQ.done ?_
  refine HQ.keep [(0, _)] ⟨rfl, trivial⟩ ?_
  refine HQ.rseq ?_
  refine HQ.pu (Pu.build (us := [.int .i64 (-1)]) (cs := [.slice none 0 0, .slice none 0 0, .int .i64 (-1), .bool false]) [(2, .const (.int .i64 (-1)))] st27 rfl rfl rfl) ⟨rfl, trivial⟩ rfl rfl rfl ?_
  refine HQ.opN [1] [1] [] (OT.storeC (cs' := [.slice none 0 0, .slice none 0 0, .int .i64 (-1), .bool false]) sz27 rfl rfl rfl rfl rfl) ⟨rfl, rfl, trivial⟩ ⟨rfl, trivial⟩ rfl rfl rfl (fun _ => rfl) fun _ => ?_
  refine HQ.done ?_
  refine HQ.keep [(0, _)] ⟨rfl, trivial⟩ ?_
  refine HQ.ret ?_
  obtain rfl := Option.some.inj H
  refine HQ.nil kTCell 2 rfl ?_
  refine HQ.nil kTWet 3 rfl ?_
  exact HQ.fin (vs := [_]) Try.results115 ((none, 0), (none, 0)) ⟨⟨_, _, 1, rfl, rfl, ag27, sz27, rfl⟩, trivial⟩ rfl [2, 3] ⟨rfl, rfl, trivial⟩ rfl

/-! spec.l1Byte -/
theorem spec_l1Byte_c {w : World} {p0 : TCur} {β_0 : Nat} {a_0 : Option Addr} {c_0 : Nat} {F0 : Fp} (hs0 : Sat [Box β_0 [.slice a_0 (List.length p0.b) c_0, .int .i64 p0.i, .int .i64 p0.h]] w.heap F0) (hF0 : ∀ b, F0 b → b < w.heap.size) (hb_0 : BorS kU8 a_0 c_0 p0.b w.heap (Lt w F0)) {r : Int × TCur} (H : spec_l1Byte p0 = some r) :
    Calls Try.prog 123 #[BP β_0 0] w (Rt w F0 (fun _ : Unit => .int .i64 r.1) (fun _ => [Box β_0 [.slice a_0 (List.length p0.b) c_0, .int .i64 r.2.i, .int .i64 r.2.h]])) := by
  rw [spec_l1Byte] at H
  refine Calls.enter (N := 58) (us := [_]) (F0 := F0) (Γ0 := [(1, Box β_0 [.slice a_0 (List.length p0.b) c_0, .int .i64 p0.i, .int .i64 p0.h])]) Try.func123 rfl rfl rfl hs0 hF0 ?_
  refine HQ.rseq ?_
  refine HQ.pu Pu.assign ⟨rfl, trivial⟩ rfl rfl rfl ?_
  refine HQ.done ?_
  refine HQ.keep [(0, _), (2, _)] ⟨rfl, rfl, trivial⟩ ?_
  refine HQ.rseq ?_
  refine HQ.pu Pu.move ⟨rfl, trivial⟩ rfl rfl rfl ?_
  refine HQ.pu Pu.move ⟨rfl, trivial⟩ rfl rfl rfl ?_
  refine HQ.pu Pu.nilCheck ⟨rfl, trivial⟩ rfl rfl rfl ?_
  refine HQ.pu (Pu.fieldB fo144_2 rfl) ⟨rfl, trivial⟩ rfl rfl rfl ?_
  refine HQ.op [1] [1] (OT.loadB sc3 rfl) ⟨rfl, trivial⟩ ⟨rfl, trivial⟩ rfl rfl rfl rfl (fun _ => rfl) fun _ => ?_
  refine HQ.pu Pu.mul ⟨rfl, rfl, trivial⟩ rfl rfl rfl ?_
  refine HQ.pu Pu.add ⟨rfl, rfl, trivial⟩ rfl rfl rfl ?_
  refine HQ.pu Pu.nilCheck ⟨rfl, trivial⟩ rfl rfl rfl ?_
  refine HQ.pu (Pu.fieldB fo144_2 rfl) ⟨rfl, trivial⟩ rfl rfl rfl ?_
  refine HQ.opN [1] [1] [] (OT.storeC (cs' := [.slice a_0 (List.length p0.b) c_0, .int .i64 p0.i, .int .i64 (wrap64 ((wrap64 (p0.h * 6364136223846793005)) + 1442695040888963407))]) sz3 rfl rfl rfl rfl rfl) ⟨rfl, rfl, trivial⟩ ⟨rfl, trivial⟩ rfl rfl rfl (fun _ => rfl) fun _ => ?_
  refine HQ.done ?_
  refine HQ.keep [(0, _), (2, _)] ⟨rfl, rfl, trivial⟩ ?_
  refine HQ.drawS mixd [(0, BP β_0 0), (2, .int .i64 0)] 10 [⟨[], [], []⟩, ⟨[], [], [0]⟩, ⟨[], [], [1]⟩, ⟨[0], [0], [2]⟩, ⟨[], [], [3]⟩, ⟨[], [], []⟩, ⟨[], [], [5]⟩, ⟨[], [], [6]⟩, ⟨[0], [0], [7]⟩, ⟨[], [], [8]⟩] [⟨none, none⟩] (fun (g1 : Unit) => [BP β_0 0, BP β_0 0, BP β_0 2, .int .i64 (wrap64 ((wrap64 (p0.h * 6364136223846793005)) + 1442695040888963407)), .int .i64 (Int.fdiv (wrap64 ((wrap64 (p0.h * 6364136223846793005)) + 1442695040888963407)) (2 ^ (min (Int.toNat 33) 64))), BP β_0 0, BP β_0 0, BP β_0 2, .int .i64 (wrap64 ((wrap64 (p0.h * 6364136223846793005)) + 1442695040888963407)), .int .i64 (Int.fdiv (wrap64 ((wrap64 (p0.h * 6364136223846793005)) + 1442695040888963407)) (2 ^ (min (Int.toNat 47) 64)))]) (fun (g1 : Unit) => [Box β_0 [.slice a_0 (List.length p0.b) c_0, .int .i64 p0.i, .int .i64 (wrap64 ((wrap64 (p0.h * 6364136223846793005)) + 1442695040888963407))]]) () [1] [1] [] ⟨rfl, rfl, trivial⟩ ⟨rfl, trivial⟩ rfl (by kernel_rfl) (fun _ => rfl) (by kernel_rfl) (fun _ => rfl) ⟨?_, ?_, ?_, ?_, ?_, ?_, ?_, ?_, ?_, ?_, trivial⟩ fun g1 => ?_
  · exact OpOK.of (fun g1 => [(.tmp 0, BP β_0 0)]) _ _ (fun g1 _ => g1) rfl rfl (fun _ => ⟨rfl, trivial⟩) (fun g1 => Pu.toOT Pu.move) (fun _ _ => ⟨rfl, rfl, ⟨rfl, trivial⟩⟩)
  · exact OpOK.of (fun g1 => [(.tmp 13, BP β_0 0)]) _ _ (fun g1 _ => g1) rfl rfl (fun _ => ⟨rfl, trivial⟩) (fun g1 => Pu.toOT Pu.nilCheck) (fun _ _ => ⟨rfl, rfl, ⟨rfl, trivial⟩⟩)
  · exact OpOK.of (fun g1 => [(.tmp 14, BP β_0 0)]) _ _ (fun g1 _ => g1) rfl rfl (fun _ => ⟨rfl, trivial⟩) (fun g1 => Pu.toOT (Pu.fieldB fo144_2 rfl)) (fun _ _ => ⟨rfl, rfl, ⟨rfl, trivial⟩⟩)
  · exact OpOK.of (fun g1 => [(.tmp 15, BP β_0 2)]) _ _ (fun g1 _ => g1) rfl rfl (fun _ => ⟨rfl, trivial⟩) (fun g1 => OT.loadB sc3 rfl) (fun _ _ => ⟨rfl, rfl, ⟨rfl, trivial⟩⟩)
  · exact OpOK.of (fun g1 => [(.tmp 16, .int .i64 (wrap64 ((wrap64 (p0.h * 6364136223846793005)) + 1442695040888963407))), (.const (.int .u64 33), .int .u64 33)]) _ _ (fun g1 _ => g1) rfl rfl (fun _ => ⟨rfl, rfl, trivial⟩) (fun g1 => Pu.toOT (Pu.shr (by decide))) (fun _ _ => ⟨rfl, rfl, ⟨rfl, trivial⟩⟩)
  · exact OpOK.of (fun g1 => [(.tmp 0, BP β_0 0)]) _ _ (fun g1 _ => g1) rfl rfl (fun _ => ⟨rfl, trivial⟩) (fun g1 => Pu.toOT Pu.move) (fun _ _ => ⟨rfl, rfl, ⟨rfl, trivial⟩⟩)
  · exact OpOK.of (fun g1 => [(.tmp 18, BP β_0 0)]) _ _ (fun g1 _ => g1) rfl rfl (fun _ => ⟨rfl, trivial⟩) (fun g1 => Pu.toOT Pu.nilCheck) (fun _ _ => ⟨rfl, rfl, ⟨rfl, trivial⟩⟩)
  · exact OpOK.of (fun g1 => [(.tmp 19, BP β_0 0)]) _ _ (fun g1 _ => g1) rfl rfl (fun _ => ⟨rfl, trivial⟩) (fun g1 => Pu.toOT (Pu.fieldB fo144_2 rfl)) (fun _ _ => ⟨rfl, rfl, ⟨rfl, trivial⟩⟩)
  · exact OpOK.of (fun g1 => [(.tmp 20, BP β_0 2)]) _ _ (fun g1 _ => g1) rfl rfl (fun _ => ⟨rfl, trivial⟩) (fun g1 => OT.loadB sc3 rfl) (fun _ _ => ⟨rfl, rfl, ⟨rfl, trivial⟩⟩)
  · exact OpOK.of (fun g1 => [(.tmp 21, .int .i64 (wrap64 ((wrap64 (p0.h * 6364136223846793005)) + 1442695040888963407))), (.const (.int .u64 47), .int .u64 47)]) _ _ (fun g1 _ => g1) rfl rfl (fun _ => ⟨rfl, rfl, trivial⟩) (fun g1 => Pu.toOT (Pu.shr (by decide))) (fun _ _ => ⟨rfl, rfl, ⟨rfl, trivial⟩⟩)
  refine HQ.keep [(0, _), (2, _), (17, _), (22, _)] ⟨rfl, rfl, rfl, rfl, trivial⟩ ?_
  refine HQ.keepR [(1, _)] ⟨rfl, trivial⟩ rfl ?_
  refine HQ.pu Pu.xor ⟨rfl, rfl, trivial⟩ rfl rfl rfl ?_
  refine HQ.pu Pu.and ⟨rfl, rfl, trivial⟩ rfl rfl rfl ?_
  refine HQ.pu Pu.assign ⟨rfl, trivial⟩ rfl rfl rfl ?_
  refine HQ.done ?_
  refine HQ.keep [(0, _), (2, _), (3, _)] ⟨rfl, rfl, rfl, trivial⟩ ?_
  refine HQ.seq ?_
  refine HQ.drawS mixd [(0, BP β_0 0), (2, .int .i64 0), (3, .int .i64 (bits2 (· &&& ·) (bits2 (· ^^^ ·) (Int.fdiv (wrap64 ((wrap64 (p0.h * 6364136223846793005)) + 1442695040888963407)) (2 ^ (min (Int.toNat 33) 64))) (Int.fdiv (wrap64 ((wrap64 (p0.h * 6364136223846793005)) + 1442695040888963407)) (2 ^ (min (Int.toNat 47) 64)))) 255))] 9 [⟨[], [], []⟩, ⟨[], [], [0]⟩, ⟨[], [], [1]⟩, ⟨[0], [0], [2]⟩, ⟨[], [], []⟩, ⟨[], [], [4]⟩, ⟨[], [], [5]⟩, ⟨[0], [0], [6]⟩, ⟨[], [], [7]⟩] [⟨none, none⟩] (fun (g2 : Unit) => [BP β_0 0, BP β_0 0, BP β_0 1, .int .i64 p0.i, BP β_0 0, BP β_0 0, BP β_0 0, .slice a_0 (List.length p0.b) c_0, .int .i64 ((List.length p0.b : Nat) : Int)]) (fun (g2 : Unit) => [Box β_0 [.slice a_0 (List.length p0.b) c_0, .int .i64 p0.i, .int .i64 (wrap64 ((wrap64 (p0.h * 6364136223846793005)) + 1442695040888963407))]]) () [1] [1] [] ⟨rfl, rfl, rfl, trivial⟩ ⟨rfl, trivial⟩ rfl (by kernel_rfl) (fun _ => rfl) (by kernel_rfl) (fun _ => rfl) ⟨?_, ?_, ?_, ?_, ?_, ?_, ?_, ?_, ?_, trivial⟩ fun g2 => ?_
  · exact OpOK.of (fun g2 => [(.tmp 0, BP β_0 0)]) _ _ (fun g2 _ => g2) rfl rfl (fun _ => ⟨rfl, trivial⟩) (fun g2 => Pu.toOT Pu.move) (fun _ _ => ⟨rfl, rfl, ⟨rfl, trivial⟩⟩)
  · exact OpOK.of (fun g2 => [(.tmp 25, BP β_0 0)]) _ _ (fun g2 _ => g2) rfl rfl (fun _ => ⟨rfl, trivial⟩) (fun g2 => Pu.toOT Pu.nilCheck) (fun _ _ => ⟨rfl, rfl, ⟨rfl, trivial⟩⟩)
  · exact OpOK.of (fun g2 => [(.tmp 26, BP β_0 0)]) _ _ (fun g2 _ => g2) rfl rfl (fun _ => ⟨rfl, trivial⟩) (fun g2 => Pu.toOT (Pu.fieldB fo144_1 rfl)) (fun _ _ => ⟨rfl, rfl, ⟨rfl, trivial⟩⟩)
  · exact OpOK.of (fun g2 => [(.tmp 27, BP β_0 1)]) _ _ (fun g2 _ => g2) rfl rfl (fun _ => ⟨rfl, trivial⟩) (fun g2 => OT.loadB sc3 rfl) (fun _ _ => ⟨rfl, rfl, ⟨rfl, trivial⟩⟩)
  · exact OpOK.of (fun g2 => [(.tmp 0, BP β_0 0)]) _ _ (fun g2 _ => g2) rfl rfl (fun _ => ⟨rfl, trivial⟩) (fun g2 => Pu.toOT Pu.move) (fun _ _ => ⟨rfl, rfl, ⟨rfl, trivial⟩⟩)
  · exact OpOK.of (fun g2 => [(.tmp 29, BP β_0 0)]) _ _ (fun g2 _ => g2) rfl rfl (fun _ => ⟨rfl, trivial⟩) (fun g2 => Pu.toOT Pu.nilCheck) (fun _ _ => ⟨rfl, rfl, ⟨rfl, trivial⟩⟩)
  · exact OpOK.of (fun g2 => [(.tmp 30, BP β_0 0)]) _ _ (fun g2 _ => g2) rfl rfl (fun _ => ⟨rfl, trivial⟩) (fun g2 => Pu.toOT (Pu.fieldB fo144_0 rfl)) (fun _ _ => ⟨rfl, rfl, ⟨rfl, trivial⟩⟩)
  · exact OpOK.of (fun g2 => [(.tmp 31, BP β_0 0)]) _ _ (fun g2 _ => g2) rfl rfl (fun _ => ⟨rfl, trivial⟩) (fun g2 => OT.loadB sc22 rfl) (fun _ _ => ⟨rfl, rfl, ⟨rfl, trivial⟩⟩)
  · exact OpOK.of (fun g2 => [(.tmp 32, .slice a_0 (List.length p0.b) c_0)]) _ _ (fun g2 _ => g2) rfl rfl (fun _ => ⟨rfl, trivial⟩) (fun g2 => Pu.toOT (Pu.len ul22)) (fun _ _ => ⟨rfl, rfl, ⟨rfl, trivial⟩⟩)
  refine HQ.keep [(0, _), (2, _), (3, _), (28, _), (33, _)] ⟨rfl, rfl, rfl, rfl, rfl, trivial⟩ ?_
  refine HQ.keepR [(1, _)] ⟨rfl, trivial⟩ rfl ?_
  refine HQ.pu Pu.lss ⟨rfl, rfl, trivial⟩ rfl rfl rfl ?_
  refine HQ.done ?_
  refine HQ.keep [(0, _), (2, _), (3, _), (34, _)] ⟨rfl, rfl, rfl, rfl, trivial⟩ ?_
  rcases brk H with ⟨hc, H⟩ | ⟨hc, H⟩
  · refine HQ.condT rfl hc ?_
    clear hc
    obtain ⟨h4, H⟩ := asr H
    refine HQ.drawS mixd [(0, BP β_0 0), (2, .int .i64 0), (3, .int .i64 (bits2 (· &&& ·) (bits2 (· ^^^ ·) (Int.fdiv (wrap64 ((wrap64 (p0.h * 6364136223846793005)) + 1442695040888963407)) (2 ^ (min (Int.toNat 33) 64))) (Int.fdiv (wrap64 ((wrap64 (p0.h * 6364136223846793005)) + 1442695040888963407)) (2 ^ (min (Int.toNat 47) 64)))) 255))] 12 [⟨[], [], []⟩, ⟨[], [], []⟩, ⟨[], [], [1]⟩, ⟨[], [], [2]⟩, ⟨[0], [0], [3]⟩, ⟨[], [], []⟩, ⟨[], [], [5]⟩, ⟨[], [], [6]⟩, ⟨[0], [0], [7]⟩, ⟨[], [], [4, 8]⟩, ⟨[], [], [9]⟩, ⟨[], [], [10]⟩] [⟨none, none⟩] (fun (g3 : Unit) => [.int .i64 (bits2 (· &&& ·) (bits2 (· ^^^ ·) (Int.fdiv (wrap64 ((wrap64 (p0.h * 6364136223846793005)) + 1442695040888963407)) (2 ^ (min (Int.toNat 33) 64))) (Int.fdiv (wrap64 ((wrap64 (p0.h * 6364136223846793005)) + 1442695040888963407)) (2 ^ (min (Int.toNat 47) 64)))) 255), BP β_0 0, BP β_0 0, BP β_0 0, .slice a_0 (List.length p0.b) c_0, BP β_0 0, BP β_0 0, BP β_0 1, .int .i64 p0.i, EP a_0 p0.i 1 0, .int .u8 (gt p0.b p0.i), .int .i64 (IntKind.i64.wrap (gt p0.b p0.i))]) (fun (g3 : Unit) => [Box β_0 [.slice a_0 (List.length p0.b) c_0, .int .i64 p0.i, .int .i64 (wrap64 ((wrap64 (p0.h * 6364136223846793005)) + 1442695040888963407))]]) () [1] [1] [] ⟨rfl, rfl, rfl, trivial⟩ ⟨rfl, trivial⟩ rfl (by kernel_rfl) (fun _ => rfl) (by kernel_rfl) (fun _ => rfl) ⟨?_, ?_, ?_, ?_, ?_, ?_, ?_, ?_, ?_, ?_, ?_, ?_, trivial⟩ fun g3 => ?_
    · exact OpOK.of (fun g3 => [(.tmp 3, .int .i64 (bits2 (· &&& ·) (bits2 (· ^^^ ·) (Int.fdiv (wrap64 ((wrap64 (p0.h * 6364136223846793005)) + 1442695040888963407)) (2 ^ (min (Int.toNat 33) 64))) (Int.fdiv (wrap64 ((wrap64 (p0.h * 6364136223846793005)) + 1442695040888963407)) (2 ^ (min (Int.toNat 47) 64)))) 255))]) _ _ (fun g3 _ => g3) rfl rfl (fun _ => ⟨rfl, trivial⟩) (fun g3 => Pu.toOT Pu.move) (fun _ _ => ⟨rfl, rfl, ⟨rfl, trivial⟩⟩)
    · exact OpOK.of (fun g3 => [(.tmp 0, BP β_0 0)]) _ _ (fun g3 _ => g3) rfl rfl (fun _ => ⟨rfl, trivial⟩) (fun g3 => Pu.toOT Pu.move) (fun _ _ => ⟨rfl, rfl, ⟨rfl, trivial⟩⟩)
    · exact OpOK.of (fun g3 => [(.tmp 36, BP β_0 0)]) _ _ (fun g3 _ => g3) rfl rfl (fun _ => ⟨rfl, trivial⟩) (fun g3 => Pu.toOT Pu.nilCheck) (fun _ _ => ⟨rfl, rfl, ⟨rfl, trivial⟩⟩)
    · exact OpOK.of (fun g3 => [(.tmp 37, BP β_0 0)]) _ _ (fun g3 _ => g3) rfl rfl (fun _ => ⟨rfl, trivial⟩) (fun g3 => Pu.toOT (Pu.fieldB fo144_0 rfl)) (fun _ _ => ⟨rfl, rfl, ⟨rfl, trivial⟩⟩)
    · exact OpOK.of (fun g3 => [(.tmp 38, BP β_0 0)]) _ _ (fun g3 _ => g3) rfl rfl (fun _ => ⟨rfl, trivial⟩) (fun g3 => OT.loadB sc22 rfl) (fun _ _ => ⟨rfl, rfl, ⟨rfl, trivial⟩⟩)
    · exact OpOK.of (fun g3 => [(.tmp 0, BP β_0 0)]) _ _ (fun g3 _ => g3) rfl rfl (fun _ => ⟨rfl, trivial⟩) (fun g3 => Pu.toOT Pu.move) (fun _ _ => ⟨rfl, rfl, ⟨rfl, trivial⟩⟩)
    · exact OpOK.of (fun g3 => [(.tmp 40, BP β_0 0)]) _ _ (fun g3 _ => g3) rfl rfl (fun _ => ⟨rfl, trivial⟩) (fun g3 => Pu.toOT Pu.nilCheck) (fun _ _ => ⟨rfl, rfl, ⟨rfl, trivial⟩⟩)
    · exact OpOK.of (fun g3 => [(.tmp 41, BP β_0 0)]) _ _ (fun g3 _ => g3) rfl rfl (fun _ => ⟨rfl, trivial⟩) (fun g3 => Pu.toOT (Pu.fieldB fo144_1 rfl)) (fun _ _ => ⟨rfl, rfl, ⟨rfl, trivial⟩⟩)
    · exact OpOK.of (fun g3 => [(.tmp 42, BP β_0 1)]) _ _ (fun g3 _ => g3) rfl rfl (fun _ => ⟨rfl, trivial⟩) (fun g3 => OT.loadB sc3 rfl) (fun _ _ => ⟨rfl, rfl, ⟨rfl, trivial⟩⟩)
    · exact OpOK.of (fun g3 => [(.tmp 39, .slice a_0 (List.length p0.b) c_0), (.tmp 43, .int .i64 p0.i)]) _ _ (fun g3 _ => g3) rfl rfl (fun _ => ⟨rfl, rfl, trivial⟩) (fun g3 => OT.indexB ul22 sz5 hb_0 h4) (fun _ _ => ⟨rfl, rfl, ⟨rfl, trivial⟩⟩)
    · exact OpOK.of (fun g3 => [(.tmp 44, EP a_0 p0.i 1 0)]) _ _ (fun g3 _ => g3) rfl rfl (fun _ => ⟨rfl, trivial⟩) (fun g3 => OT.loadF sc5 hb_0 h4 rfl) (fun _ _ => ⟨rfl, rfl, ⟨rfl, trivial⟩⟩)
    · exact OpOK.of (fun g3 => [(.tmp 45, .int .u8 (gt p0.b p0.i))]) _ _ (fun g3 _ => g3) rfl rfl (fun _ => ⟨rfl, trivial⟩) (fun g3 => Pu.toOT (Pu.conv ul5 ul3)) (fun _ _ => ⟨rfl, rfl, ⟨rfl, trivial⟩⟩)
    refine HQ.keep [(0, _), (2, _), (3, _), (35, _), (46, _)] ⟨rfl, rfl, rfl, rfl, rfl, trivial⟩ ?_
    refine HQ.keepR [(1, _)] ⟨rfl, trivial⟩ rfl ?_
    refine HQ.pu Pu.add ⟨rfl, rfl, trivial⟩ rfl rfl rfl ?_
    refine HQ.pu Pu.and ⟨rfl, rfl, trivial⟩ rfl rfl rfl ?_
    refine HQ.pu Pu.assign ⟨rfl, trivial⟩ rfl rfl rfl ?_
    refine HQ.done ?_
    refine HQ.keep [(0, _), (2, _), (3, _)] ⟨rfl, rfl, rfl, trivial⟩ ?_
    refine HQ.region ?_
    refine HQ.pu Pu.move ⟨rfl, trivial⟩ rfl rfl rfl ?_
    refine HQ.pu Pu.move ⟨rfl, trivial⟩ rfl rfl rfl ?_
    refine HQ.pu Pu.nilCheck ⟨rfl, trivial⟩ rfl rfl rfl ?_
    refine HQ.pu (Pu.fieldB fo144_1 rfl) ⟨rfl, trivial⟩ rfl rfl rfl ?_
    refine HQ.op [1] [1] (OT.loadB sc3 rfl) ⟨rfl, trivial⟩ ⟨rfl, trivial⟩ rfl rfl rfl rfl (fun _ => rfl) fun _ => ?_
    refine HQ.pu Pu.add ⟨rfl, rfl, trivial⟩ rfl rfl rfl ?_
    refine HQ.pu Pu.nilCheck ⟨rfl, trivial⟩ rfl rfl rfl ?_
    refine HQ.pu (Pu.fieldB fo144_1 rfl) ⟨rfl, trivial⟩ rfl rfl rfl ?_
    refine HQ.opN [1] [1] [] (OT.storeC (cs' := [.slice a_0 (List.length p0.b) c_0, .int .i64 (wrap64 (p0.i + 1)), .int .i64 (wrap64 ((wrap64 (p0.h * 6364136223846793005)) + 1442695040888963407))]) sz3 rfl rfl rfl rfl rfl) ⟨rfl, rfl, trivial⟩ ⟨rfl, trivial⟩ rfl rfl rfl (fun _ => rfl) fun _ => ?_
    refine HQ.done ?_
    refine HQ.keep [(2, _), (3, _)] ⟨rfl, rfl, trivial⟩ ?_
    refine HQ.rseq ?_
    refine HQ.pu Pu.move ⟨rfl, trivial⟩ rfl rfl rfl ?_
    refine HQ.pu Pu.assign ⟨rfl, trivial⟩ rfl rfl rfl ?_
    refine HQ.done ?_
    refine HQ.keep [(2, _)] ⟨rfl, trivial⟩ ?_
    refine HQ.ret ?_
    obtain rfl := Option.some.inj H
    exact HQ.fin (vs := [_]) Try.results123 () ⟨rfl, trivial⟩ rfl [1] ⟨rfl, trivial⟩ rfl
  · refine HQ.condF rfl hc ?_
    clear hc
    refine HQ.skipThen ?_
    refine HQ.rseq ?_
    refine HQ.pu Pu.move ⟨rfl, trivial⟩ rfl rfl rfl ?_
    refine HQ.pu Pu.assign ⟨rfl, trivial⟩ rfl rfl rfl ?_
    refine HQ.done ?_
    refine HQ.keep [(2, _)] ⟨rfl, trivial⟩ ?_
    refine HQ.ret ?_
    obtain rfl := Option.some.inj H
    exact HQ.fin (vs := [_]) Try.results123 () ⟨rfl, trivial⟩ rfl [1] ⟨rfl, trivial⟩ rfl

/-! spec.l1Below -/
theorem spec_l1Below_c {w : World} {p0 : TCur} {p1 : Int} {β_0 : Nat} {a_0 : Option Addr} {c_0 : Nat} {F0 : Fp} (hs0 : Sat [Box β_0 [.slice a_0 (List.length p0.b) c_0, .int .i64 p0.i, .int .i64 p0.h]] w.heap F0) (hF0 : ∀ b, F0 b → b < w.heap.size) (hb_0 : BorS kU8 a_0 c_0 p0.b w.heap (Lt w F0)) {r : Int × TCur} (H : spec_l1Below p0 p1 = some r) :
    Calls Try.prog 86 #[BP β_0 0, .int .i64 p1] w (Rt w F0 (fun _ : Unit => .int .i64 r.1) (fun _ => [Box β_0 [.slice a_0 (List.length p0.b) c_0, .int .i64 r.2.i, .int .i64 r.2.h]])) := by
  rw [spec_l1Below] at H
  refine Calls.enter (N := 31) (us := [_, _]) (F0 := F0) (Γ0 := [(1, Box β_0 [.slice a_0 (List.length p0.b) c_0, .int .i64 p0.i, .int .i64 p0.h])]) Try.func86 rfl rfl rfl hs0 hF0 ?_
  refine HQ.rseq ?_
  refine HQ.pu Pu.assign ⟨rfl, trivial⟩ rfl rfl rfl ?_
  refine HQ.done ?_
  refine HQ.keep [(0, _), (1, _), (4, _)] ⟨rfl, rfl, rfl, trivial⟩ ?_
  refine HQ.seq ?_
  refine HQ.rseq ?_
  refine HQ.pu Pu.move ⟨rfl, trivial⟩ rfl rfl rfl ?_
  refine HQ.pu Pu.leq ⟨rfl, rfl, trivial⟩ rfl rfl rfl ?_
  refine HQ.done ?_
  refine HQ.keep [(0, _), (1, _), (4, _), (9, _)] ⟨rfl, rfl, rfl, rfl, trivial⟩ ?_
  rcases brk H with ⟨hc, H⟩ | ⟨hc, H⟩
  · refine HQ.condT rfl hc ?_
    clear hc
    refine HQ.rseq ?_
    refine HQ.pu Pu.assign ⟨rfl, trivial⟩ rfl rfl rfl ?_
    refine HQ.done ?_
    refine HQ.keep [(0, _), (1, _), (4, _)] ⟨rfl, rfl, rfl, trivial⟩ ?_
    refine HQ.ret ?_
    refine HQ.thenR ?_
    obtain rfl := Option.some.inj H
    exact HQ.fin (vs := [_]) Try.results86 () ⟨rfl, trivial⟩ rfl [1] ⟨rfl, trivial⟩ rfl
  · refine HQ.condF rfl hc ?_
    clear hc
    refine HQ.skipThen ?_
    refine HQ.seq ?_
    refine HQ.rseq ?_
    refine HQ.pu Pu.move ⟨rfl, trivial⟩ rfl rfl rfl ?_
    refine HQ.pu Pu.leq ⟨rfl, rfl, trivial⟩ rfl rfl rfl ?_
    refine HQ.done ?_
    refine HQ.keep [(0, _), (1, _), (4, _), (11, _)] ⟨rfl, rfl, rfl, rfl, trivial⟩ ?_
    rcases brk H with ⟨hc, H⟩ | ⟨hc, H⟩
    · refine HQ.condT rfl hc ?_
      clear hc
      refine HQ.rseq ?_
      refine HQ.pu Pu.move ⟨rfl, trivial⟩ rfl rfl rfl ?_
      obtain ⟨t1, h2, H⟩ := bnd H
      refine HQ.op [1] [1] (OT.callM (us := [_]) (PreX := [Box β_0 [.slice a_0 (List.length p0.b) c_0, .int .i64 p0.i, .int .i64 p0.h]]) (PreL := []) [.tmp 12] Try.call123 rfl rfl fun w FX FL hs1 hF1 hs2 hF2 hp => spec_l1Byte_c (p0 := p0) hs1 hF1 (hb_0.passY hp) h2) ⟨rfl, rfl, trivial⟩ ⟨rfl, trivial⟩ rfl rfl rfl rfl (fun _ => rfl) fun _ => ?_
      refine HQ.pu Pu.move ⟨rfl, trivial⟩ rfl rfl rfl ?_
      obtain ⟨h3, H⟩ := asr H
      refine HQ.pu (Pu.rem h3) ⟨rfl, rfl, trivial⟩ rfl rfl rfl ?_
      refine HQ.pu Pu.assign ⟨rfl, trivial⟩ rfl rfl rfl ?_
      refine HQ.done ?_
      refine HQ.keep [(0, _), (1, _), (4, _)] ⟨rfl, rfl, rfl, trivial⟩ ?_
      refine HQ.ret ?_
      refine HQ.thenR ?_
      obtain rfl := Option.some.inj H
      exact HQ.fin (vs := [_]) Try.results86 () ⟨rfl, trivial⟩ rfl [1] ⟨rfl, trivial⟩ rfl
    · refine HQ.condF rfl hc ?_
      clear hc
      refine HQ.skipThen ?_
      refine HQ.rseq ?_
      refine HQ.pu Pu.move ⟨rfl, trivial⟩ rfl rfl rfl ?_
      obtain ⟨t4, h5, H⟩ := bnd H
      refine HQ.op [1] [1] (OT.callM (us := [_]) (PreX := [Box β_0 [.slice a_0 (List.length p0.b) c_0, .int .i64 p0.i, .int .i64 p0.h]]) (PreL := []) [.tmp 16] Try.call123 rfl rfl fun w FX FL hs1 hF1 hs2 hF2 hp => spec_l1Byte_c (p0 := p0) hs1 hF1 (hb_0.passY hp) h5) ⟨rfl, rfl, trivial⟩ ⟨rfl, trivial⟩ rfl rfl rfl rfl (fun _ => rfl) fun _ => ?_
      refine HQ.pu Pu.assign ⟨rfl, trivial⟩ rfl rfl rfl ?_
      refine HQ.done ?_
      refine HQ.keep [(0, _), (1, _), (4, _), (5, _)] ⟨rfl, rfl, rfl, rfl, trivial⟩ ?_
      refine HQ.rseq ?_
      refine HQ.pu Pu.move ⟨rfl, trivial⟩ rfl rfl rfl ?_
      obtain ⟨t6, h7, H⟩ := bnd H
      refine HQ.op [1] [1] (OT.callM (us := [_]) (PreX := [Box β_0 [.slice a_0 (List.length p0.b) c_0, .int .i64 t4.2.i, .int .i64 t4.2.h]]) (PreL := []) [.tmp 18] Try.call123 rfl rfl fun w FX FL hs1 hF1 hs2 hF2 hp => spec_l1Byte_c (p0 := (⟨p0.b, t4.2.i, t4.2.h⟩ : TCur)) hs1 hF1 (hb_0.passY hp) h7) ⟨rfl, rfl, trivial⟩ ⟨rfl, trivial⟩ rfl rfl rfl rfl (fun _ => rfl) fun _ => ?_
      refine HQ.pu Pu.assign ⟨rfl, trivial⟩ rfl rfl rfl ?_
      refine HQ.done ?_
      refine HQ.keep [(0, _), (1, _), (4, _), (5, _), (6, _)] ⟨rfl, rfl, rfl, rfl, rfl, trivial⟩ ?_
      refine HQ.rseq ?_
      refine HQ.pu Pu.move ⟨rfl, trivial⟩ rfl rfl rfl ?_
      obtain ⟨t8, h9, H⟩ := bnd H
      refine HQ.op [1] [1] (OT.callM (us := [_]) (PreX := [Box β_0 [.slice a_0 (List.length p0.b) c_0, .int .i64 t6.2.i, .int .i64 t6.2.h]]) (PreL := []) [.tmp 20] Try.call123 rfl rfl fun w FX FL hs1 hF1 hs2 hF2 hp => spec_l1Byte_c (p0 := (⟨p0.b, t6.2.i, t6.2.h⟩ : TCur)) hs1 hF1 (hb_0.passY hp) h9) ⟨rfl, rfl, trivial⟩ ⟨rfl, trivial⟩ rfl rfl rfl rfl (fun _ => rfl) fun _ => ?_
      refine HQ.pu Pu.assign ⟨rfl, trivial⟩ rfl rfl rfl ?_
      refine HQ.done ?_
      refine HQ.keep [(1, _), (4, _), (5, _), (6, _), (7, _)] ⟨rfl, rfl, rfl, rfl, rfl, trivial⟩ ?_
      refine HQ.rseq ?_
      refine HQ.pu Pu.move ⟨rfl, trivial⟩ rfl rfl rfl ?_
      refine HQ.pu Pu.mul ⟨rfl, rfl, trivial⟩ rfl rfl rfl ?_
      refine HQ.pu Pu.move ⟨rfl, trivial⟩ rfl rfl rfl ?_
      refine HQ.pu Pu.mul ⟨rfl, rfl, trivial⟩ rfl rfl rfl ?_
      refine HQ.pu Pu.add ⟨rfl, rfl, trivial⟩ rfl rfl rfl ?_
      refine HQ.pu Pu.move ⟨rfl, trivial⟩ rfl rfl rfl ?_
      refine HQ.pu Pu.add ⟨rfl, rfl, trivial⟩ rfl rfl rfl ?_
      refine HQ.pu Pu.move ⟨rfl, trivial⟩ rfl rfl rfl ?_
      obtain ⟨h10, H⟩ := asr H
      refine HQ.pu (Pu.rem h10) ⟨rfl, rfl, trivial⟩ rfl rfl rfl ?_
      refine HQ.pu Pu.assign ⟨rfl, trivial⟩ rfl rfl rfl ?_
      refine HQ.done ?_
      refine HQ.keep [(4, _)] ⟨rfl, trivial⟩ ?_
      refine HQ.ret ?_
      obtain rfl := Option.some.inj H
      exact HQ.fin (vs := [_]) Try.results86 () ⟨rfl, trivial⟩ rfl [1] ⟨rfl, trivial⟩ rfl

/-! spec.l1Once -/
theorem spec_l1Once_c {w : World} {p0 : TCur} {p1 : Int} {β_0 : Nat} {a_0 : Option Addr} {c_0 : Nat} {F0 : Fp} (hs0 : Sat [Box β_0 [.slice a_0 (List.length p0.b) c_0, .int .i64 p0.i, .int .i64 p0.h]] w.heap F0) (hF0 : ∀ b, F0 b → b < w.heap.size) (hb_0 : BorS kU8 a_0 c_0 p0.b w.heap (Lt w F0)) {r : Bool × TCur} (H : spec_l1Once p0 p1 = some r) :
    Calls Try.prog 87 #[BP β_0 0, .int .i64 p1] w (Rt w F0 (fun _ : Unit => .bool r.1) (fun _ => [Box β_0 [.slice a_0 (List.length p0.b) c_0, .int .i64 r.2.i, .int .i64 r.2.h]])) := by
  rw [spec_l1Once] at H
  refine Calls.enter (N := 9) (us := [_, _]) (F0 := F0) (Γ0 := [(1, Box β_0 [.slice a_0 (List.length p0.b) c_0, .int .i64 p0.i, .int .i64 p0.h])]) Try.func87 rfl rfl rfl hs0 hF0 ?_
  refine HQ.rseq ?_
  refine HQ.pu Pu.assign ⟨rfl, trivial⟩ rfl rfl rfl ?_
  refine HQ.done ?_
  refine HQ.keep [(0, _), (1, _), (4, _)] ⟨rfl, rfl, rfl, trivial⟩ ?_
  refine HQ.rseq ?_
  refine HQ.pu Pu.move ⟨rfl, trivial⟩ rfl rfl rfl ?_
  refine HQ.pu Pu.move ⟨rfl, trivial⟩ rfl rfl rfl ?_
  obtain ⟨t1, h2, H⟩ := bnd H
  refine HQ.op [1] [1] (OT.callM (us := [_, _]) (PreX := [Box β_0 [.slice a_0 (List.length p0.b) c_0, .int .i64 p0.i, .int .i64 p0.h]]) (PreL := []) [.tmp 5, .tmp 6] Try.call86 rfl rfl fun w FX FL hs1 hF1 hs2 hF2 hp => spec_l1Below_c (p0 := p0) (p1 := p1) hs1 hF1 (hb_0.passY hp) h2) ⟨rfl, rfl, rfl, trivial⟩ ⟨rfl, trivial⟩ rfl rfl rfl rfl (fun _ => rfl) fun _ => ?_
  refine HQ.pu Pu.eql ⟨rfl, rfl, trivial⟩ rfl rfl rfl ?_
  refine HQ.pu Pu.assign ⟨rfl, trivial⟩ rfl rfl rfl ?_
  refine HQ.done ?_
  refine HQ.keep [(4, _)] ⟨rfl, trivial⟩ ?_
  refine HQ.ret ?_
  obtain rfl := Option.some.inj H
  exact HQ.fin (vs := [_]) Try.results87 () ⟨rfl, trivial⟩ rfl [1] ⟨rfl, trivial⟩ rfl

/-! spec.l18Copy -/
theorem spec_l18Copy_c {w : World} {k : Nat} {p0 : TDisk} {a_0 : Option Addr} {c_0 : Nat} {a_1 : Option Addr} {c_1 : Nat} (hb_0 : BorS kTCell a_0 c_0 p0.Cells w.heap (Lt w Nil)) (hb_1 : BorS kTWet a_1 c_1 p0.Wet w.heap (Lt w Nil)) {r : TDisk} (H : spec_l18Copy k p0 = some r) :
    Calls Try.prog 90 #[.agg #[.slice a_0 (List.length p0.Cells) c_0, .slice a_1 (List.length p0.Wet) c_1, .int .i64 p0.Fuse, .bool p0.Dead]] w (Rt w Nil (fun g : (Option Addr × Nat) × (Option Addr × Nat) => .agg #[.slice g.1.1 (List.length r.Cells) g.1.2, .slice g.2.1 (List.length r.Wet) g.2.2, .int .i64 r.Fuse, .bool r.Dead]) (fun g => [OwnS kTCell g.1.1 g.1.2 r.Cells, OwnS kTWet g.2.1 g.2.2 r.Wet])) := by
  rw [spec_l18Copy] at H
  refine Calls.enter0 (N := 66) (us := [_]) Try.func90 rfl rfl rfl ?_
  refine HQ.rseq ?_
  refine HQ.op [] [1] (OT.box (cs := [.slice a_0 (List.length p0.Cells) c_0, .slice a_1 (List.length p0.Wet) c_1, .int .i64 p0.Fuse, .bool p0.Dead]) rfl) ⟨rfl, trivial⟩ trivial rfl rfl rfl rfl (fun _ => rfl) fun b1 => ?_
  refine HQ.op [] [2] (OT.alloc zc27) trivial trivial rfl rfl rfl rfl (fun _ => rfl) fun b2 => ?_
  refine HQ.done ?_
  refine HQ.keep [(1, _), (2, _)] ⟨rfl, rfl, trivial⟩ ?_
  refine HQ.rseq ?_
  refine HQ.pu (Pu.fieldB fo27_2 rfl) ⟨rfl, trivial⟩ rfl rfl rfl ?_
  refine HQ.op [1] [1] (OT.loadB sc3 rfl) ⟨rfl, trivial⟩ ⟨rfl, trivial⟩ rfl rfl rfl rfl (fun _ => rfl) fun _ => ?_
  refine HQ.pu (Pu.fieldB fo27_3 rfl) ⟨rfl, trivial⟩ rfl rfl rfl ?_
  refine HQ.op [1] [1] (OT.loadB sc4 rfl) ⟨rfl, trivial⟩ ⟨rfl, trivial⟩ rfl rfl rfl rfl (fun _ => rfl) fun _ => ?_
  refine HQ.pu (Pu.build (us := [.int .i64 p0.Fuse, .bool p0.Dead]) (cs := [.slice none 0 0, .slice none 0 0, .int .i64 p0.Fuse, .bool p0.Dead]) [(2, .tmp 7), (3, .tmp 9)] st27 rfl rfl rfl) ⟨rfl, rfl, trivial⟩ rfl rfl rfl ?_
  refine HQ.op [] [3] (OT.alloc zc27) trivial trivial rfl rfl rfl rfl (fun _ => rfl) fun b3 => ?_
  refine HQ.opN [3] [3] [] (OT.storeC (cs' := [.slice none 0 0, .slice none 0 0, .int .i64 p0.Fuse, .bool p0.Dead]) sz27 rfl rfl rfl rfl rfl) ⟨rfl, rfl, trivial⟩ ⟨rfl, trivial⟩ rfl rfl rfl (fun _ => rfl) fun _ => ?_
  refine HQ.done ?_
  refine HQ.keep [(1, _), (2, _), (3, _)] ⟨rfl, rfl, rfl, trivial⟩ ?_
  refine HQ.seq ?_
  refine HQ.rseq ?_
  refine HQ.pu Pu.assign ⟨rfl, trivial⟩ rfl rfl rfl ?_
  refine HQ.done ?_
  refine HQ.keep [(1, _), (2, _), (3, _), (4, _)] ⟨rfl, rfl, rfl, rfl, trivial⟩ ?_
  refine HQ.block ?_
  refine HQ.nil kTCell 7 rfl ?_
  obtain ⟨o71, h149, H⟩ := bnd H
  refine HQ.loop h149 0 (fun (s : Int × (List TCell)) (g : Option Addr × Nat) => match s, g with | (i25, l26), (a27, c28) => [(1, BP b1 0), (2, BP b2 0), (3, BP b3 0), (4, .int .i64 i25)]) (fun (s : Int × (List TCell)) (g : Option Addr × Nat) => match s, g with | (i25, l26), (a27, c28) => [(1, Box b1 [.slice a_0 (List.length p0.Cells) c_0, .slice a_1 (List.length p0.Wet) c_1, .int .i64 p0.Fuse, .bool p0.Dead]), (2, Box b2 [.slice none 0 0, .slice none 0 0, .int .i64 0, .bool false]), (3, Box b3 [.slice a27 (List.length l26) c28, .slice none 0 0, .int .i64 p0.Fuse, .bool p0.Dead]), (7, OwnS kTCell a27 c28 l26)]) (fun _ _ _ => False) (none, 0) ⟨rfl, rfl, rfl, rfl, trivial⟩ ⟨rfl, rfl, rfl, rfl, trivial⟩ rfl ?_ ?_ ?_
  · clear H h149
    rintro ⟨i25, l26⟩ ⟨a27, c28⟩ o H
    rw [spec_l18Copy_b0] at H
    refine HQ.keep [(1, _), (2, _), (3, _), (4, _)] ⟨rfl, rfl, rfl, rfl, trivial⟩ ?_
    refine HQ.keepR [(1, _), (2, _), (3, _), (7, _)] ⟨rfl, rfl, rfl, rfl, trivial⟩ rfl ?_
    refine HQ.seq ?_
    refine HQ.rseq ?_
    refine HQ.pu Pu.move ⟨rfl, trivial⟩ rfl rfl rfl ?_
    refine HQ.pu (Pu.fieldB fo27_0 rfl) ⟨rfl, trivial⟩ rfl rfl rfl ?_
    refine HQ.op [1] [1] (OT.loadB sc24 rfl) ⟨rfl, trivial⟩ ⟨rfl, trivial⟩ rfl rfl rfl rfl (fun _ => rfl) fun _ => ?_
    refine HQ.pu (Pu.len ul24) ⟨rfl, trivial⟩ rfl rfl rfl ?_
    refine HQ.pu Pu.lss ⟨rfl, rfl, trivial⟩ rfl rfl rfl ?_
    refine HQ.done ?_
    refine HQ.keep [(1, _), (2, _), (3, _), (4, _), (15, _)] ⟨rfl, rfl, rfl, rfl, rfl, trivial⟩ ?_
    rcases brk H with ⟨hc, H⟩ | ⟨hc, H⟩
    · refine HQ.condT rfl hc ?_
      clear hc
      refine HQ.skipThen ?_
      refine HQ.seq ?_
      refine HQ.block ?_
      refine HQ.dStart mixd ?_
      obtain ⟨h51, H⟩ := asr H
      obtain ⟨h58, H⟩ := asr H
      obtain ⟨h65, H⟩ := asr H
      obtain ⟨⟨a52, c53⟩, hb54, hn55⟩ := BorS.nest hb_0 h51
      obtain ⟨⟨a59, c60⟩, hb61, hn62⟩ := BorS.nest hb_0 h58
      refine HQ.dPart [(1, BP b1 0), (2, BP b2 0), (3, BP b3 0), (4, .int .i64 i25)] 18 [⟨[], [], []⟩, ⟨[0], [0], [0]⟩, ⟨[], [], []⟩, ⟨[1], [1], [2]⟩, ⟨[], [], []⟩, ⟨[], [], [3, 4]⟩, ⟨[], [], [5]⟩, ⟨[], [], [6]⟩, ⟨[], [2], []⟩, ⟨[], [], []⟩, ⟨[1], [1], [9]⟩, ⟨[], [], []⟩, ⟨[], [], [10, 11]⟩, ⟨[], [], [12]⟩, ⟨[], [], [13]⟩, ⟨[2], [3], [8, 14]⟩, ⟨[], [], [7, 15]⟩, ⟨[3], [4], [16]⟩] [⟨none, none⟩, ⟨none, none⟩, ⟨some 8, some 15⟩, ⟨some 15, some 17⟩, ⟨some 17, none⟩] (fun (g50 : (Option Addr × Nat) × (Option Addr × Nat) × (Option Addr × Nat)) => [BP b3 0, .slice a27 (List.length l26) c28, BP b1 0, .slice a_0 (List.length p0.Cells) c_0, .int .i64 i25, EP a_0 i25 2 0, EP a_0 i25 2 0, .bool ((gt p0.Cells i25).Bad), .slice g50.1.1 (List.length ([] : (List Int))) g50.1.2, BP b1 0, .slice a_0 (List.length p0.Cells) c_0, .int .i64 i25, EP a_0 i25 2 0, EP a_0 i25 2 1, .slice a59 (List.length ((gt p0.Cells i25).B)) c60, .slice g50.2.1.1 (List.length (([] : (List Int)) ++ ((gt p0.Cells i25).B))) g50.2.1.2, .agg #[.bool ((gt p0.Cells i25).Bad), .slice g50.2.1.1 (List.length (([] : (List Int)) ++ ((gt p0.Cells i25).B))) g50.2.1.2], .slice g50.2.2.1 (List.length ([(⟨(gt p0.Cells i25).Bad, (([] : (List Int)) ++ ((gt p0.Cells i25).B))⟩ : TCell)] : (List TCell))) g50.2.2.2]) (fun (g50 : (Option Addr × Nat) × (Option Addr × Nat) × (Option Addr × Nat)) => [Box b3 [.slice a27 (List.length l26) c28, .slice none 0 0, .int .i64 p0.Fuse, .bool p0.Dead], Box b1 [.slice a_0 (List.length p0.Cells) c_0, .slice a_1 (List.length p0.Wet) c_1, .int .i64 p0.Fuse, .bool p0.Dead], OwnS kU8 g50.1.1 g50.1.2 ([] : (List Int)), OwnS kU8 g50.2.1.1 g50.2.1.2 (([] : (List Int)) ++ ((gt p0.Cells i25).B)), OwnS kTCell g50.2.2.1 g50.2.2.2 ([(⟨(gt p0.Cells i25).Bad, (([] : (List Int)) ++ ((gt p0.Cells i25).B))⟩ : TCell)] : (List TCell))]) ((none, 0), (none, 0), (none, 0)) [3, 1] [3, 1, 11] [] ⟨rfl, rfl, rfl, rfl, trivial⟩ ⟨rfl, rfl, trivial⟩ rfl (by kernel_rfl) (by kernel_rfl) (fun _ => rfl) (by kernel_rfl) (fun _ => rfl) rfl ⟨?_, ?_, ?_, ?_, ?_, ?_, ?_, ?_, ?_, ?_, ?_, ?_, ?_, ?_, ?_, ?_, ?_, ?_, trivial⟩ fun g50 => ?_
      · exact OpOK2.of (fun g50 => [(.tmp 3, BP b3 0)]) _ _ (fun g50 _ => g50) rfl rfl (fun _ => ⟨rfl, trivial⟩) (fun g50 => Pu.toOT (Pu.fieldB fo27_0 rfl)) (fun _ _ => ⟨rfl, rfl, ⟨rfl, rfl, rfl, rfl, rfl, trivial⟩⟩)
      · exact OpOK2.of (fun g50 => [(.tmp 18, BP b3 0)]) _ _ (fun g50 _ => g50) rfl rfl (fun _ => ⟨rfl, trivial⟩) (fun g50 => OT.loadB sc24 rfl) (fun _ _ => ⟨rfl, rfl, ⟨rfl, rfl, rfl, rfl, rfl, trivial⟩⟩)
      · exact OpOK2.of (fun g50 => [(.tmp 1, BP b1 0)]) _ _ (fun g50 _ => g50) rfl rfl (fun _ => ⟨rfl, trivial⟩) (fun g50 => Pu.toOT (Pu.fieldB fo27_0 rfl)) (fun _ _ => ⟨rfl, rfl, ⟨rfl, rfl, rfl, rfl, rfl, trivial⟩⟩)
      · exact OpOK2.of (fun g50 => [(.tmp 20, BP b1 0)]) _ _ (fun g50 _ => g50) rfl rfl (fun _ => ⟨rfl, trivial⟩) (fun g50 => OT.loadB sc24 rfl) (fun _ _ => ⟨rfl, rfl, ⟨rfl, rfl, rfl, rfl, rfl, trivial⟩⟩)
      · exact OpOK2.of (fun g50 => [(.tmp 4, .int .i64 i25)]) _ _ (fun g50 _ => g50) rfl rfl (fun _ => ⟨rfl, trivial⟩) (fun g50 => Pu.toOT Pu.move) (fun _ _ => ⟨rfl, rfl, ⟨rfl, rfl, rfl, rfl, rfl, trivial⟩⟩)
      · exact OpOK2.of (fun g50 => [(.tmp 21, .slice a_0 (List.length p0.Cells) c_0), (.tmp 22, .int .i64 i25)]) _ _ (fun g50 _ => g50) rfl rfl (fun _ => ⟨rfl, rfl, trivial⟩) (fun g50 => OT.indexB ul24 sz113 hb_0 h51) (fun _ _ => ⟨rfl, rfl, ⟨rfl, rfl, rfl, rfl, rfl, trivial⟩⟩)
      · exact OpOK2.of (fun g50 => [(.tmp 23, EP a_0 i25 2 0)]) _ _ (fun g50 _ => g50) rfl rfl (fun _ => ⟨rfl, trivial⟩) (fun g50 => Pu.toOT (Pu.fieldE fo113_0 rfl)) (fun _ _ => ⟨rfl, rfl, ⟨rfl, rfl, rfl, rfl, rfl, trivial⟩⟩)
      · exact OpOK2.of (fun g50 => [(.tmp 24, EP a_0 i25 2 0)]) _ _ (fun g50 _ => g50) rfl rfl (fun _ => ⟨rfl, trivial⟩) (fun g50 => OT.loadN (v := .bool ((gt p0.Cells i25).Bad)) sc4 hn55 hlTCell rfl) (fun _ _ => ⟨rfl, rfl, ⟨rfl, rfl, rfl, rfl, rfl, trivial⟩⟩)
      · exact OpOK2.of (fun g50 => []) _ _ (fun g50 x => (x, g50.2.1, g50.2.2)) rfl rfl (fun _ => trivial) (fun g50 => OT.buildF (us := []) (ys := ([] : (List Int))) (enc := (encI .u8)) (hl := fun _ => ⟨rfl, rfl⟩) [] sl22.ul sl22.szE sl22.zc rfl rfl rfl rfl rfl) (fun _ _ => ⟨rfl, rfl, ⟨rfl, rfl, rfl, rfl, rfl, trivial⟩⟩)
      · exact OpOK2.of (fun g50 => [(.tmp 1, BP b1 0)]) _ _ (fun g50 _ => g50) rfl rfl (fun _ => ⟨rfl, trivial⟩) (fun g50 => Pu.toOT (Pu.fieldB fo27_0 rfl)) (fun _ _ => ⟨rfl, rfl, ⟨rfl, rfl, rfl, rfl, rfl, trivial⟩⟩)
      · exact OpOK2.of (fun g50 => [(.tmp 27, BP b1 0)]) _ _ (fun g50 _ => g50) rfl rfl (fun _ => ⟨rfl, trivial⟩) (fun g50 => OT.loadB sc24 rfl) (fun _ _ => ⟨rfl, rfl, ⟨rfl, rfl, rfl, rfl, rfl, trivial⟩⟩)
      · exact OpOK2.of (fun g50 => [(.tmp 4, .int .i64 i25)]) _ _ (fun g50 _ => g50) rfl rfl (fun _ => ⟨rfl, trivial⟩) (fun g50 => Pu.toOT Pu.move) (fun _ _ => ⟨rfl, rfl, ⟨rfl, rfl, rfl, rfl, rfl, trivial⟩⟩)
      · exact OpOK2.of (fun g50 => [(.tmp 28, .slice a_0 (List.length p0.Cells) c_0), (.tmp 29, .int .i64 i25)]) _ _ (fun g50 _ => g50) rfl rfl (fun _ => ⟨rfl, rfl, trivial⟩) (fun g50 => OT.indexB ul24 sz113 hb_0 h58) (fun _ _ => ⟨rfl, rfl, ⟨rfl, rfl, rfl, rfl, rfl, trivial⟩⟩)
      · exact OpOK2.of (fun g50 => [(.tmp 30, EP a_0 i25 2 0)]) _ _ (fun g50 _ => g50) rfl rfl (fun _ => ⟨rfl, trivial⟩) (fun g50 => Pu.toOT (Pu.fieldE fo113_1 rfl)) (fun _ _ => ⟨rfl, rfl, ⟨rfl, rfl, rfl, rfl, rfl, trivial⟩⟩)
      · exact OpOK2.of (fun g50 => [(.tmp 31, EP a_0 i25 2 1)]) _ _ (fun g50 _ => g50) rfl rfl (fun _ => ⟨rfl, trivial⟩) (fun g50 => OT.loadN (v := .slice a59 (List.length ((gt p0.Cells i25).B)) c60) sc22 hn62 hlTCell rfl) (fun _ _ => ⟨rfl, rfl, ⟨rfl, rfl, rfl, rfl, rfl, trivial⟩⟩)
      · exact OpOK2.ofD [16] (by kernel_rfl) (fun g50 => [(.tmp 26, .slice g50.1.1 (List.length ([] : (List Int))) g50.1.2), (.tmp 32, .slice a59 (List.length ((gt p0.Cells i25).B)) c60)]) _ _ (fun g50 x => (g50.1, x, g50.2.2)) rfl rfl (fun _ => ⟨rfl, rfl, trivial⟩) (fun g50 => OT.appendF (enc := (encI .u8)) (hl := fun _ => ⟨rfl, rfl⟩) sl22 ul22 hb61 h65) (fun _ _ => ⟨⟨rfl, rfl, rfl, rfl, rfl, rfl, rfl, rfl, rfl, rfl, rfl, rfl, rfl, rfl, rfl, rfl, trivial, rfl, trivial⟩, rfl, ⟨rfl, rfl, rfl, rfl, rfl, trivial⟩⟩)
      · exact OpOK2.of (fun g50 => [(.tmp 25, .bool ((gt p0.Cells i25).Bad)), (.tmp 33, .slice g50.2.1.1 (List.length (([] : (List Int)) ++ ((gt p0.Cells i25).B))) g50.2.1.2)]) _ _ (fun g50 _ => g50) rfl rfl (fun _ => ⟨rfl, rfl, trivial⟩) (fun g50 => Pu.toOT (Pu.build (us := [.bool ((gt p0.Cells i25).Bad), .slice g50.2.1.1 (List.length (([] : (List Int)) ++ ((gt p0.Cells i25).B))) g50.2.1.2]) (cs := [.bool ((gt p0.Cells i25).Bad), .slice g50.2.1.1 (List.length (([] : (List Int)) ++ ((gt p0.Cells i25).B))) g50.2.1.2]) [(0, .tmp 25), (1, .tmp 33)] st113 rfl rfl rfl)) (fun _ _ => ⟨rfl, rfl, ⟨rfl, rfl, rfl, rfl, rfl, trivial⟩⟩)
      · exact OpOK2.of (fun g50 => [(.tmp 34, .agg #[.bool ((gt p0.Cells i25).Bad), .slice g50.2.1.1 (List.length (([] : (List Int)) ++ ((gt p0.Cells i25).B))) g50.2.1.2])]) _ _ (fun g50 x => (g50.1, g50.2.1, x)) rfl rfl (fun _ => ⟨rfl, trivial⟩) (fun g50 => OT.buildO (u := .agg #[.bool ((gt p0.Cells i25).Bad), .slice g50.2.1.1 (List.length (([] : (List Int)) ++ ((gt p0.Cells i25).B))) g50.2.1.2]) (enc := encTCell) (hl := hlTCell) (sub := fun (x : TCell) => x.B) (.tmp 34) (⟨(gt p0.Cells i25).Bad, (([] : (List Int)) ++ ((gt p0.Cells i25).B))⟩ : TCell) sl24.ul sl24.szE sl24.zc rfl rfl rfl rfl) (fun _ _ => ⟨rfl, rfl, ⟨rfl, rfl, rfl, rfl, rfl, trivial⟩⟩)
      refine HQ.keep [(1, _), (2, _), (3, _), (4, _), (19, _), (35, _)] ⟨rfl, rfl, rfl, rfl, rfl, rfl, trivial⟩ ?_
      refine HQ.keepR [(1, _), (2, _), (3, _), (7, _), (11, _)] ⟨rfl, rfl, rfl, rfl, rfl, trivial⟩ rfl ?_
      refine HQ.dRun 3 rfl rfl (by kernel_rfl) (by kernel_rfl) ?_
      obtain ⟨h70, H⟩ := asr H
      refine HQ.opD [7, 11] [7] [11] (OT.appendO (K := kTCell) sl24 ul24 h70) ⟨rfl, rfl, trivial⟩ ⟨rfl, rfl, trivial⟩ rfl rfl rfl rfl (fun _ => rfl) fun ⟨a68, c69⟩ => ?_
      refine HQ.pu (Pu.fieldB fo27_0 rfl) ⟨rfl, trivial⟩ rfl rfl rfl ?_
      refine HQ.opN [3] [3] [] (OT.storeC (cs' := [.slice a68 (List.length (l26 ++ ([(⟨(gt p0.Cells i25).Bad, (([] : (List Int)) ++ ((gt p0.Cells i25).B))⟩ : TCell)] : (List TCell)))) c69, .slice none 0 0, .int .i64 p0.Fuse, .bool p0.Dead]) sz24 rfl rfl rfl rfl rfl) ⟨rfl, rfl, trivial⟩ ⟨rfl, trivial⟩ rfl rfl rfl (fun _ => rfl) fun _ => ?_
      refine HQ.done ?_
      refine HQ.dEnd rfl ?_
      refine HQ.keep [(1, _), (2, _), (3, _), (4, _)] ⟨rfl, rfl, rfl, rfl, trivial⟩ ?_
      refine HQ.blkN ?_
      refine HQ.thenN ?_
      refine HQ.regionQ ?_
      refine HQ.pu Pu.move ⟨rfl, trivial⟩ rfl rfl rfl ?_
      refine HQ.pu Pu.add ⟨rfl, rfl, trivial⟩ rfl rfl rfl ?_
      refine HQ.pu Pu.assign ⟨rfl, trivial⟩ rfl rfl rfl ?_
      refine HQ.done ?_
      refine HQ.keep [(1, _), (2, _), (3, _), (4, _)] ⟨rfl, rfl, rfl, rfl, trivial⟩ ?_
      obtain rfl := Option.some.inj H
      exact HQ.next (a68, c69) ⟨rfl, rfl, rfl, rfl, trivial⟩ ⟨rfl, rfl, rfl, rfl, trivial⟩ rfl
    · refine HQ.condF rfl hc ?_
      clear hc
      refine HQ.exit ?_
      refine HQ.thenE ?_
      obtain rfl := Option.some.inj H
      exact HQ.out (a27, c28) ⟨rfl, rfl, rfl, rfl, trivial⟩ ⟨rfl, rfl, rfl, rfl, trivial⟩ rfl
  · rintro ⟨i72, l73⟩ rfl ⟨a74, c75⟩
    clear h149
    replace H := H
    refine HQ.keep [(1, _), (2, _), (3, _), (4, _)] ⟨rfl, rfl, rfl, rfl, trivial⟩ ?_
    refine HQ.keepR [(1, _), (2, _), (3, _), (7, _)] ⟨rfl, rfl, rfl, rfl, trivial⟩ rfl ?_
    refine HQ.blkE ?_
    refine HQ.thenN ?_
    refine HQ.seq ?_
    refine HQ.rseq ?_
    refine HQ.pu Pu.assign ⟨rfl, trivial⟩ rfl rfl rfl ?_
    refine HQ.done ?_
    refine HQ.keep [(1, _), (2, _), (3, _), (5, _)] ⟨rfl, rfl, rfl, rfl, trivial⟩ ?_
    refine HQ.block ?_
    refine HQ.nil kTWet 15 rfl ?_
    obtain ⟨o143, h148, H⟩ := bnd H
    refine HQ.loop h148 2 (fun (s : Int × (List TWet)) (g : Option Addr × Nat) => match s, g with | (i97, l98), (a99, c100) => [(1, BP b1 0), (2, BP b2 0), (3, BP b3 0), (5, .int .i64 i97)]) (fun (s : Int × (List TWet)) (g : Option Addr × Nat) => match s, g with | (i97, l98), (a99, c100) => [(1, Box b1 [.slice a_0 (List.length p0.Cells) c_0, .slice a_1 (List.length p0.Wet) c_1, .int .i64 p0.Fuse, .bool p0.Dead]), (2, Box b2 [.slice none 0 0, .slice none 0 0, .int .i64 0, .bool false]), (3, Box b3 [.slice a74 (List.length l73) c75, .slice a99 (List.length l98) c100, .int .i64 p0.Fuse, .bool p0.Dead]), (7, OwnS kTCell a74 c75 l73), (15, OwnS kTWet a99 c100 l98)]) (fun _ _ _ => False) (none, 0) ⟨rfl, rfl, rfl, rfl, trivial⟩ ⟨rfl, rfl, rfl, rfl, rfl, trivial⟩ rfl ?_ ?_ ?_
    · clear H h148
      rintro ⟨i97, l98⟩ ⟨a99, c100⟩ o H
      rw [spec_l18Copy_b1] at H
      refine HQ.keep [(1, _), (2, _), (3, _), (5, _)] ⟨rfl, rfl, rfl, rfl, trivial⟩ ?_
      refine HQ.keepR [(1, _), (2, _), (3, _), (7, _), (15, _)] ⟨rfl, rfl, rfl, rfl, rfl, trivial⟩ rfl ?_
      refine HQ.seq ?_
      refine HQ.rseq ?_
      refine HQ.pu Pu.move ⟨rfl, trivial⟩ rfl rfl rfl ?_
      refine HQ.pu (Pu.fieldB fo27_1 rfl) ⟨rfl, trivial⟩ rfl rfl rfl ?_
      refine HQ.op [1] [1] (OT.loadB sc25 rfl) ⟨rfl, trivial⟩ ⟨rfl, trivial⟩ rfl rfl rfl rfl (fun _ => rfl) fun _ => ?_
      refine HQ.pu (Pu.len ul25) ⟨rfl, trivial⟩ rfl rfl rfl ?_
      refine HQ.pu Pu.lss ⟨rfl, rfl, trivial⟩ rfl rfl rfl ?_
      refine HQ.done ?_
      refine HQ.keep [(1, _), (2, _), (3, _), (5, _), (42, _)] ⟨rfl, rfl, rfl, rfl, rfl, trivial⟩ ?_
      rcases brk H with ⟨hc, H⟩ | ⟨hc, H⟩
      · refine HQ.condT rfl hc ?_
        clear hc
        refine HQ.skipThen ?_
        refine HQ.seq ?_
        refine HQ.block ?_
        refine HQ.dStart mixd ?_
        obtain ⟨h123, H⟩ := asr H
        obtain ⟨h130, H⟩ := asr H
        obtain ⟨h137, H⟩ := asr H
        obtain ⟨⟨a124, c125⟩, hb126, hn127⟩ := BorS.nest hb_1 h123
        obtain ⟨⟨a131, c132⟩, hb133, hn134⟩ := BorS.nest hb_1 h130
        refine HQ.dPart [(1, BP b1 0), (2, BP b2 0), (3, BP b3 0), (5, .int .i64 i97)] 18 [⟨[], [], []⟩, ⟨[0], [0], [0]⟩, ⟨[], [], []⟩, ⟨[1], [1], [2]⟩, ⟨[], [], []⟩, ⟨[], [], [3, 4]⟩, ⟨[], [], [5]⟩, ⟨[], [], [6]⟩, ⟨[], [2], []⟩, ⟨[], [], []⟩, ⟨[1], [1], [9]⟩, ⟨[], [], []⟩, ⟨[], [], [10, 11]⟩, ⟨[], [], [12]⟩, ⟨[], [], [13]⟩, ⟨[2], [3], [8, 14]⟩, ⟨[], [], [7, 15]⟩, ⟨[3], [4], [16]⟩] [⟨none, none⟩, ⟨none, none⟩, ⟨some 8, some 15⟩, ⟨some 15, some 17⟩, ⟨some 17, none⟩] (fun (g122 : (Option Addr × Nat) × (Option Addr × Nat) × (Option Addr × Nat)) => [BP b3 1, .slice a99 (List.length l98) c100, BP b1 1, .slice a_1 (List.length p0.Wet) c_1, .int .i64 i97, EP a_1 i97 2 0, EP a_1 i97 2 0, .int .i64 ((gt p0.Wet i97).At), .slice g122.1.1 (List.length ([] : (List Int))) g122.1.2, BP b1 1, .slice a_1 (List.length p0.Wet) c_1, .int .i64 i97, EP a_1 i97 2 0, EP a_1 i97 2 1, .slice a131 (List.length ((gt p0.Wet i97).B)) c132, .slice g122.2.1.1 (List.length (([] : (List Int)) ++ ((gt p0.Wet i97).B))) g122.2.1.2, .agg #[.int .i64 ((gt p0.Wet i97).At), .slice g122.2.1.1 (List.length (([] : (List Int)) ++ ((gt p0.Wet i97).B))) g122.2.1.2], .slice g122.2.2.1 (List.length ([(⟨(gt p0.Wet i97).At, (([] : (List Int)) ++ ((gt p0.Wet i97).B))⟩ : TWet)] : (List TWet))) g122.2.2.2]) (fun (g122 : (Option Addr × Nat) × (Option Addr × Nat) × (Option Addr × Nat)) => [Box b3 [.slice a74 (List.length l73) c75, .slice a99 (List.length l98) c100, .int .i64 p0.Fuse, .bool p0.Dead], Box b1 [.slice a_0 (List.length p0.Cells) c_0, .slice a_1 (List.length p0.Wet) c_1, .int .i64 p0.Fuse, .bool p0.Dead], OwnS kU8 g122.1.1 g122.1.2 ([] : (List Int)), OwnS kU8 g122.2.1.1 g122.2.1.2 (([] : (List Int)) ++ ((gt p0.Wet i97).B)), OwnS kTWet g122.2.2.1 g122.2.2.2 ([(⟨(gt p0.Wet i97).At, (([] : (List Int)) ++ ((gt p0.Wet i97).B))⟩ : TWet)] : (List TWet))]) ((none, 0), (none, 0), (none, 0)) [3, 1] [3, 1, 19] [] ⟨rfl, rfl, rfl, rfl, trivial⟩ ⟨rfl, rfl, trivial⟩ rfl (by kernel_rfl) (by kernel_rfl) (fun _ => rfl) (by kernel_rfl) (fun _ => rfl) rfl ⟨?_, ?_, ?_, ?_, ?_, ?_, ?_, ?_, ?_, ?_, ?_, ?_, ?_, ?_, ?_, ?_, ?_, ?_, trivial⟩ fun g122 => ?_
        · exact OpOK2.of (fun g122 => [(.tmp 3, BP b3 0)]) _ _ (fun g122 _ => g122) rfl rfl (fun _ => ⟨rfl, trivial⟩) (fun g122 => Pu.toOT (Pu.fieldB fo27_1 rfl)) (fun _ _ => ⟨rfl, rfl, ⟨rfl, rfl, rfl, rfl, rfl, trivial⟩⟩)
        · exact OpOK2.of (fun g122 => [(.tmp 45, BP b3 1)]) _ _ (fun g122 _ => g122) rfl rfl (fun _ => ⟨rfl, trivial⟩) (fun g122 => OT.loadB sc25 rfl) (fun _ _ => ⟨rfl, rfl, ⟨rfl, rfl, rfl, rfl, rfl, trivial⟩⟩)
        · exact OpOK2.of (fun g122 => [(.tmp 1, BP b1 0)]) _ _ (fun g122 _ => g122) rfl rfl (fun _ => ⟨rfl, trivial⟩) (fun g122 => Pu.toOT (Pu.fieldB fo27_1 rfl)) (fun _ _ => ⟨rfl, rfl, ⟨rfl, rfl, rfl, rfl, rfl, trivial⟩⟩)
        · exact OpOK2.of (fun g122 => [(.tmp 47, BP b1 1)]) _ _ (fun g122 _ => g122) rfl rfl (fun _ => ⟨rfl, trivial⟩) (fun g122 => OT.loadB sc25 rfl) (fun _ _ => ⟨rfl, rfl, ⟨rfl, rfl, rfl, rfl, rfl, trivial⟩⟩)
        · exact OpOK2.of (fun g122 => [(.tmp 5, .int .i64 i97)]) _ _ (fun g122 _ => g122) rfl rfl (fun _ => ⟨rfl, trivial⟩) (fun g122 => Pu.toOT Pu.move) (fun _ _ => ⟨rfl, rfl, ⟨rfl, rfl, rfl, rfl, rfl, trivial⟩⟩)
        · exact OpOK2.of (fun g122 => [(.tmp 48, .slice a_1 (List.length p0.Wet) c_1), (.tmp 49, .int .i64 i97)]) _ _ (fun g122 _ => g122) rfl rfl (fun _ => ⟨rfl, rfl, trivial⟩) (fun g122 => OT.indexB ul25 sz110 hb_1 h123) (fun _ _ => ⟨rfl, rfl, ⟨rfl, rfl, rfl, rfl, rfl, trivial⟩⟩)
        · exact OpOK2.of (fun g122 => [(.tmp 50, EP a_1 i97 2 0)]) _ _ (fun g122 _ => g122) rfl rfl (fun _ => ⟨rfl, trivial⟩) (fun g122 => Pu.toOT (Pu.fieldE fo110_0 rfl)) (fun _ _ => ⟨rfl, rfl, ⟨rfl, rfl, rfl, rfl, rfl, trivial⟩⟩)
        · exact OpOK2.of (fun g122 => [(.tmp 51, EP a_1 i97 2 0)]) _ _ (fun g122 _ => g122) rfl rfl (fun _ => ⟨rfl, trivial⟩) (fun g122 => OT.loadN (v := .int .i64 ((gt p0.Wet i97).At)) sc3 hn127 hlTWet rfl) (fun _ _ => ⟨rfl, rfl, ⟨rfl, rfl, rfl, rfl, rfl, trivial⟩⟩)
        · exact OpOK2.of (fun g122 => []) _ _ (fun g122 x => (x, g122.2.1, g122.2.2)) rfl rfl (fun _ => trivial) (fun g122 => OT.buildF (us := []) (ys := ([] : (List Int))) (enc := (encI .u8)) (hl := fun _ => ⟨rfl, rfl⟩) [] sl22.ul sl22.szE sl22.zc rfl rfl rfl rfl rfl) (fun _ _ => ⟨rfl, rfl, ⟨rfl, rfl, rfl, rfl, rfl, trivial⟩⟩)
        · exact OpOK2.of (fun g122 => [(.tmp 1, BP b1 0)]) _ _ (fun g122 _ => g122) rfl rfl (fun _ => ⟨rfl, trivial⟩) (fun g122 => Pu.toOT (Pu.fieldB fo27_1 rfl)) (fun _ _ => ⟨rfl, rfl, ⟨rfl, rfl, rfl, rfl, rfl, trivial⟩⟩)
        · exact OpOK2.of (fun g122 => [(.tmp 54, BP b1 1)]) _ _ (fun g122 _ => g122) rfl rfl (fun _ => ⟨rfl, trivial⟩) (fun g122 => OT.loadB sc25 rfl) (fun _ _ => ⟨rfl, rfl, ⟨rfl, rfl, rfl, rfl, rfl, trivial⟩⟩)
        · exact OpOK2.of (fun g122 => [(.tmp 5, .int .i64 i97)]) _ _ (fun g122 _ => g122) rfl rfl (fun _ => ⟨rfl, trivial⟩) (fun g122 => Pu.toOT Pu.move) (fun _ _ => ⟨rfl, rfl, ⟨rfl, rfl, rfl, rfl, rfl, trivial⟩⟩)
        · exact OpOK2.of (fun g122 => [(.tmp 55, .slice a_1 (List.length p0.Wet) c_1), (.tmp 56, .int .i64 i97)]) _ _ (fun g122 _ => g122) rfl rfl (fun _ => ⟨rfl, rfl, trivial⟩) (fun g122 => OT.indexB ul25 sz110 hb_1 h130) (fun _ _ => ⟨rfl, rfl, ⟨rfl, rfl, rfl, rfl, rfl, trivial⟩⟩)
        · exact OpOK2.of (fun g122 => [(.tmp 57, EP a_1 i97 2 0)]) _ _ (fun g122 _ => g122) rfl rfl (fun _ => ⟨rfl, trivial⟩) (fun g122 => Pu.toOT (Pu.fieldE fo110_1 rfl)) (fun _ _ => ⟨rfl, rfl, ⟨rfl, rfl, rfl, rfl, rfl, trivial⟩⟩)
        · exact OpOK2.of (fun g122 => [(.tmp 58, EP a_1 i97 2 1)]) _ _ (fun g122 _ => g122) rfl rfl (fun _ => ⟨rfl, trivial⟩) (fun g122 => OT.loadN (v := .slice a131 (List.length ((gt p0.Wet i97).B)) c132) sc22 hn134 hlTWet rfl) (fun _ _ => ⟨rfl, rfl, ⟨rfl, rfl, rfl, rfl, rfl, trivial⟩⟩)
        · exact OpOK2.ofD [16] (by kernel_rfl) (fun g122 => [(.tmp 53, .slice g122.1.1 (List.length ([] : (List Int))) g122.1.2), (.tmp 59, .slice a131 (List.length ((gt p0.Wet i97).B)) c132)]) _ _ (fun g122 x => (g122.1, x, g122.2.2)) rfl rfl (fun _ => ⟨rfl, rfl, trivial⟩) (fun g122 => OT.appendF (enc := (encI .u8)) (hl := fun _ => ⟨rfl, rfl⟩) sl22 ul22 hb133 h137) (fun _ _ => ⟨⟨rfl, rfl, rfl, rfl, rfl, rfl, rfl, rfl, rfl, rfl, rfl, rfl, rfl, rfl, rfl, rfl, trivial, rfl, trivial⟩, rfl, ⟨rfl, rfl, rfl, rfl, rfl, trivial⟩⟩)
        · exact OpOK2.of (fun g122 => [(.tmp 52, .int .i64 ((gt p0.Wet i97).At)), (.tmp 60, .slice g122.2.1.1 (List.length (([] : (List Int)) ++ ((gt p0.Wet i97).B))) g122.2.1.2)]) _ _ (fun g122 _ => g122) rfl rfl (fun _ => ⟨rfl, rfl, trivial⟩) (fun g122 => Pu.toOT (Pu.build (us := [.int .i64 ((gt p0.Wet i97).At), .slice g122.2.1.1 (List.length (([] : (List Int)) ++ ((gt p0.Wet i97).B))) g122.2.1.2]) (cs := [.int .i64 ((gt p0.Wet i97).At), .slice g122.2.1.1 (List.length (([] : (List Int)) ++ ((gt p0.Wet i97).B))) g122.2.1.2]) [(0, .tmp 52), (1, .tmp 60)] st110 rfl rfl rfl)) (fun _ _ => ⟨rfl, rfl, ⟨rfl, rfl, rfl, rfl, rfl, trivial⟩⟩)
        · exact OpOK2.of (fun g122 => [(.tmp 61, .agg #[.int .i64 ((gt p0.Wet i97).At), .slice g122.2.1.1 (List.length (([] : (List Int)) ++ ((gt p0.Wet i97).B))) g122.2.1.2])]) _ _ (fun g122 x => (g122.1, g122.2.1, x)) rfl rfl (fun _ => ⟨rfl, trivial⟩) (fun g122 => OT.buildO (u := .agg #[.int .i64 ((gt p0.Wet i97).At), .slice g122.2.1.1 (List.length (([] : (List Int)) ++ ((gt p0.Wet i97).B))) g122.2.1.2]) (enc := encTWet) (hl := hlTWet) (sub := fun (x : TWet) => x.B) (.tmp 61) (⟨(gt p0.Wet i97).At, (([] : (List Int)) ++ ((gt p0.Wet i97).B))⟩ : TWet) sl25.ul sl25.szE sl25.zc rfl rfl rfl rfl) (fun _ _ => ⟨rfl, rfl, ⟨rfl, rfl, rfl, rfl, rfl, trivial⟩⟩)
        refine HQ.keep [(1, _), (2, _), (3, _), (5, _), (46, _), (62, _)] ⟨rfl, rfl, rfl, rfl, rfl, rfl, trivial⟩ ?_
        refine HQ.keepR [(1, _), (2, _), (3, _), (7, _), (15, _), (19, _)] ⟨rfl, rfl, rfl, rfl, rfl, rfl, trivial⟩ rfl ?_
        refine HQ.dRun 3 rfl rfl (by kernel_rfl) (by kernel_rfl) ?_
        obtain ⟨h142, H⟩ := asr H
        refine HQ.opD [15, 19] [15] [19] (OT.appendO (K := kTWet) sl25 ul25 h142) ⟨rfl, rfl, trivial⟩ ⟨rfl, rfl, trivial⟩ rfl rfl rfl rfl (fun _ => rfl) fun ⟨a140, c141⟩ => ?_
        refine HQ.pu (Pu.fieldB fo27_1 rfl) ⟨rfl, trivial⟩ rfl rfl rfl ?_
        refine HQ.opN [3] [3] [] (OT.storeC (cs' := [.slice a74 (List.length l73) c75, .slice a140 (List.length (l98 ++ ([(⟨(gt p0.Wet i97).At, (([] : (List Int)) ++ ((gt p0.Wet i97).B))⟩ : TWet)] : (List TWet)))) c141, .int .i64 p0.Fuse, .bool p0.Dead]) sz25 rfl rfl rfl rfl rfl) ⟨rfl, rfl, trivial⟩ ⟨rfl, trivial⟩ rfl rfl rfl (fun _ => rfl) fun _ => ?_
        refine HQ.done ?_
        refine HQ.dEnd rfl ?_
        refine HQ.keep [(1, _), (2, _), (3, _), (5, _)] ⟨rfl, rfl, rfl, rfl, trivial⟩ ?_
        refine HQ.blkN ?_
        refine HQ.thenN ?_
        refine HQ.regionQ ?_
        refine HQ.pu Pu.move ⟨rfl, trivial⟩ rfl rfl rfl ?_
        refine HQ.pu Pu.add ⟨rfl, rfl, trivial⟩ rfl rfl rfl ?_
        refine HQ.pu Pu.assign ⟨rfl, trivial⟩ rfl rfl rfl ?_
        refine HQ.done ?_
        refine HQ.keep [(1, _), (2, _), (3, _), (5, _)] ⟨rfl, rfl, rfl, rfl, trivial⟩ ?_
        obtain rfl := Option.some.inj H
        exact HQ.next (a140, c141) ⟨rfl, rfl, rfl, rfl, trivial⟩ ⟨rfl, rfl, rfl, rfl, rfl, trivial⟩ rfl
      · refine HQ.condF rfl hc ?_
        clear hc
        refine HQ.exit ?_
        refine HQ.thenE ?_
        obtain rfl := Option.some.inj H
        exact HQ.out (a99, c100) ⟨rfl, rfl, rfl, rfl, trivial⟩ ⟨rfl, rfl, rfl, rfl, rfl, trivial⟩ rfl
    · rintro ⟨i144, l145⟩ rfl ⟨a146, c147⟩
      clear h148
      replace H := H
      refine HQ.keep [(1, _), (2, _), (3, _), (5, _)] ⟨rfl, rfl, rfl, rfl, trivial⟩ ?_
      refine HQ.keepR [(1, _), (2, _), (3, _), (7, _), (15, _)] ⟨rfl, rfl, rfl, rfl, rfl, trivial⟩ rfl ?_
      refine HQ.blkE ?_
      refine HQ.thenN ?_
      refine HQ.rseq ?_
      refine HQ.op [3] [3] (OT.loadBA (vs := [.slice a74 (List.length l73) c75, .slice a146 (List.length l145) c147, .int .i64 p0.Fuse, .bool p0.Dead]) ag27 sz27 rfl rfl) ⟨rfl, trivial⟩ ⟨rfl, trivial⟩ rfl rfl rfl rfl (fun _ => rfl) fun _ => ?_
      refine HQ.opN [2] [2] [] (OT.storeC (cs' := [.slice a74 (List.length l73) c75, .slice a146 (List.length l145) c147, .int .i64 p0.Fuse, .bool p0.Dead]) sz27 rfl rfl rfl rfl rfl) ⟨rfl, rfl, trivial⟩ ⟨rfl, trivial⟩ rfl rfl rfl (fun _ => rfl) fun _ => ?_
      refine HQ.done ?_
      refine HQ.keep [(2, _)] ⟨rfl, trivial⟩ ?_
      refine HQ.ret ?_
      obtain rfl := Option.some.inj H
      exact HQ.fin (vs := [_]) Try.results90 ((a74, c75), (a146, c147)) ⟨⟨_, _, 2, rfl, rfl, ag27, sz27, rfl⟩, trivial⟩ rfl [7, 15] ⟨rfl, rfl, trivial⟩ rfl
    · exact fun r h a w hf => hf.elim
  · exact fun r h a w hf => hf.elim

end Go.Proofs.Sx
