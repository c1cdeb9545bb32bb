import Derived.Test.YtkhommmhkeohbaaQcF0
import Derived.KernelRfl
namespace Go.Proofs.Sx
open Go.RowKit
set_option linter.unusedVariables false
set_option linter.unusedSimpArgs false
set_option maxRecDepth 20000
set_option maxHeartbeats 1000000
/-! laws.big -/
theorem laws_big_c {w : World} {p0 : (List Int)} {a_0 : Option Addr} {c_0 : Nat}  {r : Bool} (H : laws_big p0 = some r) :
    Calls Try.prog 9 #[.slice a_0 (List.length p0) c_0] w (Rt w Nil (fun _ : Unit => .bool r) (fun _ => [])) := by
  rw [laws_big] at H
  refine Calls.enter0 (N := 6) (us := [_]) Try.func9 rfl rfl rfl ?_
  refine HQ.rseq ?_
  refine HQ.pu Pu.assign ⟨rfl, trivial⟩ rfl rfl rfl ?_
  refine HQ.done ?_
  refine HQ.keep [(0, _), (2, _)] ⟨rfl, rfl, trivial⟩ ?_
  refine HQ.rseq ?_
  refine HQ.pu Pu.move ⟨rfl, trivial⟩ rfl rfl rfl ?_
  refine HQ.pu (Pu.len ul22) ⟨rfl, trivial⟩ rfl rfl rfl ?_
  refine HQ.pu Pu.gtr ⟨rfl, rfl, trivial⟩ rfl rfl rfl ?_
  refine HQ.pu Pu.assign ⟨rfl, trivial⟩ rfl rfl rfl ?_
  refine HQ.done ?_
  refine HQ.keep [(2, _)] ⟨rfl, trivial⟩ ?_
  refine HQ.ret ?_
  obtain rfl := Option.some.inj H
  exact HQ.fin (vs := [_]) Try.results9 () ⟨rfl, trivial⟩ rfl [] trivial rfl

/-! spec.l1New -/
theorem spec_l1New_c {w : World} {k : Nat} {p0 : (List Int)} {a_0 : Option Addr} {c_0 : Nat} (hb_0 : BorS kU8 a_0 c_0 p0 w.heap (Lt w Nil)) {r : TCur} (H : spec_l1New k p0 = some r) :
    Calls Try.prog 77 #[.slice a_0 (List.length p0) c_0] w (Rt w Nil (fun g : Nat => BP g 0) (fun g => [Box g [.slice a_0 (List.length p0) c_0, .int .i64 r.i, .int .i64 r.h]])) := by
  rw [spec_l1New] at H
  refine Calls.enter0 (N := 32) (us := [_]) Try.func77 rfl rfl rfl ?_
  refine HQ.rseq ?_
  refine HQ.pu Pu.assign ⟨rfl, trivial⟩ rfl rfl rfl ?_
  refine HQ.done ?_
  refine HQ.keep [(0, _), (2, _)] ⟨rfl, rfl, trivial⟩ ?_
  refine HQ.rseq ?_
  refine HQ.pu Pu.move ⟨rfl, trivial⟩ rfl rfl rfl ?_
  refine HQ.pu (Pu.len ul22) ⟨rfl, trivial⟩ rfl rfl rfl ?_
  refine HQ.pu Pu.add ⟨rfl, rfl, trivial⟩ rfl rfl rfl ?_
  refine HQ.pu Pu.assign ⟨rfl, trivial⟩ rfl rfl rfl ?_
  refine HQ.done ?_
  refine HQ.keep [(0, _), (2, _), (3, _)] ⟨rfl, rfl, rfl, trivial⟩ ?_
  refine HQ.seq ?_
  refine HQ.rseq ?_
  refine HQ.pu Pu.assign ⟨rfl, trivial⟩ rfl rfl rfl ?_
  refine HQ.done ?_
  refine HQ.keep [(0, _), (2, _), (3, _), (4, _)] ⟨rfl, rfl, rfl, rfl, trivial⟩ ?_
  refine HQ.block ?_
  obtain ⟨o9, h13, H⟩ := bnd H
  refine HQ.loop h13 0 (fun (s : Int × Int) (g : Unit) => match s, g with | (i3, i4), () => [(0, .slice a_0 (List.length p0) c_0), (2, .pointer none), (3, .int .i64 i3), (4, .int .i64 i4)]) (fun (s : Int × Int) (g : Unit) => match s, g with | (i3, i4), () => []) (fun _ _ _ => False) () ⟨rfl, rfl, rfl, rfl, trivial⟩ trivial rfl ?_ ?_ ?_
  · clear H h13
    rintro ⟨i3, i4⟩ _ o H
    rw [spec_l1New_b0] at H
    refine HQ.keep [(0, _), (2, _), (3, _), (4, _)] ⟨rfl, rfl, rfl, rfl, trivial⟩ ?_
    refine HQ.keepR [] trivial rfl ?_
    refine HQ.seq ?_
    refine HQ.rseq ?_
    refine HQ.pu Pu.move ⟨rfl, trivial⟩ rfl rfl rfl ?_
    refine HQ.pu Pu.move ⟨rfl, trivial⟩ rfl rfl rfl ?_
    refine HQ.pu (Pu.len ul22) ⟨rfl, trivial⟩ rfl rfl rfl ?_
    refine HQ.pu Pu.lss ⟨rfl, rfl, trivial⟩ rfl rfl rfl ?_
    refine HQ.pu Pu.move ⟨rfl, trivial⟩ rfl rfl rfl ?_
    refine HQ.cutAt 3 [(15, .bool ((decide (i4 < ((List.length p0 : Nat) : Int))) && (decide (i4 < 4000)))), (0, .slice a_0 (List.length p0) c_0), (2, .pointer none), (3, .int .i64 i3), (4, .int .i64 i4)] [] ?_ ?_
    · rcases Bool.eq_false_or_eq_true (decide (i4 < ((List.length p0 : Nat) : Int))) with hg7 | hg7
      · refine HQ.on rfl rfl hg7 ?_
        refine HQ.pu Pu.move ⟨rfl, trivial⟩ rfl rfl rfl ?_
        refine HQ.on rfl rfl hg7 ?_
        refine HQ.pu Pu.lss ⟨rfl, rfl, trivial⟩ rfl rfl rfl ?_
        refine HQ.pu (Pu.pickAT hg7) ⟨rfl, rfl, trivial⟩ rfl rfl rfl ?_
        exact HQ.mid ⟨rfl, rfl, rfl, rfl, rfl, trivial⟩ trivial rfl
      · refine HQ.off rfl rfl hg7 rfl ?_
        refine HQ.off rfl rfl hg7 rfl ?_
        refine HQ.pu (Pu.pickAF (u := (decide (i4 < 4000))) hg7) ⟨rfl, rfl, trivial⟩ rfl rfl rfl ?_
        exact HQ.mid ⟨rfl, rfl, rfl, rfl, rfl, trivial⟩ trivial rfl
    refine HQ.done ?_
    refine HQ.keep [(15, _), (0, _), (2, _), (3, _), (4, _)] ⟨rfl, rfl, rfl, rfl, rfl, trivial⟩ ?_
    rcases brk H with ⟨hc, H⟩ | ⟨hc, H⟩
    · refine HQ.condT rfl hc ?_
      clear hc
      refine HQ.skipThen ?_
      refine HQ.seq ?_
      refine HQ.block ?_
      refine HQ.regionQ ?_
      refine HQ.pu Pu.move ⟨rfl, trivial⟩ rfl rfl rfl ?_
      refine HQ.pu Pu.mul ⟨rfl, rfl, trivial⟩ rfl rfl rfl ?_
      refine HQ.pu Pu.move ⟨rfl, trivial⟩ rfl rfl rfl ?_
      refine HQ.pu Pu.move ⟨rfl, trivial⟩ rfl rfl rfl ?_
      obtain ⟨h8, H⟩ := asr H
      refine HQ.op [] [] (OT.indexB ul22 sz5 hb_0 h8) ⟨rfl, rfl, trivial⟩ trivial rfl rfl rfl rfl (fun _ => rfl) fun _ => ?_
      refine HQ.op [] [] (OT.loadF sc5 hb_0 h8 rfl) ⟨rfl, trivial⟩ trivial rfl rfl rfl rfl (fun _ => rfl) fun _ => ?_
      refine HQ.pu (Pu.conv ul5 ul3) ⟨rfl, trivial⟩ rfl rfl rfl ?_
      refine HQ.pu Pu.add ⟨rfl, rfl, trivial⟩ rfl rfl rfl ?_
      refine HQ.pu Pu.add ⟨rfl, rfl, trivial⟩ rfl rfl rfl ?_
      refine HQ.pu Pu.and ⟨rfl, rfl, trivial⟩ rfl rfl rfl ?_
      refine HQ.pu Pu.assign ⟨rfl, trivial⟩ rfl rfl rfl ?_
      refine HQ.done ?_
      refine HQ.keep [(0, _), (2, _), (3, _), (4, _)] ⟨rfl, rfl, rfl, rfl, trivial⟩ ?_
      refine HQ.blkN ?_
      refine HQ.thenN ?_
      refine HQ.regionQ ?_
      refine HQ.pu Pu.move ⟨rfl, trivial⟩ rfl rfl rfl ?_
      refine HQ.pu Pu.add ⟨rfl, rfl, trivial⟩ rfl rfl rfl ?_
      refine HQ.pu Pu.assign ⟨rfl, trivial⟩ rfl rfl rfl ?_
      refine HQ.done ?_
      refine HQ.keep [(0, _), (2, _), (3, _), (4, _)] ⟨rfl, rfl, rfl, rfl, trivial⟩ ?_
      obtain rfl := Option.some.inj H
      exact HQ.next () ⟨rfl, rfl, rfl, rfl, trivial⟩ trivial rfl
    · refine HQ.condF rfl hc ?_
      clear hc
      refine HQ.exit ?_
      refine HQ.thenE ?_
      obtain rfl := Option.some.inj H
      exact HQ.out () ⟨rfl, rfl, rfl, rfl, trivial⟩ trivial rfl
  · rintro ⟨i10, i11⟩ rfl _
    clear h13
    replace H := H
    refine HQ.keep [(0, _), (2, _), (3, _), (4, _)] ⟨rfl, rfl, rfl, rfl, trivial⟩ ?_
    refine HQ.keepR [] trivial rfl ?_
    refine HQ.blkE ?_
    refine HQ.thenN ?_
    refine HQ.rseq ?_
    refine HQ.pu Pu.move ⟨rfl, trivial⟩ rfl rfl rfl ?_
    refine HQ.pu Pu.move ⟨rfl, trivial⟩ rfl rfl rfl ?_
    refine HQ.pu (Pu.build (us := [.slice a_0 (List.length p0) c_0, .int .i64 i10]) (cs := [.slice a_0 (List.length p0) c_0, .int .i64 0, .int .i64 i10]) [(0, .tmp 28), (2, .tmp 29)] st144 rfl rfl rfl) ⟨rfl, rfl, trivial⟩ rfl rfl rfl ?_
    refine HQ.op [] [1] (OT.box (cs := [.slice a_0 (List.length p0) c_0, .int .i64 0, .int .i64 i10]) rfl) ⟨rfl, trivial⟩ trivial rfl rfl rfl rfl (fun _ => rfl) fun b12 => ?_
    refine HQ.pu Pu.assign ⟨rfl, trivial⟩ rfl rfl rfl ?_
    refine HQ.done ?_
    refine HQ.keep [(2, _)] ⟨rfl, trivial⟩ ?_
    refine HQ.ret ?_
    obtain rfl := Option.some.inj H
    exact HQ.fin (vs := [_]) Try.results77 b12 ⟨rfl, trivial⟩ rfl [1] ⟨rfl, trivial⟩ rfl
  · exact fun r h a w hf => hf.elim

/-! spec.l1Byte -/
theorem spec_l1Byte_c {w : World} {p0 : TCur} {β_0 : Nat} {a_0 : Option Addr} {c_0 : Nat} {F0 : Fp} (hs0 : Sat [Box β_0 [.slice a_0 (List.length p0.b) c_0, .int .i64 p0.i, .int .i64 p0.h]] w.heap F0) (hF0 : ∀ b, F0 b → b < w.heap.size) (hb_0 : BorS kU8 a_0 c_0 p0.b w.heap (Lt w F0)) {r : Int × TCur} (H : spec_l1Byte p0 = some r) :
    Calls Try.prog 123 #[BP β_0 0] w (Rt w F0 (fun _ : Unit => .int .i64 r.1) (fun _ => [Box β_0 [.slice a_0 (List.length p0.b) c_0, .int .i64 r.2.i, .int .i64 r.2.h]])) := by
  rw [spec_l1Byte] at H
  refine Calls.enter (N := 58) (us := [_]) (F0 := F0) (Γ0 := [(1, Box β_0 [.slice a_0 (List.length p0.b) c_0, .int .i64 p0.i, .int .i64 p0.h])]) Try.func123 rfl rfl rfl hs0 hF0 ?_
  refine HQ.rseq ?_
  refine HQ.pu Pu.assign ⟨rfl, trivial⟩ rfl rfl rfl ?_
  refine HQ.done ?_
  refine HQ.keep [(0, _), (2, _)] ⟨rfl, rfl, trivial⟩ ?_
  refine HQ.rseq ?_
  refine HQ.pu Pu.move ⟨rfl, trivial⟩ rfl rfl rfl ?_
  refine HQ.pu Pu.move ⟨rfl, trivial⟩ rfl rfl rfl ?_
  refine HQ.pu Pu.nilCheck ⟨rfl, trivial⟩ rfl rfl rfl ?_
  refine HQ.pu (Pu.fieldB fo144_2 rfl) ⟨rfl, trivial⟩ rfl rfl rfl ?_
  refine HQ.op [1] [1] (OT.loadB sc3 rfl) ⟨rfl, trivial⟩ ⟨rfl, trivial⟩ rfl rfl rfl rfl (fun _ => rfl) fun _ => ?_
  refine HQ.pu Pu.mul ⟨rfl, rfl, trivial⟩ rfl rfl rfl ?_
  refine HQ.pu Pu.add ⟨rfl, rfl, trivial⟩ rfl rfl rfl ?_
  refine HQ.pu Pu.nilCheck ⟨rfl, trivial⟩ rfl rfl rfl ?_
  refine HQ.pu (Pu.fieldB fo144_2 rfl) ⟨rfl, trivial⟩ rfl rfl rfl ?_
  refine HQ.opN [1] [1] [] (OT.storeC (cs' := [.slice a_0 (List.length p0.b) c_0, .int .i64 p0.i, .int .i64 (wrap64 ((wrap64 (p0.h * 6364136223846793005)) + 1442695040888963407))]) sz3 rfl rfl rfl rfl rfl) ⟨rfl, rfl, trivial⟩ ⟨rfl, trivial⟩ rfl rfl rfl (fun _ => rfl) fun _ => ?_
  refine HQ.done ?_
  refine HQ.keep [(0, _), (2, _)] ⟨rfl, rfl, trivial⟩ ?_
  refine HQ.drawS mixd [(0, BP β_0 0), (2, .int .i64 0)] 10 [⟨[], [], []⟩, ⟨[], [], [0]⟩, ⟨[], [], [1]⟩, ⟨[0], [0], [2]⟩, ⟨[], [], [3]⟩, ⟨[], [], []⟩, ⟨[], [], [5]⟩, ⟨[], [], [6]⟩, ⟨[0], [0], [7]⟩, ⟨[], [], [8]⟩] [⟨none, none⟩] (fun (g1 : Unit) => [BP β_0 0, BP β_0 0, BP β_0 2, .int .i64 (wrap64 ((wrap64 (p0.h * 6364136223846793005)) + 1442695040888963407)), .int .i64 (Int.fdiv (wrap64 ((wrap64 (p0.h * 6364136223846793005)) + 1442695040888963407)) (2 ^ (min (Int.toNat 33) 64))), BP β_0 0, BP β_0 0, BP β_0 2, .int .i64 (wrap64 ((wrap64 (p0.h * 6364136223846793005)) + 1442695040888963407)), .int .i64 (Int.fdiv (wrap64 ((wrap64 (p0.h * 6364136223846793005)) + 1442695040888963407)) (2 ^ (min (Int.toNat 47) 64)))]) (fun (g1 : Unit) => [Box β_0 [.slice a_0 (List.length p0.b) c_0, .int .i64 p0.i, .int .i64 (wrap64 ((wrap64 (p0.h * 6364136223846793005)) + 1442695040888963407))]]) () [1] [1] [] ⟨rfl, rfl, trivial⟩ ⟨rfl, trivial⟩ rfl (by kernel_rfl) (fun _ => rfl) (by kernel_rfl) (fun _ => rfl) ⟨?_, ?_, ?_, ?_, ?_, ?_, ?_, ?_, ?_, ?_, trivial⟩ fun g1 => ?_
  · exact OpOK.of (fun g1 => [(.tmp 0, BP β_0 0)]) _ _ (fun g1 _ => g1) rfl rfl (fun _ => ⟨rfl, trivial⟩) (fun g1 => Pu.toOT Pu.move) (fun _ _ => ⟨rfl, rfl, ⟨rfl, trivial⟩⟩)
  · exact OpOK.of (fun g1 => [(.tmp 13, BP β_0 0)]) _ _ (fun g1 _ => g1) rfl rfl (fun _ => ⟨rfl, trivial⟩) (fun g1 => Pu.toOT Pu.nilCheck) (fun _ _ => ⟨rfl, rfl, ⟨rfl, trivial⟩⟩)
  · exact OpOK.of (fun g1 => [(.tmp 14, BP β_0 0)]) _ _ (fun g1 _ => g1) rfl rfl (fun _ => ⟨rfl, trivial⟩) (fun g1 => Pu.toOT (Pu.fieldB fo144_2 rfl)) (fun _ _ => ⟨rfl, rfl, ⟨rfl, trivial⟩⟩)
  · exact OpOK.of (fun g1 => [(.tmp 15, BP β_0 2)]) _ _ (fun g1 _ => g1) rfl rfl (fun _ => ⟨rfl, trivial⟩) (fun g1 => OT.loadB sc3 rfl) (fun _ _ => ⟨rfl, rfl, ⟨rfl, trivial⟩⟩)
  · exact OpOK.of (fun g1 => [(.tmp 16, .int .i64 (wrap64 ((wrap64 (p0.h * 6364136223846793005)) + 1442695040888963407))), (.const (.int .u64 33), .int .u64 33)]) _ _ (fun g1 _ => g1) rfl rfl (fun _ => ⟨rfl, rfl, trivial⟩) (fun g1 => Pu.toOT (Pu.shr (by decide))) (fun _ _ => ⟨rfl, rfl, ⟨rfl, trivial⟩⟩)
  · exact OpOK.of (fun g1 => [(.tmp 0, BP β_0 0)]) _ _ (fun g1 _ => g1) rfl rfl (fun _ => ⟨rfl, trivial⟩) (fun g1 => Pu.toOT Pu.move) (fun _ _ => ⟨rfl, rfl, ⟨rfl, trivial⟩⟩)
  · exact OpOK.of (fun g1 => [(.tmp 18, BP β_0 0)]) _ _ (fun g1 _ => g1) rfl rfl (fun _ => ⟨rfl, trivial⟩) (fun g1 => Pu.toOT Pu.nilCheck) (fun _ _ => ⟨rfl, rfl, ⟨rfl, trivial⟩⟩)
  · exact OpOK.of (fun g1 => [(.tmp 19, BP β_0 0)]) _ _ (fun g1 _ => g1) rfl rfl (fun _ => ⟨rfl, trivial⟩) (fun g1 => Pu.toOT (Pu.fieldB fo144_2 rfl)) (fun _ _ => ⟨rfl, rfl, ⟨rfl, trivial⟩⟩)
  · exact OpOK.of (fun g1 => [(.tmp 20, BP β_0 2)]) _ _ (fun g1 _ => g1) rfl rfl (fun _ => ⟨rfl, trivial⟩) (fun g1 => OT.loadB sc3 rfl) (fun _ _ => ⟨rfl, rfl, ⟨rfl, trivial⟩⟩)
  · exact OpOK.of (fun g1 => [(.tmp 21, .int .i64 (wrap64 ((wrap64 (p0.h * 6364136223846793005)) + 1442695040888963407))), (.const (.int .u64 47), .int .u64 47)]) _ _ (fun g1 _ => g1) rfl rfl (fun _ => ⟨rfl, rfl, trivial⟩) (fun g1 => Pu.toOT (Pu.shr (by decide))) (fun _ _ => ⟨rfl, rfl, ⟨rfl, trivial⟩⟩)
  refine HQ.keep [(0, _), (2, _), (17, _), (22, _)] ⟨rfl, rfl, rfl, rfl, trivial⟩ ?_
  refine HQ.keepR [(1, _)] ⟨rfl, trivial⟩ rfl ?_
  refine HQ.pu Pu.xor ⟨rfl, rfl, trivial⟩ rfl rfl rfl ?_
  refine HQ.pu Pu.and ⟨rfl, rfl, trivial⟩ rfl rfl rfl ?_
  refine HQ.pu Pu.assign ⟨rfl, trivial⟩ rfl rfl rfl ?_
  refine HQ.done ?_
  refine HQ.keep [(0, _), (2, _), (3, _)] ⟨rfl, rfl, rfl, trivial⟩ ?_
  refine HQ.seq ?_
  refine HQ.drawS mixd [(0, BP β_0 0), (2, .int .i64 0), (3, .int .i64 (bits2 (· &&& ·) (bits2 (· ^^^ ·) (Int.fdiv (wrap64 ((wrap64 (p0.h * 6364136223846793005)) + 1442695040888963407)) (2 ^ (min (Int.toNat 33) 64))) (Int.fdiv (wrap64 ((wrap64 (p0.h * 6364136223846793005)) + 1442695040888963407)) (2 ^ (min (Int.toNat 47) 64)))) 255))] 9 [⟨[], [], []⟩, ⟨[], [], [0]⟩, ⟨[], [], [1]⟩, ⟨[0], [0], [2]⟩, ⟨[], [], []⟩, ⟨[], [], [4]⟩, ⟨[], [], [5]⟩, ⟨[0], [0], [6]⟩, ⟨[], [], [7]⟩] [⟨none, none⟩] (fun (g2 : Unit) => [BP β_0 0, BP β_0 0, BP β_0 1, .int .i64 p0.i, BP β_0 0, BP β_0 0, BP β_0 0, .slice a_0 (List.length p0.b) c_0, .int .i64 ((List.length p0.b : Nat) : Int)]) (fun (g2 : Unit) => [Box β_0 [.slice a_0 (List.length p0.b) c_0, .int .i64 p0.i, .int .i64 (wrap64 ((wrap64 (p0.h * 6364136223846793005)) + 1442695040888963407))]]) () [1] [1] [] ⟨rfl, rfl, rfl, trivial⟩ ⟨rfl, trivial⟩ rfl (by kernel_rfl) (fun _ => rfl) (by kernel_rfl) (fun _ => rfl) ⟨?_, ?_, ?_, ?_, ?_, ?_, ?_, ?_, ?_, trivial⟩ fun g2 => ?_
  · exact OpOK.of (fun g2 => [(.tmp 0, BP β_0 0)]) _ _ (fun g2 _ => g2) rfl rfl (fun _ => ⟨rfl, trivial⟩) (fun g2 => Pu.toOT Pu.move) (fun _ _ => ⟨rfl, rfl, ⟨rfl, trivial⟩⟩)
  · exact OpOK.of (fun g2 => [(.tmp 25, BP β_0 0)]) _ _ (fun g2 _ => g2) rfl rfl (fun _ => ⟨rfl, trivial⟩) (fun g2 => Pu.toOT Pu.nilCheck) (fun _ _ => ⟨rfl, rfl, ⟨rfl, trivial⟩⟩)
  · exact OpOK.of (fun g2 => [(.tmp 26, BP β_0 0)]) _ _ (fun g2 _ => g2) rfl rfl (fun _ => ⟨rfl, trivial⟩) (fun g2 => Pu.toOT (Pu.fieldB fo144_1 rfl)) (fun _ _ => ⟨rfl, rfl, ⟨rfl, trivial⟩⟩)
  · exact OpOK.of (fun g2 => [(.tmp 27, BP β_0 1)]) _ _ (fun g2 _ => g2) rfl rfl (fun _ => ⟨rfl, trivial⟩) (fun g2 => OT.loadB sc3 rfl) (fun _ _ => ⟨rfl, rfl, ⟨rfl, trivial⟩⟩)
  · exact OpOK.of (fun g2 => [(.tmp 0, BP β_0 0)]) _ _ (fun g2 _ => g2) rfl rfl (fun _ => ⟨rfl, trivial⟩) (fun g2 => Pu.toOT Pu.move) (fun _ _ => ⟨rfl, rfl, ⟨rfl, trivial⟩⟩)
  · exact OpOK.of (fun g2 => [(.tmp 29, BP β_0 0)]) _ _ (fun g2 _ => g2) rfl rfl (fun _ => ⟨rfl, trivial⟩) (fun g2 => Pu.toOT Pu.nilCheck) (fun _ _ => ⟨rfl, rfl, ⟨rfl, trivial⟩⟩)
  · exact OpOK.of (fun g2 => [(.tmp 30, BP β_0 0)]) _ _ (fun g2 _ => g2) rfl rfl (fun _ => ⟨rfl, trivial⟩) (fun g2 => Pu.toOT (Pu.fieldB fo144_0 rfl)) (fun _ _ => ⟨rfl, rfl, ⟨rfl, trivial⟩⟩)
  · exact OpOK.of (fun g2 => [(.tmp 31, BP β_0 0)]) _ _ (fun g2 _ => g2) rfl rfl (fun _ => ⟨rfl, trivial⟩) (fun g2 => OT.loadB sc22 rfl) (fun _ _ => ⟨rfl, rfl, ⟨rfl, trivial⟩⟩)
  · exact OpOK.of (fun g2 => [(.tmp 32, .slice a_0 (List.length p0.b) c_0)]) _ _ (fun g2 _ => g2) rfl rfl (fun _ => ⟨rfl, trivial⟩) (fun g2 => Pu.toOT (Pu.len ul22)) (fun _ _ => ⟨rfl, rfl, ⟨rfl, trivial⟩⟩)
  refine HQ.keep [(0, _), (2, _), (3, _), (28, _), (33, _)] ⟨rfl, rfl, rfl, rfl, rfl, trivial⟩ ?_
  refine HQ.keepR [(1, _)] ⟨rfl, trivial⟩ rfl ?_
  refine HQ.pu Pu.lss ⟨rfl, rfl, trivial⟩ rfl rfl rfl ?_
  refine HQ.done ?_
  refine HQ.keep [(0, _), (2, _), (3, _), (34, _)] ⟨rfl, rfl, rfl, rfl, trivial⟩ ?_
  rcases brk H with ⟨hc, H⟩ | ⟨hc, H⟩
  · refine HQ.condT rfl hc ?_
    clear hc
    obtain ⟨h4, H⟩ := asr H
    refine HQ.drawS mixd [(0, BP β_0 0), (2, .int .i64 0), (3, .int .i64 (bits2 (· &&& ·) (bits2 (· ^^^ ·) (Int.fdiv (wrap64 ((wrap64 (p0.h * 6364136223846793005)) + 1442695040888963407)) (2 ^ (min (Int.toNat 33) 64))) (Int.fdiv (wrap64 ((wrap64 (p0.h * 6364136223846793005)) + 1442695040888963407)) (2 ^ (min (Int.toNat 47) 64)))) 255))] 12 [⟨[], [], []⟩, ⟨[], [], []⟩, ⟨[], [], [1]⟩, ⟨[], [], [2]⟩, ⟨[0], [0], [3]⟩, ⟨[], [], []⟩, ⟨[], [], [5]⟩, ⟨[], [], [6]⟩, ⟨[0], [0], [7]⟩, ⟨[], [], [4, 8]⟩, ⟨[], [], [9]⟩, ⟨[], [], [10]⟩] [⟨none, none⟩] (fun (g3 : Unit) => [.int .i64 (bits2 (· &&& ·) (bits2 (· ^^^ ·) (Int.fdiv (wrap64 ((wrap64 (p0.h * 6364136223846793005)) + 1442695040888963407)) (2 ^ (min (Int.toNat 33) 64))) (Int.fdiv (wrap64 ((wrap64 (p0.h * 6364136223846793005)) + 1442695040888963407)) (2 ^ (min (Int.toNat 47) 64)))) 255), BP β_0 0, BP β_0 0, BP β_0 0, .slice a_0 (List.length p0.b) c_0, BP β_0 0, BP β_0 0, BP β_0 1, .int .i64 p0.i, EP a_0 p0.i 1 0, .int .u8 (gt p0.b p0.i), .int .i64 (IntKind.i64.wrap (gt p0.b p0.i))]) (fun (g3 : Unit) => [Box β_0 [.slice a_0 (List.length p0.b) c_0, .int .i64 p0.i, .int .i64 (wrap64 ((wrap64 (p0.h * 6364136223846793005)) + 1442695040888963407))]]) () [1] [1] [] ⟨rfl, rfl, rfl, trivial⟩ ⟨rfl, trivial⟩ rfl (by kernel_rfl) (fun _ => rfl) (by kernel_rfl) (fun _ => rfl) ⟨?_, ?_, ?_, ?_, ?_, ?_, ?_, ?_, ?_, ?_, ?_, ?_, trivial⟩ fun g3 => ?_
    · exact OpOK.of (fun g3 => [(.tmp 3, .int .i64 (bits2 (· &&& ·) (bits2 (· ^^^ ·) (Int.fdiv (wrap64 ((wrap64 (p0.h * 6364136223846793005)) + 1442695040888963407)) (2 ^ (min (Int.toNat 33) 64))) (Int.fdiv (wrap64 ((wrap64 (p0.h * 6364136223846793005)) + 1442695040888963407)) (2 ^ (min (Int.toNat 47) 64)))) 255))]) _ _ (fun g3 _ => g3) rfl rfl (fun _ => ⟨rfl, trivial⟩) (fun g3 => Pu.toOT Pu.move) (fun _ _ => ⟨rfl, rfl, ⟨rfl, trivial⟩⟩)
    · exact OpOK.of (fun g3 => [(.tmp 0, BP β_0 0)]) _ _ (fun g3 _ => g3) rfl rfl (fun _ => ⟨rfl, trivial⟩) (fun g3 => Pu.toOT Pu.move) (fun _ _ => ⟨rfl, rfl, ⟨rfl, trivial⟩⟩)
    · exact OpOK.of (fun g3 => [(.tmp 36, BP β_0 0)]) _ _ (fun g3 _ => g3) rfl rfl (fun _ => ⟨rfl, trivial⟩) (fun g3 => Pu.toOT Pu.nilCheck) (fun _ _ => ⟨rfl, rfl, ⟨rfl, trivial⟩⟩)
    · exact OpOK.of (fun g3 => [(.tmp 37, BP β_0 0)]) _ _ (fun g3 _ => g3) rfl rfl (fun _ => ⟨rfl, trivial⟩) (fun g3 => Pu.toOT (Pu.fieldB fo144_0 rfl)) (fun _ _ => ⟨rfl, rfl, ⟨rfl, trivial⟩⟩)
    · exact OpOK.of (fun g3 => [(.tmp 38, BP β_0 0)]) _ _ (fun g3 _ => g3) rfl rfl (fun _ => ⟨rfl, trivial⟩) (fun g3 => OT.loadB sc22 rfl) (fun _ _ => ⟨rfl, rfl, ⟨rfl, trivial⟩⟩)
    · exact OpOK.of (fun g3 => [(.tmp 0, BP β_0 0)]) _ _ (fun g3 _ => g3) rfl rfl (fun _ => ⟨rfl, trivial⟩) (fun g3 => Pu.toOT Pu.move) (fun _ _ => ⟨rfl, rfl, ⟨rfl, trivial⟩⟩)
    · exact OpOK.of (fun g3 => [(.tmp 40, BP β_0 0)]) _ _ (fun g3 _ => g3) rfl rfl (fun _ => ⟨rfl, trivial⟩) (fun g3 => Pu.toOT Pu.nilCheck) (fun _ _ => ⟨rfl, rfl, ⟨rfl, trivial⟩⟩)
    · exact OpOK.of (fun g3 => [(.tmp 41, BP β_0 0)]) _ _ (fun g3 _ => g3) rfl rfl (fun _ => ⟨rfl, trivial⟩) (fun g3 => Pu.toOT (Pu.fieldB fo144_1 rfl)) (fun _ _ => ⟨rfl, rfl, ⟨rfl, trivial⟩⟩)
    · exact OpOK.of (fun g3 => [(.tmp 42, BP β_0 1)]) _ _ (fun g3 _ => g3) rfl rfl (fun _ => ⟨rfl, trivial⟩) (fun g3 => OT.loadB sc3 rfl) (fun _ _ => ⟨rfl, rfl, ⟨rfl, trivial⟩⟩)
    · exact OpOK.of (fun g3 => [(.tmp 39, .slice a_0 (List.length p0.b) c_0), (.tmp 43, .int .i64 p0.i)]) _ _ (fun g3 _ => g3) rfl rfl (fun _ => ⟨rfl, rfl, trivial⟩) (fun g3 => OT.indexB ul22 sz5 hb_0 h4) (fun _ _ => ⟨rfl, rfl, ⟨rfl, trivial⟩⟩)
    · exact OpOK.of (fun g3 => [(.tmp 44, EP a_0 p0.i 1 0)]) _ _ (fun g3 _ => g3) rfl rfl (fun _ => ⟨rfl, trivial⟩) (fun g3 => OT.loadF sc5 hb_0 h4 rfl) (fun _ _ => ⟨rfl, rfl, ⟨rfl, trivial⟩⟩)
    · exact OpOK.of (fun g3 => [(.tmp 45, .int .u8 (gt p0.b p0.i))]) _ _ (fun g3 _ => g3) rfl rfl (fun _ => ⟨rfl, trivial⟩) (fun g3 => Pu.toOT (Pu.conv ul5 ul3)) (fun _ _ => ⟨rfl, rfl, ⟨rfl, trivial⟩⟩)
    refine HQ.keep [(0, _), (2, _), (3, _), (35, _), (46, _)] ⟨rfl, rfl, rfl, rfl, rfl, trivial⟩ ?_
    refine HQ.keepR [(1, _)] ⟨rfl, trivial⟩ rfl ?_
    refine HQ.pu Pu.add ⟨rfl, rfl, trivial⟩ rfl rfl rfl ?_
    refine HQ.pu Pu.and ⟨rfl, rfl, trivial⟩ rfl rfl rfl ?_
    refine HQ.pu Pu.assign ⟨rfl, trivial⟩ rfl rfl rfl ?_
    refine HQ.done ?_
    refine HQ.keep [(0, _), (2, _), (3, _)] ⟨rfl, rfl, rfl, trivial⟩ ?_
    refine HQ.region ?_
    refine HQ.pu Pu.move ⟨rfl, trivial⟩ rfl rfl rfl ?_
    refine HQ.pu Pu.move ⟨rfl, trivial⟩ rfl rfl rfl ?_
    refine HQ.pu Pu.nilCheck ⟨rfl, trivial⟩ rfl rfl rfl ?_
    refine HQ.pu (Pu.fieldB fo144_1 rfl) ⟨rfl, trivial⟩ rfl rfl rfl ?_
    refine HQ.op [1] [1] (OT.loadB sc3 rfl) ⟨rfl, trivial⟩ ⟨rfl, trivial⟩ rfl rfl rfl rfl (fun _ => rfl) fun _ => ?_
    refine HQ.pu Pu.add ⟨rfl, rfl, trivial⟩ rfl rfl rfl ?_
    refine HQ.pu Pu.nilCheck ⟨rfl, trivial⟩ rfl rfl rfl ?_
    refine HQ.pu (Pu.fieldB fo144_1 rfl) ⟨rfl, trivial⟩ rfl rfl rfl ?_
    refine HQ.opN [1] [1] [] (OT.storeC (cs' := [.slice a_0 (List.length p0.b) c_0, .int .i64 (wrap64 (p0.i + 1)), .int .i64 (wrap64 ((wrap64 (p0.h * 6364136223846793005)) + 1442695040888963407))]) sz3 rfl rfl rfl rfl rfl) ⟨rfl, rfl, trivial⟩ ⟨rfl, trivial⟩ rfl rfl rfl (fun _ => rfl) fun _ => ?_
    refine HQ.done ?_
    refine HQ.keep [(2, _), (3, _)] ⟨rfl, rfl, trivial⟩ ?_
    refine HQ.rseq ?_
    refine HQ.pu Pu.move ⟨rfl, trivial⟩ rfl rfl rfl ?_
    refine HQ.pu Pu.assign ⟨rfl, trivial⟩ rfl rfl rfl ?_
    refine HQ.done ?_
    refine HQ.keep [(2, _)] ⟨rfl, trivial⟩ ?_
    refine HQ.ret ?_
    obtain rfl := Option.some.inj H
    exact HQ.fin (vs := [_]) Try.results123 () ⟨rfl, trivial⟩ rfl [1] ⟨rfl, trivial⟩ rfl
  · refine HQ.condF rfl hc ?_
    clear hc
    refine HQ.skipThen ?_
    refine HQ.rseq ?_
    refine HQ.pu Pu.move ⟨rfl, trivial⟩ rfl rfl rfl ?_
    refine HQ.pu Pu.assign ⟨rfl, trivial⟩ rfl rfl rfl ?_
    refine HQ.done ?_
    refine HQ.keep [(2, _)] ⟨rfl, trivial⟩ ?_
    refine HQ.ret ?_
    obtain rfl := Option.some.inj H
    exact HQ.fin (vs := [_]) Try.results123 () ⟨rfl, trivial⟩ rfl [1] ⟨rfl, trivial⟩ rfl

/-! spec.l1Below -/
theorem spec_l1Below_c {w : World} {p0 : TCur} {p1 : Int} {β_0 : Nat} {a_0 : Option Addr} {c_0 : Nat} {F0 : Fp} (hs0 : Sat [Box β_0 [.slice a_0 (List.length p0.b) c_0, .int .i64 p0.i, .int .i64 p0.h]] w.heap F0) (hF0 : ∀ b, F0 b → b < w.heap.size) (hb_0 : BorS kU8 a_0 c_0 p0.b w.heap (Lt w F0)) {r : Int × TCur} (H : spec_l1Below p0 p1 = some r) :
    Calls Try.prog 86 #[BP β_0 0, .int .i64 p1] w (Rt w F0 (fun _ : Unit => .int .i64 r.1) (fun _ => [Box β_0 [.slice a_0 (List.length p0.b) c_0, .int .i64 r.2.i, .int .i64 r.2.h]])) := by
  rw [spec_l1Below] at H
  refine Calls.enter (N := 31) (us := [_, _]) (F0 := F0) (Γ0 := [(1, Box β_0 [.slice a_0 (List.length p0.b) c_0, .int .i64 p0.i, .int .i64 p0.h])]) Try.func86 rfl rfl rfl hs0 hF0 ?_
  refine HQ.rseq ?_
  refine HQ.pu Pu.assign ⟨rfl, trivial⟩ rfl rfl rfl ?_
  refine HQ.done ?_
  refine HQ.keep [(0, _), (1, _), (4, _)] ⟨rfl, rfl, rfl, trivial⟩ ?_
  refine HQ.seq ?_
  refine HQ.rseq ?_
  refine HQ.pu Pu.move ⟨rfl, trivial⟩ rfl rfl rfl ?_
  refine HQ.pu Pu.leq ⟨rfl, rfl, trivial⟩ rfl rfl rfl ?_
  refine HQ.done ?_
  refine HQ.keep [(0, _), (1, _), (4, _), (9, _)] ⟨rfl, rfl, rfl, rfl, trivial⟩ ?_
  rcases brk H with ⟨hc, H⟩ | ⟨hc, H⟩
  · refine HQ.condT rfl hc ?_
    clear hc
    refine HQ.rseq ?_
    refine HQ.pu Pu.assign ⟨rfl, trivial⟩ rfl rfl rfl ?_
    refine HQ.done ?_
    refine HQ.keep [(0, _), (1, _), (4, _)] ⟨rfl, rfl, rfl, trivial⟩ ?_
    refine HQ.ret ?_
    refine HQ.thenR ?_
    obtain rfl := Option.some.inj H
    exact HQ.fin (vs := [_]) Try.results86 () ⟨rfl, trivial⟩ rfl [1] ⟨rfl, trivial⟩ rfl
  · refine HQ.condF rfl hc ?_
    clear hc
    refine HQ.skipThen ?_
    refine HQ.seq ?_
    refine HQ.rseq ?_
    refine HQ.pu Pu.move ⟨rfl, trivial⟩ rfl rfl rfl ?_
    refine HQ.pu Pu.leq ⟨rfl, rfl, trivial⟩ rfl rfl rfl ?_
    refine HQ.done ?_
    refine HQ.keep [(0, _), (1, _), (4, _), (11, _)] ⟨rfl, rfl, rfl, rfl, trivial⟩ ?_
    rcases brk H with ⟨hc, H⟩ | ⟨hc, H⟩
    · refine HQ.condT rfl hc ?_
      clear hc
      refine HQ.rseq ?_
      refine HQ.pu Pu.move ⟨rfl, trivial⟩ rfl rfl rfl ?_
      obtain ⟨t1, h2, H⟩ := bnd H
      refine HQ.op [1] [1] (OT.callM (us := [_]) (PreX := [Box β_0 [.slice a_0 (List.length p0.b) c_0, .int .i64 p0.i, .int .i64 p0.h]]) (PreL := []) [.tmp 12] Try.call123 rfl rfl fun w FX FL hs1 hF1 hs2 hF2 hp => spec_l1Byte_c (p0 := p0) hs1 hF1 (hb_0.passY hp) h2) ⟨rfl, rfl, trivial⟩ ⟨rfl, trivial⟩ rfl rfl rfl rfl (fun _ => rfl) fun _ => ?_
      refine HQ.pu Pu.move ⟨rfl, trivial⟩ rfl rfl rfl ?_
      obtain ⟨h3, H⟩ := asr H
      refine HQ.pu (Pu.rem h3) ⟨rfl, rfl, trivial⟩ rfl rfl rfl ?_
      refine HQ.pu Pu.assign ⟨rfl, trivial⟩ rfl rfl rfl ?_
      refine HQ.done ?_
      refine HQ.keep [(0, _), (1, _), (4, _)] ⟨rfl, rfl, rfl, trivial⟩ ?_
      refine HQ.ret ?_
      refine HQ.thenR ?_
      obtain rfl := Option.some.inj H
      exact HQ.fin (vs := [_]) Try.results86 () ⟨rfl, trivial⟩ rfl [1] ⟨rfl, trivial⟩ rfl
    · refine HQ.condF rfl hc ?_
      clear hc
      refine HQ.skipThen ?_
      refine HQ.rseq ?_
      refine HQ.pu Pu.move ⟨rfl, trivial⟩ rfl rfl rfl ?_
      obtain ⟨t4, h5, H⟩ := bnd H
      refine HQ.op [1] [1] (OT.callM (us := [_]) (PreX := [Box β_0 [.slice a_0 (List.length p0.b) c_0, .int .i64 p0.i, .int .i64 p0.h]]) (PreL := []) [.tmp 16] Try.call123 rfl rfl fun w FX FL hs1 hF1 hs2 hF2 hp => spec_l1Byte_c (p0 := p0) hs1 hF1 (hb_0.passY hp) h5) ⟨rfl, rfl, trivial⟩ ⟨rfl, trivial⟩ rfl rfl rfl rfl (fun _ => rfl) fun _ => ?_
      refine HQ.pu Pu.assign ⟨rfl, trivial⟩ rfl rfl rfl ?_
      refine HQ.done ?_
      refine HQ.keep [(0, _), (1, _), (4, _), (5, _)] ⟨rfl, rfl, rfl, rfl, trivial⟩ ?_
      refine HQ.rseq ?_
      refine HQ.pu Pu.move ⟨rfl, trivial⟩ rfl rfl rfl ?_
      obtain ⟨t6, h7, H⟩ := bnd H
      refine HQ.op [1] [1] (OT.callM (us := [_]) (PreX := [Box β_0 [.slice a_0 (List.length p0.b) c_0, .int .i64 t4.2.i, .int .i64 t4.2.h]]) (PreL := []) [.tmp 18] Try.call123 rfl rfl fun w FX FL hs1 hF1 hs2 hF2 hp => spec_l1Byte_c (p0 := (⟨p0.b, t4.2.i, t4.2.h⟩ : TCur)) hs1 hF1 (hb_0.passY hp) h7) ⟨rfl, rfl, trivial⟩ ⟨rfl, trivial⟩ rfl rfl rfl rfl (fun _ => rfl) fun _ => ?_
      refine HQ.pu Pu.assign ⟨rfl, trivial⟩ rfl rfl rfl ?_
      refine HQ.done ?_
      refine HQ.keep [(0, _), (1, _), (4, _), (5, _), (6, _)] ⟨rfl, rfl, rfl, rfl, rfl, trivial⟩ ?_
      refine HQ.rseq ?_
      refine HQ.pu Pu.move ⟨rfl, trivial⟩ rfl rfl rfl ?_
      obtain ⟨t8, h9, H⟩ := bnd H
      refine HQ.op [1] [1] (OT.callM (us := [_]) (PreX := [Box β_0 [.slice a_0 (List.length p0.b) c_0, .int .i64 t6.2.i, .int .i64 t6.2.h]]) (PreL := []) [.tmp 20] Try.call123 rfl rfl fun w FX FL hs1 hF1 hs2 hF2 hp => spec_l1Byte_c (p0 := (⟨p0.b, t6.2.i, t6.2.h⟩ : TCur)) hs1 hF1 (hb_0.passY hp) h9) ⟨rfl, rfl, trivial⟩ ⟨rfl, trivial⟩ rfl rfl rfl rfl (fun _ => rfl) fun _ => ?_
      refine HQ.pu Pu.assign ⟨rfl, trivial⟩ rfl rfl rfl ?_
      refine HQ.done ?_
      refine HQ.keep [(1, _), (4, _), (5, _), (6, _), (7, _)] ⟨rfl, rfl, rfl, rfl, rfl, trivial⟩ ?_
      refine HQ.rseq ?_
      refine HQ.pu Pu.move ⟨rfl, trivial⟩ rfl rfl rfl ?_
      refine HQ.pu Pu.mul ⟨rfl, rfl, trivial⟩ rfl rfl rfl ?_
      refine HQ.pu Pu.move ⟨rfl, trivial⟩ rfl rfl rfl ?_
      refine HQ.pu Pu.mul ⟨rfl, rfl, trivial⟩ rfl rfl rfl ?_
      refine HQ.pu Pu.add ⟨rfl, rfl, trivial⟩ rfl rfl rfl ?_
      refine HQ.pu Pu.move ⟨rfl, trivial⟩ rfl rfl rfl ?_
      refine HQ.pu Pu.add ⟨rfl, rfl, trivial⟩ rfl rfl rfl ?_
      refine HQ.pu Pu.move ⟨rfl, trivial⟩ rfl rfl rfl ?_
      obtain ⟨h10, H⟩ := asr H
      refine HQ.pu (Pu.rem h10) ⟨rfl, rfl, trivial⟩ rfl rfl rfl ?_
      refine HQ.pu Pu.assign ⟨rfl, trivial⟩ rfl rfl rfl ?_
      refine HQ.done ?_
      refine HQ.keep [(4, _)] ⟨rfl, trivial⟩ ?_
      refine HQ.ret ?_
      obtain rfl := Option.some.inj H
      exact HQ.fin (vs := [_]) Try.results86 () ⟨rfl, trivial⟩ rfl [1] ⟨rfl, trivial⟩ rfl

/-! spec.l21Draw -/
theorem spec_l21Draw_c {w : World} {p0 : TCur} {β_0 : Nat} {a_0 : Option Addr} {c_0 : Nat} {F0 : Fp} (hs0 : Sat [Box β_0 [.slice a_0 (List.length p0.b) c_0, .int .i64 p0.i, .int .i64 p0.h]] w.heap F0) (hF0 : ∀ b, F0 b → b < w.heap.size) (hb_0 : BorS kU8 a_0 c_0 p0.b w.heap (Lt w F0)) {r : THead × TCur} (H : spec_l21Draw p0 = some r) :
    Calls Try.prog 116 #[BP β_0 0] w (Rt w F0 (fun _ : Unit => .agg #[.int .i64 r.1.Epoch, .int .i64 r.1.Seq, .int .i64 r.1.Root, .int .i64 r.1.Size]) (fun _ => [Box β_0 [.slice a_0 (List.length p0.b) c_0, .int .i64 r.2.i, .int .i64 r.2.h]])) := by
  rw [spec_l21Draw] at H
  refine Calls.enter (N := 19) (us := [_]) (F0 := F0) (Γ0 := [(1, Box β_0 [.slice a_0 (List.length p0.b) c_0, .int .i64 p0.i, .int .i64 p0.h])]) Try.func116 rfl rfl rfl hs0 hF0 ?_
  refine HQ.rseq ?_
  refine HQ.op [] [2] (OT.alloc zc68) trivial trivial rfl rfl rfl rfl (fun _ => rfl) fun b1 => ?_
  refine HQ.done ?_
  refine HQ.keep [(0, _), (2, _)] ⟨rfl, rfl, trivial⟩ ?_
  refine HQ.rseq ?_
  refine HQ.pu Pu.move ⟨rfl, trivial⟩ rfl rfl rfl ?_
  obtain ⟨t2, h3, H⟩ := bnd H
  refine HQ.op [1] [1] (OT.callM (us := [_, _]) (PreX := [Box β_0 [.slice a_0 (List.length p0.b) c_0, .int .i64 p0.i, .int .i64 p0.h]]) (PreL := []) [.tmp 4, .const (.int .i64 9)] Try.call86 rfl rfl fun w FX FL hs1 hF1 hs2 hF2 hp => spec_l1Below_c (p0 := p0) (p1 := 9) hs1 hF1 (hb_0.passY hp) h3) ⟨rfl, rfl, rfl, trivial⟩ ⟨rfl, trivial⟩ rfl rfl rfl rfl (fun _ => rfl) fun _ => ?_
  refine HQ.pu Pu.add ⟨rfl, rfl, trivial⟩ rfl rfl rfl ?_
  refine HQ.pu Pu.move ⟨rfl, trivial⟩ rfl rfl rfl ?_
  obtain ⟨t4, h5, H⟩ := bnd H
  refine HQ.op [1] [1] (OT.callM (us := [_, _]) (PreX := [Box β_0 [.slice a_0 (List.length p0.b) c_0, .int .i64 t2.2.i, .int .i64 t2.2.h]]) (PreL := []) [.tmp 7, .const (.int .i64 20)] Try.call86 rfl rfl fun w FX FL hs1 hF1 hs2 hF2 hp => spec_l1Below_c (p0 := (⟨p0.b, t2.2.i, t2.2.h⟩ : TCur)) (p1 := 20) hs1 hF1 (hb_0.passY hp) h5) ⟨rfl, rfl, rfl, trivial⟩ ⟨rfl, trivial⟩ rfl rfl rfl rfl (fun _ => rfl) fun _ => ?_
  refine HQ.pu Pu.move ⟨rfl, trivial⟩ rfl rfl rfl ?_
  obtain ⟨t6, h7, H⟩ := bnd H
  refine HQ.op [1] [1] (OT.callM (us := [_, _]) (PreX := [Box β_0 [.slice a_0 (List.length p0.b) c_0, .int .i64 t4.2.i, .int .i64 t4.2.h]]) (PreL := []) [.tmp 9, .const (.int .i64 9)] Try.call86 rfl rfl fun w FX FL hs1 hF1 hs2 hF2 hp => spec_l1Below_c (p0 := (⟨p0.b, t4.2.i, t4.2.h⟩ : TCur)) (p1 := 9) hs1 hF1 (hb_0.passY hp) h7) ⟨rfl, rfl, rfl, trivial⟩ ⟨rfl, trivial⟩ rfl rfl rfl rfl (fun _ => rfl) fun _ => ?_
  refine HQ.pu Pu.add ⟨rfl, rfl, trivial⟩ rfl rfl rfl ?_
  refine HQ.pu (Pu.build (us := [.int .i64 (wrap64 (1 + t2.1)), .int .i64 t4.1, .int .i64 (wrap64 (1 + t6.1))]) (cs := [.int .i64 (wrap64 (1 + t2.1)), .int .i64 t4.1, .int .i64 0, .int .i64 (wrap64 (1 + t6.1))]) [(0, .tmp 6), (1, .tmp 8), (3, .tmp 11)] st68 rfl rfl rfl) ⟨rfl, rfl, rfl, trivial⟩ rfl rfl rfl ?_
  refine HQ.op [] [3] (OT.alloc zc68) trivial trivial rfl rfl rfl rfl (fun _ => rfl) fun b8 => ?_
  refine HQ.opN [3] [3] [] (OT.storeC (cs' := [.int .i64 (wrap64 (1 + t2.1)), .int .i64 t4.1, .int .i64 0, .int .i64 (wrap64 (1 + t6.1))]) sz68 rfl rfl rfl rfl rfl) ⟨rfl, rfl, trivial⟩ ⟨rfl, trivial⟩ rfl rfl rfl (fun _ => rfl) fun _ => ?_
  refine HQ.done ?_
  refine HQ.keep [(0, _), (2, _), (3, _)] ⟨rfl, rfl, rfl, trivial⟩ ?_
  refine HQ.rseq ?_
  refine HQ.pu Pu.move ⟨rfl, trivial⟩ rfl rfl rfl ?_
  refine HQ.pu (Pu.fieldB fo68_3 rfl) ⟨rfl, trivial⟩ rfl rfl rfl ?_
  refine HQ.op [3] [3] (OT.loadB sc3 rfl) ⟨rfl, trivial⟩ ⟨rfl, trivial⟩ rfl rfl rfl rfl (fun _ => rfl) fun _ => ?_
  obtain ⟨t9, h10, H⟩ := bnd H
  refine HQ.op [1] [1] (OT.callM (us := [_, _]) (PreX := [Box β_0 [.slice a_0 (List.length p0.b) c_0, .int .i64 t6.2.i, .int .i64 t6.2.h]]) (PreL := []) [.tmp 13, .tmp 15] Try.call86 rfl rfl fun w FX FL hs1 hF1 hs2 hF2 hp => spec_l1Below_c (p0 := (⟨p0.b, t6.2.i, t6.2.h⟩ : TCur)) (p1 := (wrap64 (1 + t6.1))) hs1 hF1 (hb_0.passY hp) h10) ⟨rfl, rfl, rfl, trivial⟩ ⟨rfl, trivial⟩ rfl rfl rfl rfl (fun _ => rfl) fun _ => ?_
  refine HQ.pu (Pu.fieldB fo68_2 rfl) ⟨rfl, trivial⟩ rfl rfl rfl ?_
  refine HQ.opN [3] [3] [] (OT.storeC (cs' := [.int .i64 (wrap64 (1 + t2.1)), .int .i64 t4.1, .int .i64 t9.1, .int .i64 (wrap64 (1 + t6.1))]) sz3 rfl rfl rfl rfl rfl) ⟨rfl, rfl, trivial⟩ ⟨rfl, trivial⟩ rfl rfl rfl (fun _ => rfl) fun _ => ?_
  refine HQ.done ?_
  refine HQ.keep [(2, _), (3, _)] ⟨rfl, rfl, trivial⟩ ?_
  refine HQ.rseq ?_
  refine HQ.op [3] [3] (OT.loadBA (vs := [.int .i64 (wrap64 (1 + t2.1)), .int .i64 t4.1, .int .i64 t9.1, .int .i64 (wrap64 (1 + t6.1))]) ag68 sz68 rfl rfl) ⟨rfl, trivial⟩ ⟨rfl, trivial⟩ rfl rfl rfl rfl (fun _ => rfl) fun _ => ?_
  refine HQ.opN [2] [2] [] (OT.storeC (cs' := [.int .i64 (wrap64 (1 + t2.1)), .int .i64 t4.1, .int .i64 t9.1, .int .i64 (wrap64 (1 + t6.1))]) sz68 rfl rfl rfl rfl rfl) ⟨rfl, rfl, trivial⟩ ⟨rfl, trivial⟩ rfl rfl rfl (fun _ => rfl) fun _ => ?_
  refine HQ.done ?_
  refine HQ.keep [(2, _)] ⟨rfl, trivial⟩ ?_
  refine HQ.ret ?_
  obtain rfl := Option.some.inj H
  exact HQ.fin (vs := [_]) Try.results116 () ⟨⟨_, _, 2, rfl, rfl, ag68, sz68, rfl⟩, trivial⟩ rfl [1] ⟨rfl, trivial⟩ rfl

/-! spec.l1Int -/
theorem spec_l1Int_c {w : World} {p0 : TCur} {p1 : (List Int)} {β_0 : Nat} {a_0 : Option Addr} {c_0 : Nat} {a_1 : Option Addr} {c_1 : Nat} {F0 : Fp} (hs0 : Sat [Box β_0 [.slice a_0 (List.length p0.b) c_0, .int .i64 p0.i, .int .i64 p0.h]] w.heap F0) (hF0 : ∀ b, F0 b → b < w.heap.size) (hb_0 : BorS kU8 a_0 c_0 p0.b w.heap (Lt w F0)) (hb_1 : BorS kI a_1 c_1 p1 w.heap (Lt w F0)) {r : Int × TCur} (H : spec_l1Int p0 p1 = some r) :
    Calls Try.prog 79 #[BP β_0 0, .slice a_1 (List.length p1) c_1] w (Rt w F0 (fun _ : Unit => .int .i64 r.1) (fun _ => [Box β_0 [.slice a_0 (List.length p0.b) c_0, .int .i64 r.2.i, .int .i64 r.2.h]])) := by
  rw [spec_l1Int] at H
  refine Calls.enter (N := 12) (us := [_, _]) (F0 := F0) (Γ0 := [(1, Box β_0 [.slice a_0 (List.length p0.b) c_0, .int .i64 p0.i, .int .i64 p0.h])]) Try.func79 rfl rfl rfl hs0 hF0 ?_
  refine HQ.rseq ?_
  refine HQ.pu Pu.assign ⟨rfl, trivial⟩ rfl rfl rfl ?_
  refine HQ.done ?_
  refine HQ.keep [(0, _), (1, _), (4, _)] ⟨rfl, rfl, rfl, trivial⟩ ?_
  refine HQ.rseq ?_
  refine HQ.pu Pu.move ⟨rfl, trivial⟩ rfl rfl rfl ?_
  refine HQ.pu Pu.move ⟨rfl, trivial⟩ rfl rfl rfl ?_
  refine HQ.pu Pu.move ⟨rfl, trivial⟩ rfl rfl rfl ?_
  refine HQ.pu (Pu.len ul33) ⟨rfl, trivial⟩ rfl rfl rfl ?_
  obtain ⟨t1, h2, H⟩ := bnd H
  refine HQ.op [1] [1] (OT.callM (us := [_, _]) (PreX := [Box β_0 [.slice a_0 (List.length p0.b) c_0, .int .i64 p0.i, .int .i64 p0.h]]) (PreL := []) [.tmp 6, .tmp 8] Try.call86 rfl rfl fun w FX FL hs1 hF1 hs2 hF2 hp => spec_l1Below_c (p0 := p0) (p1 := ((List.length p1 : Nat) : Int)) hs1 hF1 (hb_0.passY hp) h2) ⟨rfl, rfl, rfl, trivial⟩ ⟨rfl, trivial⟩ rfl rfl rfl rfl (fun _ => rfl) fun _ => ?_
  obtain ⟨h3, H⟩ := asr H
  refine HQ.op [] [] (OT.indexB ul33 sz3 hb_1 h3) ⟨rfl, rfl, trivial⟩ trivial rfl rfl rfl rfl (fun _ => rfl) fun _ => ?_
  refine HQ.op [] [] (OT.loadF sc3 hb_1 h3 rfl) ⟨rfl, trivial⟩ trivial rfl rfl rfl rfl (fun _ => rfl) fun _ => ?_
  refine HQ.pu Pu.assign ⟨rfl, trivial⟩ rfl rfl rfl ?_
  refine HQ.done ?_
  refine HQ.keep [(4, _)] ⟨rfl, trivial⟩ ?_
  refine HQ.ret ?_
  obtain rfl := Option.some.inj H
  exact HQ.fin (vs := [_]) Try.results79 () ⟨rfl, trivial⟩ rfl [1] ⟨rfl, trivial⟩ rfl

/-! spec.l21Any -/
theorem spec_l21Any_c {w : World} {p0 : TCur} {β_0 : Nat} {a_0 : Option Addr} {c_0 : Nat} {F0 : Fp} (hs0 : Sat [Box β_0 [.slice a_0 (List.length p0.b) c_0, .int .i64 p0.i, .int .i64 p0.h]] w.heap F0) (hF0 : ∀ b, F0 b → b < w.heap.size) (hb_0 : BorS kU8 a_0 c_0 p0.b w.heap (Lt w F0)) {r : THead × TCur} (H : spec_l21Any p0 = some r) :
    Calls Try.prog 111 #[BP β_0 0] w (Rt w F0 (fun _ : Unit => .agg #[.int .i64 r.1.Epoch, .int .i64 r.1.Seq, .int .i64 r.1.Root, .int .i64 r.1.Size]) (fun _ => [Box β_0 [.slice a_0 (List.length p0.b) c_0, .int .i64 r.2.i, .int .i64 r.2.h]])) := by
  rw [spec_l21Any] at H
  refine Calls.enter (N := 35) (us := [_]) (F0 := F0) (Γ0 := [(1, Box β_0 [.slice a_0 (List.length p0.b) c_0, .int .i64 p0.i, .int .i64 p0.h])]) Try.func111 rfl rfl rfl hs0 hF0 ?_
  refine HQ.rseq ?_
  refine HQ.op [] [2] (OT.alloc zc68) trivial trivial rfl rfl rfl rfl (fun _ => rfl) fun b1 => ?_
  refine HQ.done ?_
  refine HQ.keep [(0, _), (2, _)] ⟨rfl, rfl, trivial⟩ ?_
  refine HQ.rseq ?_
  refine HQ.pu Pu.move ⟨rfl, trivial⟩ rfl rfl rfl ?_
  obtain ⟨t2, h3, H⟩ := bnd H
  refine HQ.op [1] [1] (OT.callM (us := [_]) (PreX := [Box β_0 [.slice a_0 (List.length p0.b) c_0, .int .i64 p0.i, .int .i64 p0.h]]) (PreL := []) [.tmp 4] Try.call116 rfl rfl fun w FX FL hs1 hF1 hs2 hF2 hp => spec_l21Draw_c (p0 := p0) hs1 hF1 (hb_0.passY hp) h3) ⟨rfl, rfl, trivial⟩ ⟨rfl, trivial⟩ rfl rfl rfl rfl (fun _ => rfl) fun _ => ?_
  refine HQ.op [] [3] (OT.alloc zc68) trivial trivial rfl rfl rfl rfl (fun _ => rfl) fun b4 => ?_
  refine HQ.opN [3] [3] [] (OT.storeC (cs' := [.int .i64 t2.1.Epoch, .int .i64 t2.1.Seq, .int .i64 t2.1.Root, .int .i64 t2.1.Size]) sz68 rfl rfl rfl rfl rfl) ⟨rfl, rfl, trivial⟩ ⟨rfl, trivial⟩ rfl rfl rfl (fun _ => rfl) fun _ => ?_
  refine HQ.done ?_
  refine HQ.keep [(0, _), (2, _), (3, _)] ⟨rfl, rfl, rfl, trivial⟩ ?_
  refine HQ.seq ?_
  refine HQ.rseq ?_
  refine HQ.pu Pu.move ⟨rfl, trivial⟩ rfl rfl rfl ?_
  obtain ⟨t5, h6, H⟩ := bnd H
  refine HQ.op [1] [1] (OT.callM (us := [_, _]) (PreX := [Box β_0 [.slice a_0 (List.length p0.b) c_0, .int .i64 t2.2.i, .int .i64 t2.2.h]]) (PreL := []) [.tmp 6, .const (.int .i64 12)] Try.call86 rfl rfl fun w FX FL hs1 hF1 hs2 hF2 hp => spec_l1Below_c (p0 := (⟨p0.b, t2.2.i, t2.2.h⟩ : TCur)) (p1 := 12) hs1 hF1 (hb_0.passY hp) h6) ⟨rfl, rfl, rfl, trivial⟩ ⟨rfl, trivial⟩ rfl rfl rfl rfl (fun _ => rfl) fun _ => ?_
  refine HQ.done ?_
  refine HQ.keep [(0, _), (2, _), (3, _), (7, _)] ⟨rfl, rfl, rfl, rfl, trivial⟩ ?_
  refine HQ.block ?_
  refine HQ.rseq ?_
  refine HQ.pu Pu.eql ⟨rfl, rfl, trivial⟩ rfl rfl rfl ?_
  refine HQ.pu Pu.assign ⟨rfl, trivial⟩ rfl rfl rfl ?_
  refine HQ.done ?_
  refine HQ.keep [(0, _), (2, _), (3, _), (7, _), (8, _)] ⟨rfl, rfl, rfl, rfl, rfl, trivial⟩ ?_
  rcases brk H with ⟨hc, H⟩ | ⟨hc, H⟩
  · refine HQ.condT rfl hc ?_
    clear hc
    refine HQ.regionQ ?_
    refine HQ.pu Pu.move ⟨rfl, trivial⟩ rfl rfl rfl ?_
    refine HQ.op [] [4] (OT.buildF (us := [.int .i64 0, .int .i64 60000, .int .i64 60001]) (ys := ([0, 60000, 60001] : (List Int))) (enc := (encI .i64)) (hl := fun _ => ⟨rfl, rfl⟩) [.const (.int .i64 0), .const (.int .i64 60000), .const (.int .i64 60001)] sl33.ul sl33.szE sl33.zc rfl rfl rfl rfl rfl) ⟨rfl, rfl, rfl, trivial⟩ trivial rfl rfl rfl rfl (fun _ => rfl) fun ⟨a7, c8⟩ => ?_
    obtain ⟨t9, h10, H⟩ := bnd H
    refine HQ.op [1, 4] [1, 4] (OT.callM (us := [_, _]) (PreX := [Box β_0 [.slice a_0 (List.length p0.b) c_0, .int .i64 t5.2.i, .int .i64 t5.2.h]]) (PreL := [OwnS kI a7 c8 ([0, 60000, 60001] : (List Int))]) [.tmp 10, .tmp 11] Try.call79 rfl rfl fun w FX FL hs1 hF1 hs2 hF2 hp => spec_l1Int_c (p0 := (⟨p0.b, t5.2.i, t5.2.h⟩ : TCur)) (p1 := ([0, 60000, 60001] : (List Int))) hs1 hF1 (hb_0.passY hp) (hs2.lendY hF2 0 rfl) h10) ⟨rfl, rfl, rfl, trivial⟩ ⟨rfl, rfl, trivial⟩ rfl rfl rfl rfl (fun _ => rfl) fun _ => ?_
    refine HQ.pu (Pu.fieldB fo68_0 rfl) ⟨rfl, trivial⟩ rfl rfl rfl ?_
    refine HQ.opN [3] [3] [] (OT.storeC (cs' := [.int .i64 t9.1, .int .i64 t2.1.Seq, .int .i64 t2.1.Root, .int .i64 t2.1.Size]) sz3 rfl rfl rfl rfl rfl) ⟨rfl, rfl, trivial⟩ ⟨rfl, trivial⟩ rfl rfl rfl (fun _ => rfl) fun _ => ?_
    refine HQ.done ?_
    refine HQ.keep [(2, _), (3, _)] ⟨rfl, rfl, trivial⟩ ?_
    refine HQ.blkN ?_
    refine HQ.thenN ?_
    refine HQ.rseq ?_
    refine HQ.op [3] [3] (OT.loadBA (vs := [.int .i64 t9.1, .int .i64 t2.1.Seq, .int .i64 t2.1.Root, .int .i64 t2.1.Size]) ag68 sz68 rfl rfl) ⟨rfl, trivial⟩ ⟨rfl, trivial⟩ rfl rfl rfl rfl (fun _ => rfl) fun _ => ?_
    refine HQ.opN [2] [2] [] (OT.storeC (cs' := [.int .i64 t9.1, .int .i64 t2.1.Seq, .int .i64 t2.1.Root, .int .i64 t2.1.Size]) sz68 rfl rfl rfl rfl rfl) ⟨rfl, rfl, trivial⟩ ⟨rfl, trivial⟩ rfl rfl rfl (fun _ => rfl) fun _ => ?_
    refine HQ.done ?_
    refine HQ.keep [(2, _)] ⟨rfl, trivial⟩ ?_
    refine HQ.ret ?_
    obtain rfl := Option.some.inj H
    exact HQ.fin (vs := [_]) Try.results111 () ⟨⟨_, _, 2, rfl, rfl, ag68, sz68, rfl⟩, trivial⟩ rfl [1] ⟨rfl, trivial⟩ rfl
  · refine HQ.condF rfl hc ?_
    clear hc
    refine HQ.rseq ?_
    refine HQ.pu Pu.eql ⟨rfl, rfl, trivial⟩ rfl rfl rfl ?_
    refine HQ.pu Pu.assign ⟨rfl, trivial⟩ rfl rfl rfl ?_
    refine HQ.done ?_
    refine HQ.keep [(0, _), (2, _), (3, _), (7, _), (14, _)] ⟨rfl, rfl, rfl, rfl, rfl, trivial⟩ ?_
    rcases brk H with ⟨hc, H⟩ | ⟨hc, H⟩
    · refine HQ.condT rfl hc ?_
      clear hc
      refine HQ.regionQ ?_
      refine HQ.pu Pu.move ⟨rfl, trivial⟩ rfl rfl rfl ?_
      refine HQ.op [] [5] (OT.buildF (us := [.int .i64 (-1), .int .i64 65535, .int .i64 65536]) (ys := ([(-1), 65535, 65536] : (List Int))) (enc := (encI .i64)) (hl := fun _ => ⟨rfl, rfl⟩) [.const (.int .i64 (-1)), .const (.int .i64 65535), .const (.int .i64 65536)] sl33.ul sl33.szE sl33.zc rfl rfl rfl rfl rfl) ⟨rfl, rfl, rfl, trivial⟩ trivial rfl rfl rfl rfl (fun _ => rfl) fun ⟨a11, c12⟩ => ?_
      obtain ⟨t13, h14, H⟩ := bnd H
      refine HQ.op [1, 5] [1, 5] (OT.callM (us := [_, _]) (PreX := [Box β_0 [.slice a_0 (List.length p0.b) c_0, .int .i64 t5.2.i, .int .i64 t5.2.h]]) (PreL := [OwnS kI a11 c12 ([(-1), 65535, 65536] : (List Int))]) [.tmp 16, .tmp 17] Try.call79 rfl rfl fun w FX FL hs1 hF1 hs2 hF2 hp => spec_l1Int_c (p0 := (⟨p0.b, t5.2.i, t5.2.h⟩ : TCur)) (p1 := ([(-1), 65535, 65536] : (List Int))) hs1 hF1 (hb_0.passY hp) (hs2.lendY hF2 0 rfl) h14) ⟨rfl, rfl, rfl, trivial⟩ ⟨rfl, rfl, trivial⟩ rfl rfl rfl rfl (fun _ => rfl) fun _ => ?_
      refine HQ.pu (Pu.fieldB fo68_1 rfl) ⟨rfl, trivial⟩ rfl rfl rfl ?_
      refine HQ.opN [3] [3] [] (OT.storeC (cs' := [.int .i64 t2.1.Epoch, .int .i64 t13.1, .int .i64 t2.1.Root, .int .i64 t2.1.Size]) sz3 rfl rfl rfl rfl rfl) ⟨rfl, rfl, trivial⟩ ⟨rfl, trivial⟩ rfl rfl rfl (fun _ => rfl) fun _ => ?_
      refine HQ.done ?_
      refine HQ.keep [(2, _), (3, _)] ⟨rfl, rfl, trivial⟩ ?_
      refine HQ.blkN ?_
      refine HQ.thenN ?_
      refine HQ.rseq ?_
      refine HQ.op [3] [3] (OT.loadBA (vs := [.int .i64 t2.1.Epoch, .int .i64 t13.1, .int .i64 t2.1.Root, .int .i64 t2.1.Size]) ag68 sz68 rfl rfl) ⟨rfl, trivial⟩ ⟨rfl, trivial⟩ rfl rfl rfl rfl (fun _ => rfl) fun _ => ?_
      refine HQ.opN [2] [2] [] (OT.storeC (cs' := [.int .i64 t2.1.Epoch, .int .i64 t13.1, .int .i64 t2.1.Root, .int .i64 t2.1.Size]) sz68 rfl rfl rfl rfl rfl) ⟨rfl, rfl, trivial⟩ ⟨rfl, trivial⟩ rfl rfl rfl (fun _ => rfl) fun _ => ?_
      refine HQ.done ?_
      refine HQ.keep [(2, _)] ⟨rfl, trivial⟩ ?_
      refine HQ.ret ?_
      obtain rfl := Option.some.inj H
      exact HQ.fin (vs := [_]) Try.results111 () ⟨⟨_, _, 2, rfl, rfl, ag68, sz68, rfl⟩, trivial⟩ rfl [1] ⟨rfl, trivial⟩ rfl
    · refine HQ.condF rfl hc ?_
      clear hc
      refine HQ.rseq ?_
      refine HQ.pu Pu.eql ⟨rfl, rfl, trivial⟩ rfl rfl rfl ?_
      refine HQ.pu Pu.assign ⟨rfl, trivial⟩ rfl rfl rfl ?_
      refine HQ.done ?_
      refine HQ.keep [(0, _), (2, _), (3, _), (7, _), (20, _)] ⟨rfl, rfl, rfl, rfl, rfl, trivial⟩ ?_
      rcases brk H with ⟨hc, H⟩ | ⟨hc, H⟩
      · refine HQ.condT rfl hc ?_
        clear hc
        refine HQ.regionQ ?_
        refine HQ.pu Pu.move ⟨rfl, trivial⟩ rfl rfl rfl ?_
        refine HQ.op [] [6] (OT.buildF (us := [.int .i64 0, .int .i64 48, .int .i64 49]) (ys := ([0, 48, 49] : (List Int))) (enc := (encI .i64)) (hl := fun _ => ⟨rfl, rfl⟩) [.const (.int .i64 0), .const (.int .i64 48), .const (.int .i64 49)] sl33.ul sl33.szE sl33.zc rfl rfl rfl rfl rfl) ⟨rfl, rfl, rfl, trivial⟩ trivial rfl rfl rfl rfl (fun _ => rfl) fun ⟨a15, c16⟩ => ?_
        obtain ⟨t17, h18, H⟩ := bnd H
        refine HQ.op [1, 6] [1, 6] (OT.callM (us := [_, _]) (PreX := [Box β_0 [.slice a_0 (List.length p0.b) c_0, .int .i64 t5.2.i, .int .i64 t5.2.h]]) (PreL := [OwnS kI a15 c16 ([0, 48, 49] : (List Int))]) [.tmp 22, .tmp 23] Try.call79 rfl rfl fun w FX FL hs1 hF1 hs2 hF2 hp => spec_l1Int_c (p0 := (⟨p0.b, t5.2.i, t5.2.h⟩ : TCur)) (p1 := ([0, 48, 49] : (List Int))) hs1 hF1 (hb_0.passY hp) (hs2.lendY hF2 0 rfl) h18) ⟨rfl, rfl, rfl, trivial⟩ ⟨rfl, rfl, trivial⟩ rfl rfl rfl rfl (fun _ => rfl) fun _ => ?_
        refine HQ.pu (Pu.fieldB fo68_3 rfl) ⟨rfl, trivial⟩ rfl rfl rfl ?_
        refine HQ.opN [3] [3] [] (OT.storeC (cs' := [.int .i64 t2.1.Epoch, .int .i64 t2.1.Seq, .int .i64 t2.1.Root, .int .i64 t17.1]) sz3 rfl rfl rfl rfl rfl) ⟨rfl, rfl, trivial⟩ ⟨rfl, trivial⟩ rfl rfl rfl (fun _ => rfl) fun _ => ?_
        refine HQ.done ?_
        refine HQ.keep [(2, _), (3, _)] ⟨rfl, rfl, trivial⟩ ?_
        refine HQ.blkN ?_
        refine HQ.thenN ?_
        refine HQ.rseq ?_
        refine HQ.op [3] [3] (OT.loadBA (vs := [.int .i64 t2.1.Epoch, .int .i64 t2.1.Seq, .int .i64 t2.1.Root, .int .i64 t17.1]) ag68 sz68 rfl rfl) ⟨rfl, trivial⟩ ⟨rfl, trivial⟩ rfl rfl rfl rfl (fun _ => rfl) fun _ => ?_
        refine HQ.opN [2] [2] [] (OT.storeC (cs' := [.int .i64 t2.1.Epoch, .int .i64 t2.1.Seq, .int .i64 t2.1.Root, .int .i64 t17.1]) sz68 rfl rfl rfl rfl rfl) ⟨rfl, rfl, trivial⟩ ⟨rfl, trivial⟩ rfl rfl rfl (fun _ => rfl) fun _ => ?_
        refine HQ.done ?_
        refine HQ.keep [(2, _)] ⟨rfl, trivial⟩ ?_
        refine HQ.ret ?_
        obtain rfl := Option.some.inj H
        exact HQ.fin (vs := [_]) Try.results111 () ⟨⟨_, _, 2, rfl, rfl, ag68, sz68, rfl⟩, trivial⟩ rfl [1] ⟨rfl, trivial⟩ rfl
      · refine HQ.condF rfl hc ?_
        clear hc
        refine HQ.rseq ?_
        refine HQ.pu Pu.eql ⟨rfl, rfl, trivial⟩ rfl rfl rfl ?_
        refine HQ.pu Pu.assign ⟨rfl, trivial⟩ rfl rfl rfl ?_
        refine HQ.done ?_
        refine HQ.keep [(0, _), (2, _), (3, _), (26, _)] ⟨rfl, rfl, rfl, rfl, trivial⟩ ?_
        rcases brk H with ⟨hc, H⟩ | ⟨hc, H⟩
        · refine HQ.condT rfl hc ?_
          clear hc
          refine HQ.regionQ ?_
          refine HQ.pu Pu.move ⟨rfl, trivial⟩ rfl rfl rfl ?_
          refine HQ.pu (Pu.fieldB fo68_3 rfl) ⟨rfl, trivial⟩ rfl rfl rfl ?_
          refine HQ.op [3] [3] (OT.loadB sc3 rfl) ⟨rfl, trivial⟩ ⟨rfl, trivial⟩ rfl rfl rfl rfl (fun _ => rfl) fun _ => ?_
          refine HQ.op [] [7] (OT.buildF (us := [.int .i64 (-1), .int .i64 t2.1.Size]) (ys := ([(-1), t2.1.Size] : (List Int))) (enc := (encI .i64)) (hl := fun _ => ⟨rfl, rfl⟩) [.const (.int .i64 (-1)), .tmp 30] sl33.ul sl33.szE sl33.zc rfl rfl rfl rfl rfl) ⟨rfl, rfl, trivial⟩ trivial rfl rfl rfl rfl (fun _ => rfl) fun ⟨a19, c20⟩ => ?_
          obtain ⟨t21, h22, H⟩ := bnd H
          refine HQ.op [1, 7] [1, 7] (OT.callM (us := [_, _]) (PreX := [Box β_0 [.slice a_0 (List.length p0.b) c_0, .int .i64 t5.2.i, .int .i64 t5.2.h]]) (PreL := [OwnS kI a19 c20 ([(-1), t2.1.Size] : (List Int))]) [.tmp 28, .tmp 31] Try.call79 rfl rfl fun w FX FL hs1 hF1 hs2 hF2 hp => spec_l1Int_c (p0 := (⟨p0.b, t5.2.i, t5.2.h⟩ : TCur)) (p1 := ([(-1), t2.1.Size] : (List Int))) hs1 hF1 (hb_0.passY hp) (hs2.lendY hF2 0 rfl) h22) ⟨rfl, rfl, rfl, trivial⟩ ⟨rfl, rfl, trivial⟩ rfl rfl rfl rfl (fun _ => rfl) fun _ => ?_
          refine HQ.pu (Pu.fieldB fo68_2 rfl) ⟨rfl, trivial⟩ rfl rfl rfl ?_
          refine HQ.opN [3] [3] [] (OT.storeC (cs' := [.int .i64 t2.1.Epoch, .int .i64 t2.1.Seq, .int .i64 t21.1, .int .i64 t2.1.Size]) sz3 rfl rfl rfl rfl rfl) ⟨rfl, rfl, trivial⟩ ⟨rfl, trivial⟩ rfl rfl rfl (fun _ => rfl) fun _ => ?_
          refine HQ.done ?_
          refine HQ.keep [(2, _), (3, _)] ⟨rfl, rfl, trivial⟩ ?_
          refine HQ.blkN ?_
          refine HQ.thenN ?_
          refine HQ.rseq ?_
          refine HQ.op [3] [3] (OT.loadBA (vs := [.int .i64 t2.1.Epoch, .int .i64 t2.1.Seq, .int .i64 t21.1, .int .i64 t2.1.Size]) ag68 sz68 rfl rfl) ⟨rfl, trivial⟩ ⟨rfl, trivial⟩ rfl rfl rfl rfl (fun _ => rfl) fun _ => ?_
          refine HQ.opN [2] [2] [] (OT.storeC (cs' := [.int .i64 t2.1.Epoch, .int .i64 t2.1.Seq, .int .i64 t21.1, .int .i64 t2.1.Size]) sz68 rfl rfl rfl rfl rfl) ⟨rfl, rfl, trivial⟩ ⟨rfl, trivial⟩ rfl rfl rfl (fun _ => rfl) fun _ => ?_
          refine HQ.done ?_
          refine HQ.keep [(2, _)] ⟨rfl, trivial⟩ ?_
          refine HQ.ret ?_
          obtain rfl := Option.some.inj H
          exact HQ.fin (vs := [_]) Try.results111 () ⟨⟨_, _, 2, rfl, rfl, ag68, sz68, rfl⟩, trivial⟩ rfl [1] ⟨rfl, trivial⟩ rfl
        · refine HQ.condF rfl hc ?_
          clear hc
          refine HQ.skip ?_
          refine HQ.blkN ?_
          refine HQ.thenN ?_
          refine HQ.rseq ?_
          refine HQ.op [3] [3] (OT.loadBA (vs := [.int .i64 t2.1.Epoch, .int .i64 t2.1.Seq, .int .i64 t2.1.Root, .int .i64 t2.1.Size]) ag68 sz68 rfl rfl) ⟨rfl, trivial⟩ ⟨rfl, trivial⟩ rfl rfl rfl rfl (fun _ => rfl) fun _ => ?_
          refine HQ.opN [2] [2] [] (OT.storeC (cs' := [.int .i64 t2.1.Epoch, .int .i64 t2.1.Seq, .int .i64 t2.1.Root, .int .i64 t2.1.Size]) sz68 rfl rfl rfl rfl rfl) ⟨rfl, rfl, trivial⟩ ⟨rfl, trivial⟩ rfl rfl rfl (fun _ => rfl) fun _ => ?_
          refine HQ.done ?_
          refine HQ.keep [(2, _)] ⟨rfl, trivial⟩ ?_
          refine HQ.ret ?_
          obtain rfl := Option.some.inj H
          exact HQ.fin (vs := [_]) Try.results111 () ⟨⟨_, _, 2, rfl, rfl, ag68, sz68, rfl⟩, trivial⟩ rfl [1] ⟨rfl, trivial⟩ rfl

/-! spec.DrawHeadOk -/
theorem spec_DrawHeadOk_c {w : World} {k : Nat} {p0 : (List Int)} {a_0 : Option Addr} {c_0 : Nat} (hb_0 : BorS kU8 a_0 c_0 p0 w.heap (Lt w Nil)) {r : THead} (H : spec_DrawHeadOk k p0 = some r) :
    Calls Try.prog 39 #[.slice a_0 (List.length p0) c_0] w (Rt w Nil (fun _ : Unit => .agg #[.int .i64 r.Epoch, .int .i64 r.Seq, .int .i64 r.Root, .int .i64 r.Size]) (fun _ => [])) := by
  rw [spec_DrawHeadOk] at H
  refine Calls.enter0 (N := 8) (us := [_]) Try.func39 rfl rfl rfl ?_
  refine HQ.rseq ?_
  refine HQ.op [] [1] (OT.alloc zc68) trivial trivial rfl rfl rfl rfl (fun _ => rfl) fun b1 => ?_
  refine HQ.done ?_
  refine HQ.keep [(0, _), (2, _)] ⟨rfl, rfl, trivial⟩ ?_
  refine HQ.rseq ?_
  refine HQ.pu Pu.move ⟨rfl, trivial⟩ rfl rfl rfl ?_
  obtain ⟨t2, h3, H⟩ := bnd H
  refine HQ.op [] [2] (OT.call (us := [_]) (Pre := []) [.tmp 4] Try.call77 rfl rfl fun w F hs hF hp => spec_l1New_c (hb_0.pass hp) h3) ⟨rfl, rfl, trivial⟩ trivial rfl rfl rfl rfl (fun _ => rfl) fun b4 => ?_
  refine HQ.pu Pu.assign ⟨rfl, trivial⟩ rfl rfl rfl ?_
  refine HQ.done ?_
  refine HQ.keep [(2, _), (3, _)] ⟨rfl, rfl, trivial⟩ ?_
  refine HQ.rseq ?_
  refine HQ.pu Pu.move ⟨rfl, trivial⟩ rfl rfl rfl ?_
  obtain ⟨t5, h6, H⟩ := bnd H
  refine HQ.op [2] [2] (OT.callM (us := [_]) (PreX := [Box b4 [.slice a_0 (List.length p0) c_0, .int .i64 t2.i, .int .i64 t2.h]]) (PreL := []) [.tmp 6] Try.call111 rfl rfl fun w FX FL hs1 hF1 hs2 hF2 hp => spec_l21Any_c (p0 := (⟨p0, t2.i, t2.h⟩ : TCur)) hs1 hF1 (hb_0.passY hp) h6) ⟨rfl, rfl, trivial⟩ ⟨rfl, trivial⟩ rfl rfl rfl rfl (fun _ => rfl) fun _ => ?_
  refine HQ.opN [1] [1] [] (OT.storeC (cs' := [.int .i64 t5.1.Epoch, .int .i64 t5.1.Seq, .int .i64 t5.1.Root, .int .i64 t5.1.Size]) sz68 rfl rfl rfl rfl rfl) ⟨rfl, rfl, trivial⟩ ⟨rfl, trivial⟩ rfl rfl rfl (fun _ => rfl) fun _ => ?_
  refine HQ.done ?_
  refine HQ.keep [(2, _)] ⟨rfl, trivial⟩ ?_
  refine HQ.ret ?_
  obtain rfl := Option.some.inj H
  exact HQ.fin (vs := [_]) Try.results39 () ⟨⟨_, _, 1, rfl, rfl, ag68, sz68, rfl⟩, trivial⟩ rfl [] trivial rfl

/-! impl.in -/
theorem impl_in_c {w : World} {p0 : Int} {p1 : Int} {p2 : Int}   {r : Bool} (H : impl_in p0 p1 p2 = some r) :
    Calls Try.prog 83 #[.int .i64 p0, .int .i64 p1, .int .i64 p2] w (Rt w Nil (fun _ : Unit => .bool r) (fun _ => [])) := by
  rw [impl_in] at H
  refine Calls.enter0 (N := 15) (us := [_, _, _]) Try.func83 rfl rfl rfl ?_
  refine HQ.rseq ?_
  refine HQ.pu Pu.assign ⟨rfl, trivial⟩ rfl rfl rfl ?_
  refine HQ.done ?_
  refine HQ.keep [(0, _), (1, _), (2, _), (6, _)] ⟨rfl, rfl, rfl, rfl, trivial⟩ ?_
  refine HQ.rseq ?_
  refine HQ.pu Pu.move ⟨rfl, trivial⟩ rfl rfl rfl ?_
  refine HQ.pu Pu.move ⟨rfl, trivial⟩ rfl rfl rfl ?_
  refine HQ.pu Pu.leq ⟨rfl, rfl, trivial⟩ rfl rfl rfl ?_
  refine HQ.pu Pu.move ⟨rfl, trivial⟩ rfl rfl rfl ?_
  refine HQ.cutAt 4 [(14, .bool ((decide (p1 ≤ p0)) && (decide (p0 ≤ p2)))), (6, .bool false)] [] ?_ ?_
  · rcases Bool.eq_false_or_eq_true (decide (p1 ≤ p0)) with hg1 | hg1
    · refine HQ.on rfl rfl hg1 ?_
      refine HQ.pu Pu.move ⟨rfl, trivial⟩ rfl rfl rfl ?_
      refine HQ.on rfl rfl hg1 ?_
      refine HQ.pu Pu.move ⟨rfl, trivial⟩ rfl rfl rfl ?_
      refine HQ.on rfl rfl hg1 ?_
      refine HQ.pu Pu.leq ⟨rfl, rfl, trivial⟩ rfl rfl rfl ?_
      refine HQ.pu (Pu.pickAT hg1) ⟨rfl, rfl, trivial⟩ rfl rfl rfl ?_
      exact HQ.mid ⟨rfl, rfl, trivial⟩ trivial rfl
    · refine HQ.off rfl rfl hg1 rfl ?_
      refine HQ.off rfl rfl hg1 rfl ?_
      refine HQ.off rfl rfl hg1 rfl ?_
      refine HQ.pu (Pu.pickAF (u := (decide (p0 ≤ p2))) hg1) ⟨rfl, rfl, trivial⟩ rfl rfl rfl ?_
      exact HQ.mid ⟨rfl, rfl, trivial⟩ trivial rfl
  refine HQ.pu Pu.assign ⟨rfl, trivial⟩ rfl rfl rfl ?_
  refine HQ.done ?_
  refine HQ.keep [(6, _)] ⟨rfl, trivial⟩ ?_
  refine HQ.ret ?_
  obtain rfl := Option.some.inj H
  exact HQ.fin (vs := [_]) Try.results83 () ⟨rfl, trivial⟩ rfl [] trivial rfl

/-! impl.HeadOk -/
theorem impl_HeadOk_c {w : World} {p0 : THead}   {r : Bool} (H : impl_HeadOk p0 = some r) :
    Calls Try.prog 49 #[.agg #[.int .i64 p0.Epoch, .int .i64 p0.Seq, .int .i64 p0.Root, .int .i64 p0.Size]] w (Rt w Nil (fun _ : Unit => .bool r) (fun _ => [])) := by
  rw [impl_HeadOk] at H
  refine Calls.enter0 (N := 24) (us := [_]) Try.func49 rfl rfl rfl ?_
  refine HQ.rseq ?_
  refine HQ.op [] [1] (OT.box (cs := [.int .i64 p0.Epoch, .int .i64 p0.Seq, .int .i64 p0.Root, .int .i64 p0.Size]) rfl) ⟨rfl, trivial⟩ trivial rfl rfl rfl rfl (fun _ => rfl) fun b1 => ?_
  refine HQ.pu Pu.assign ⟨rfl, trivial⟩ rfl rfl rfl ?_
  refine HQ.done ?_
  refine HQ.keep [(1, _), (2, _)] ⟨rfl, rfl, trivial⟩ ?_
  refine HQ.rseq ?_
  refine HQ.pu (Pu.fieldB fo68_0 rfl) ⟨rfl, trivial⟩ rfl rfl rfl ?_
  refine HQ.op [1] [1] (OT.loadB sc3 rfl) ⟨rfl, trivial⟩ ⟨rfl, trivial⟩ rfl rfl rfl rfl (fun _ => rfl) fun _ => ?_
  obtain ⟨t2, h3, H⟩ := bnd H
  refine HQ.op [] [] (OT.call (us := [_, _, _]) (Pre := []) [.tmp 4, .const (.int .i64 1), .const (.int .i64 60000)] Try.call83 rfl rfl fun w F hs hF hp => impl_in_c h3) ⟨rfl, rfl, rfl, rfl, trivial⟩ trivial rfl rfl rfl rfl (fun _ => rfl) fun _ => ?_
  refine HQ.pu Pu.move ⟨rfl, trivial⟩ rfl rfl rfl ?_
  obtain ⟨c7, h8, H⟩ := bnd H
  refine HQ.cutAt 4 [(10, .bool c7), (1, BP b1 0), (2, .bool false)] [(1, Box b1 [.int .i64 p0.Epoch, .int .i64 p0.Seq, .int .i64 p0.Root, .int .i64 p0.Size])] ?_ ?_
  · clear H
    have H := h8
    rcases brk H with ⟨hg4, H⟩ | ⟨hg4, H⟩
    · refine HQ.on rfl rfl hg4 ?_
      refine HQ.pu (Pu.fieldB fo68_1 rfl) ⟨rfl, trivial⟩ rfl rfl rfl ?_
      refine HQ.on rfl rfl hg4 ?_
      refine HQ.op [1] [1] (OT.loadB sc3 rfl) ⟨rfl, trivial⟩ ⟨rfl, trivial⟩ rfl rfl rfl rfl (fun _ => rfl) fun _ => ?_
      refine HQ.on rfl rfl hg4 ?_
      obtain ⟨t5, h6, H⟩ := bnd H
      refine HQ.op [] [] (OT.call (us := [_, _, _]) (Pre := []) [.tmp 8, .const (.int .i64 0), .const (.int .i64 65535)] Try.call83 rfl rfl fun w F hs hF hp => impl_in_c h6) ⟨rfl, rfl, rfl, rfl, trivial⟩ trivial rfl rfl rfl rfl (fun _ => rfl) fun _ => ?_
      obtain rfl := Option.some.inj H
      refine HQ.pu (Pu.pickC1 hg4) ⟨rfl, rfl, trivial⟩ rfl rfl rfl ?_
      exact HQ.mid ⟨rfl, rfl, rfl, trivial⟩ ⟨rfl, trivial⟩ rfl
    · obtain rfl := Option.some.inj H
      refine HQ.off rfl rfl hg4 rfl ?_
      refine HQ.off rfl rfl hg4 rfl ?_
      refine HQ.off rfl rfl hg4 rfl ?_
      refine HQ.pu (Pu.pickC0 hg4) ⟨rfl, rfl, trivial⟩ rfl rfl rfl ?_
      exact HQ.mid ⟨rfl, rfl, rfl, trivial⟩ ⟨rfl, trivial⟩ rfl
  refine HQ.pu Pu.move ⟨rfl, trivial⟩ rfl rfl rfl ?_
  obtain ⟨c12, h13, H⟩ := bnd H
  refine HQ.cutAt 4 [(15, .bool c12), (1, BP b1 0), (2, .bool false)] [(1, Box b1 [.int .i64 p0.Epoch, .int .i64 p0.Seq, .int .i64 p0.Root, .int .i64 p0.Size])] ?_ ?_
  · clear H
    have H := h13
    rcases brk H with ⟨hg9, H⟩ | ⟨hg9, H⟩
    · refine HQ.on rfl rfl hg9 ?_
      refine HQ.pu (Pu.fieldB fo68_3 rfl) ⟨rfl, trivial⟩ rfl rfl rfl ?_
      refine HQ.on rfl rfl hg9 ?_
      refine HQ.op [1] [1] (OT.loadB sc3 rfl) ⟨rfl, trivial⟩ ⟨rfl, trivial⟩ rfl rfl rfl rfl (fun _ => rfl) fun _ => ?_
      refine HQ.on rfl rfl hg9 ?_
      obtain ⟨t10, h11, H⟩ := bnd H
      refine HQ.op [] [] (OT.call (us := [_, _, _]) (Pre := []) [.tmp 13, .const (.int .i64 1), .const (.int .i64 48)] Try.call83 rfl rfl fun w F hs hF hp => impl_in_c h11) ⟨rfl, rfl, rfl, rfl, trivial⟩ trivial rfl rfl rfl rfl (fun _ => rfl) fun _ => ?_
      obtain rfl := Option.some.inj H
      refine HQ.pu (Pu.pickC1 hg9) ⟨rfl, rfl, trivial⟩ rfl rfl rfl ?_
      exact HQ.mid ⟨rfl, rfl, rfl, trivial⟩ ⟨rfl, trivial⟩ rfl
    · obtain rfl := Option.some.inj H
      refine HQ.off rfl rfl hg9 rfl ?_
      refine HQ.off rfl rfl hg9 rfl ?_
      refine HQ.off rfl rfl hg9 rfl ?_
      refine HQ.pu (Pu.pickC0 hg9) ⟨rfl, rfl, trivial⟩ rfl rfl rfl ?_
      exact HQ.mid ⟨rfl, rfl, rfl, trivial⟩ ⟨rfl, trivial⟩ rfl
  refine HQ.pu Pu.move ⟨rfl, trivial⟩ rfl rfl rfl ?_
  obtain ⟨c17, h18, H⟩ := bnd H
  refine HQ.cutAt 7 [(23, .bool c17), (2, .bool false)] [(1, Box b1 [.int .i64 p0.Epoch, .int .i64 p0.Seq, .int .i64 p0.Root, .int .i64 p0.Size])] ?_ ?_
  · clear H
    have H := h18
    rcases brk H with ⟨hg14, H⟩ | ⟨hg14, H⟩
    · refine HQ.on rfl rfl hg14 ?_
      refine HQ.pu (Pu.fieldB fo68_2 rfl) ⟨rfl, trivial⟩ rfl rfl rfl ?_
      refine HQ.on rfl rfl hg14 ?_
      refine HQ.op [1] [1] (OT.loadB sc3 rfl) ⟨rfl, trivial⟩ ⟨rfl, trivial⟩ rfl rfl rfl rfl (fun _ => rfl) fun _ => ?_
      refine HQ.on rfl rfl hg14 ?_
      refine HQ.pu (Pu.fieldB fo68_3 rfl) ⟨rfl, trivial⟩ rfl rfl rfl ?_
      refine HQ.on rfl rfl hg14 ?_
      refine HQ.op [1] [1] (OT.loadB sc3 rfl) ⟨rfl, trivial⟩ ⟨rfl, trivial⟩ rfl rfl rfl rfl (fun _ => rfl) fun _ => ?_
      refine HQ.on rfl rfl hg14 ?_
      refine HQ.pu Pu.sub ⟨rfl, rfl, trivial⟩ rfl rfl rfl ?_
      refine HQ.on rfl rfl hg14 ?_
      obtain ⟨t15, h16, H⟩ := bnd H
      refine HQ.op [] [] (OT.call (us := [_, _, _]) (Pre := []) [.tmp 18, .const (.int .i64 0), .tmp 21] Try.call83 rfl rfl fun w F hs hF hp => impl_in_c h16) ⟨rfl, rfl, rfl, rfl, trivial⟩ trivial rfl rfl rfl rfl (fun _ => rfl) fun _ => ?_
      obtain rfl := Option.some.inj H
      refine HQ.pu (Pu.pickC1 hg14) ⟨rfl, rfl, trivial⟩ rfl rfl rfl ?_
      exact HQ.mid ⟨rfl, rfl, trivial⟩ ⟨rfl, trivial⟩ rfl
    · obtain rfl := Option.some.inj H
      refine HQ.off rfl rfl hg14 rfl ?_
      refine HQ.off rfl rfl hg14 rfl ?_
      refine HQ.off rfl rfl hg14 rfl ?_
      refine HQ.off rfl rfl hg14 rfl ?_
      refine HQ.off rfl rfl hg14 rfl ?_
      refine HQ.off rfl rfl hg14 rfl ?_
      refine HQ.pu (Pu.pickC0 hg14) ⟨rfl, rfl, trivial⟩ rfl rfl rfl ?_
      exact HQ.mid ⟨rfl, rfl, trivial⟩ ⟨rfl, trivial⟩ rfl
  refine HQ.pu Pu.assign ⟨rfl, trivial⟩ rfl rfl rfl ?_
  refine HQ.done ?_
  refine HQ.keep [(2, _)] ⟨rfl, trivial⟩ ?_
  refine HQ.ret ?_
  obtain rfl := Option.some.inj H
  exact HQ.fin (vs := [_]) Try.results49 () ⟨rfl, trivial⟩ rfl [] trivial rfl

end Go.Proofs.Sx
