import Derived.Test.YtkhommmhkeohbaaQfF0
import Derived.KernelRfl
namespace Go.Proofs.Sx
open Go.RowKit
set_option linter.unusedVariables false
set_option linter.unusedSimpArgs false
set_option maxRecDepth 20000
set_option maxHeartbeats 1000000
theorem laws_big_c {w : World} {p0 : (List Int)} {a_0 : Option Addr} {c_0 : Nat}  {r : Bool} (H : laws_big p0 = some r) :
  Calls Try.prog 9 #[vS a_0 p0 c_0] w (Rt w Nil (fun _ : Unit => .bool r) (fun _ => [])) := by
 rw [laws_big] at H
 refine Calls.enter0 (N := 6) (us := [_]) Try.func9 rfl rfl rfl ?_
 refine HQ.rseq ?_
 refine pu Pu.assign z1 z3 ?_
 refine HQ.done ?_
 refine HQ.keep [(0, _), (2, _)] z2 ?_
 refine HQ.rseq ?_
 refine pu Pu.move z1 z3 ?_
 refine pu (Pu.len ul22) z1 z3 ?_
 refine pu Pu.gtr z2 z3 ?_
 refine pu Pu.assign z1 z3 ?_
 refine HQ.done ?_
 refine HQ.keep [(2, _)] z1 ?_
 refine HQ.ret ?_
 obtain rfl := Option.some.inj H
 exact HQ.fin (vs := [_]) Try.results9 () z1 rfl [] trivial rfl

theorem spec_l1New_c {w : World} {k : Nat} {p0 : (List Int)} {a_0 : Option Addr} {c_0 : Nat} (hb_0 : BorS kU8 a_0 c_0 p0 w.heap (Lt w Nil)) {r : TCur} (H : spec_l1New k p0 = some r) :
  Calls Try.prog 77 #[vS a_0 p0 c_0] w (Rt w Nil (fun g : Nat => BP g 0) (fun g => [Box g [vS a_0 p0 c_0, vI r.i, vI r.h]])) := by
 rw [spec_l1New] at H
 refine Calls.enter0 (N := 32) (us := [_]) Try.func77 rfl rfl rfl ?_
 refine HQ.rseq ?_
 refine pu Pu.assign z1 z3 ?_
 refine HQ.done ?_
 refine HQ.keep [(0, _), (2, _)] z2 ?_
 refine HQ.rseq ?_
 refine pu Pu.move z1 z3 ?_
 refine pu (Pu.len ul22) z1 z3 ?_
 refine pu Pu.add z2 z3 ?_
 refine pu Pu.assign z1 z3 ?_
 refine HQ.done ?_
 refine HQ.keep [(0, _), (2, _), (3, _)] z3 ?_
 refine HQ.seq ?_
 refine HQ.rseq ?_
 refine pu Pu.assign z1 z3 ?_
 refine HQ.done ?_
 refine HQ.keep [(0, _), (2, _), (3, _), (4, _)] z4 ?_
 refine HQ.block ?_
 obtain ⟨o9, h13, H⟩ := bnd H
 refine HQ.loop h13 0 (fun (s : Int × Int) (g : Unit) => match s, g with | (i3, i4), () => [(0, vS a_0 p0 c_0), (2, .pointer none), (3, vI i3), (4, vI i4)]) (fun (s : Int × Int) (g : Unit) => match s, g with | (i3, i4), () => []) (fun _ _ _ => False) () z4 trivial rfl ?_ ?_ ?_
 ·clear H h13
  rintro ⟨i3, i4⟩ _ o H
  rw [spec_l1New_b0] at H
  refine HQ.keep [(0, _), (2, _), (3, _), (4, _)] z4 ?_
  refine HQ.keepR [] trivial rfl ?_
  refine HQ.seq ?_
  refine HQ.rseq ?_
  refine pu Pu.move z1 z3 ?_
  refine pu Pu.move z1 z3 ?_
  refine pu (Pu.len ul22) z1 z3 ?_
  refine pu Pu.lss z2 z3 ?_
  refine pu Pu.move z1 z3 ?_
  refine HQ.cutAt 3 [(15, .bool ((decide (i4 < ((List.length p0 : Nat) : Int))) && (decide (i4 < 4000)))), (0, vS a_0 p0 c_0), (2, .pointer none), (3, vI i3), (4, vI i4)] [] ?_ ?_
  ·rcases Bool.eq_false_or_eq_true (decide (i4 < ((List.length p0 : Nat) : Int))) with hg7 | hg7
   ·refine HQ.on rfl rfl hg7 ?_
    refine pu Pu.move z1 z3 ?_
    refine HQ.on rfl rfl hg7 ?_
    refine pu Pu.lss z2 z3 ?_
    refine pu (Pu.pickAT hg7) z2 z3 ?_
    exact HQ.mid z5 trivial rfl
   ·refine HQ.off rfl rfl hg7 rfl ?_
    refine HQ.off rfl rfl hg7 rfl ?_
    refine pu (Pu.pickAF (u := (decide (i4 < 4000))) hg7) z2 z3 ?_
    exact HQ.mid z5 trivial rfl
  refine HQ.done ?_
  refine HQ.keep [(15, _), (0, _), (2, _), (3, _), (4, _)] z5 ?_
  rcases brk H with ⟨hc, H⟩ | ⟨hc, H⟩
  ·refine HQ.condT rfl hc ?_
   clear hc
   refine HQ.skipThen ?_
   refine HQ.seq ?_
   refine HQ.block ?_
   refine HQ.regionQ ?_
   refine pu Pu.move z1 z3 ?_
   refine pu Pu.mul z2 z3 ?_
   refine pu Pu.move z1 z3 ?_
   refine pu Pu.move z1 z3 ?_
   obtain ⟨h8, H⟩ := asr H
   refine op [] [] (OT.indexB ul22 sz5 hb_0 h8) z2 trivial z4 (fun _ => rfl) fun _ => ?_
   refine op [] [] (OT.loadF sc5 hb_0 h8 rfl) z1 trivial z4 (fun _ => rfl) fun _ => ?_
   refine pu (Pu.conv ul5 ul3) z1 z3 ?_
   refine pu Pu.add z2 z3 ?_
   refine pu Pu.add z2 z3 ?_
   refine pu Pu.and z2 z3 ?_
   refine pu Pu.assign z1 z3 ?_
   refine HQ.done ?_
   refine HQ.keep [(0, _), (2, _), (3, _), (4, _)] z4 ?_
   refine HQ.blkN ?_
   refine HQ.thenN ?_
   refine HQ.regionQ ?_
   refine pu Pu.move z1 z3 ?_
   refine pu Pu.add z2 z3 ?_
   refine pu Pu.assign z1 z3 ?_
   refine HQ.done ?_
   refine HQ.keep [(0, _), (2, _), (3, _), (4, _)] z4 ?_
   obtain rfl := Option.some.inj H
   exact HQ.next () z4 trivial rfl
  ·refine HQ.condF rfl hc ?_
   clear hc
   refine HQ.exit ?_
   refine HQ.thenE ?_
   obtain rfl := Option.some.inj H
   exact HQ.out () z4 trivial rfl
 ·rintro ⟨i10, i11⟩ rfl _
  clear h13
  replace H := H
  refine HQ.keep [(0, _), (2, _), (3, _), (4, _)] z4 ?_
  refine HQ.keepR [] trivial rfl ?_
  refine HQ.blkE ?_
  refine HQ.thenN ?_
  refine HQ.rseq ?_
  refine pu Pu.move z1 z3 ?_
  refine pu Pu.move z1 z3 ?_
  refine pu (Pu.build (us := [vS a_0 p0 c_0, vI i10]) (cs := [vS a_0 p0 c_0, vI 0, vI i10]) [(0, .tmp 28), (2, .tmp 29)] st144 rfl rfl rfl) z2 z3 ?_
  refine op [] [1] (OT.box (cs := [vS a_0 p0 c_0, vI 0, vI i10]) rfl) z1 trivial z4 (fun _ => rfl) fun b12 => ?_
  refine pu Pu.assign z1 z3 ?_
  refine HQ.done ?_
  refine HQ.keep [(2, _)] z1 ?_
  refine HQ.ret ?_
  obtain rfl := Option.some.inj H
  exact HQ.fin (vs := [_]) Try.results77 b12 z1 rfl [1] z1 rfl
 ·exact fun r h a w hf => hf.elim

theorem spec_DiskNew_c {w : World}   {r : TDisk} (H : spec_DiskNew = some r) :
  Calls Try.prog 115 #[] w (Rt w Nil (fun g : (Option Addr × Nat) × (Option Addr × Nat) => .agg #[vS g.1.1 r.Cells g.1.2, vS g.2.1 r.Wet g.2.2, vI r.Fuse, .bool r.Dead]) (fun g => [OwnS kTCell g.1.1 g.1.2 r.Cells, OwnS kTWet g.2.1 g.2.2 r.Wet])) := by
 rw [spec_DiskNew] at H
 refine Calls.enter0 (N := 2) (us := []) Try.func115 rfl rfl rfl ?_
 refine HQ.rseq ?_
 refine op [] [1] (OT.alloc zc27) trivial trivial z4 (fun _ => rfl) fun b1 => ?_
 refine HQ.done ?_
 refine HQ.keep [(0, _)] z1 ?_
 refine HQ.rseq ?_
 refine pu (Pu.build (us := [vI (-1)]) (cs := [.slice none 0 0, .slice none 0 0, vI (-1), .bool false]) [(2, .const (vI (-1)))] st27 rfl rfl rfl) z1 z3 ?_
 refine HQ.opN [1] [1] [] (OT.storeC (cs' := [.slice none 0 0, .slice none 0 0, vI (-1), .bool false]) sz27 rfl rfl rfl rfl rfl) z2 z1 rfl rfl rfl (fun _ => rfl) fun _ => ?_
 refine HQ.done ?_
 refine HQ.keep [(0, _)] z1 ?_
 refine HQ.ret ?_
 obtain rfl := Option.some.inj H
 refine HQ.nil kTCell 2 rfl ?_
 refine HQ.nil kTWet 3 rfl ?_
 exact HQ.fin (vs := [_]) Try.results115 ((none, 0), (none, 0)) ⟨⟨_, _, 1, rfl, rfl, ag27, sz27, rfl⟩, trivial⟩ rfl [2, 3] z2 rfl

theorem spec_l1Byte_c {w : World} {p0 : TCur} {β_0 : Nat} {a_0 : Option Addr} {c_0 : Nat} {F0 : Fp} (hs0 : Sat [Box β_0 [vS a_0 p0.b c_0, vI p0.i, vI p0.h]] w.heap F0) (hF0 : ∀ b, F0 b → b < w.heap.size) (hb_0 : BorS kU8 a_0 c_0 p0.b w.heap (Lt w F0)) {r : Int × TCur} (H : spec_l1Byte p0 = some r) :
  Calls Try.prog 123 #[BP β_0 0] w (Rt w F0 (fun _ : Unit => vI r.1) (fun _ => [Box β_0 [vS a_0 p0.b c_0, vI r.2.i, vI r.2.h]])) := by
 rw [spec_l1Byte] at H
 refine Calls.enter (N := 58) (us := [_]) (F0 := F0) (Γ0 := [(1, Box β_0 [vS a_0 p0.b c_0, vI p0.i, vI p0.h])]) Try.func123 rfl rfl rfl hs0 hF0 ?_
 refine HQ.rseq ?_
 refine pu Pu.assign z1 z3 ?_
 refine HQ.done ?_
 refine HQ.keep [(0, _), (2, _)] z2 ?_
 refine HQ.rseq ?_
 refine pu Pu.move z1 z3 ?_
 refine pu Pu.move z1 z3 ?_
 refine pu Pu.nilCheck z1 z3 ?_
 refine pu (Pu.fieldB fo144_2 rfl) z1 z3 ?_
 refine op [1] [1] (OT.loadB sc3 rfl) z1 z1 z4 (fun _ => rfl) fun _ => ?_
 refine pu Pu.mul z2 z3 ?_
 refine pu Pu.add z2 z3 ?_
 refine pu Pu.nilCheck z1 z3 ?_
 refine pu (Pu.fieldB fo144_2 rfl) z1 z3 ?_
 refine HQ.opN [1] [1] [] (OT.storeC (cs' := [vS a_0 p0.b c_0, vI p0.i, vI (wrap64 ((wrap64 (p0.h * 6364136223846793005)) + 1442695040888963407))]) sz3 rfl rfl rfl rfl rfl) z2 z1 rfl rfl rfl (fun _ => rfl) fun _ => ?_
 refine HQ.done ?_
 refine HQ.keep [(0, _), (2, _)] z2 ?_
 refine HQ.drawS mixd [(0, BP β_0 0), (2, vI 0)] 10 [⟨[], [], []⟩, ⟨[], [], [0]⟩, ⟨[], [], [1]⟩, ⟨[0], [0], [2]⟩, ⟨[], [], [3]⟩, ⟨[], [], []⟩, ⟨[], [], [5]⟩, ⟨[], [], [6]⟩, ⟨[0], [0], [7]⟩, ⟨[], [], [8]⟩] [⟨none, none⟩] (fun (g1 : Unit) => [BP β_0 0, BP β_0 0, BP β_0 2, vI (wrap64 ((wrap64 (p0.h * 6364136223846793005)) + 1442695040888963407)), vI (Int.fdiv (wrap64 ((wrap64 (p0.h * 6364136223846793005)) + 1442695040888963407)) (2 ^ (min (Int.toNat 33) 64))), BP β_0 0, BP β_0 0, BP β_0 2, vI (wrap64 ((wrap64 (p0.h * 6364136223846793005)) + 1442695040888963407)), vI (Int.fdiv (wrap64 ((wrap64 (p0.h * 6364136223846793005)) + 1442695040888963407)) (2 ^ (min (Int.toNat 47) 64)))]) (fun (g1 : Unit) => [Box β_0 [vS a_0 p0.b c_0, vI p0.i, vI (wrap64 ((wrap64 (p0.h * 6364136223846793005)) + 1442695040888963407))]]) () [1] [1] [] z2 z1 rfl (by kernel_rfl) (fun _ => rfl) (by kernel_rfl) (fun _ => rfl) ⟨?_, ?_, ?_, ?_, ?_, ?_, ?_, ?_, ?_, ?_, trivial⟩ fun g1 => ?_
 ·exact OpOK.pu (fun g1 => [(.tmp 0, BP β_0 0)]) z2 (fun _ => z1) (fun _ => Pu.move) (fun _ => z1) (fun _ _ => z3)
 ·exact OpOK.pu (fun g1 => [(.tmp 13, BP β_0 0)]) z2 (fun _ => z1) (fun _ => Pu.nilCheck) (fun _ => z1) (fun _ _ => z3)
 ·exact OpOK.pu (fun g1 => [(.tmp 14, BP β_0 0)]) z2 (fun _ => z1) (fun _ => (Pu.fieldB fo144_2 rfl)) (fun _ => z1) (fun _ _ => z3)
 ·exact OpOK.of (fun g1 => [(.tmp 15, BP β_0 2)]) _ _ (fun g1 _ => g1) rfl rfl (fun _ => z1) (fun g1 => OT.loadB sc3 rfl) (fun _ _ => z3)
 ·exact OpOK.pu (fun g1 => [(.tmp 16, vI (wrap64 ((wrap64 (p0.h * 6364136223846793005)) + 1442695040888963407))), (.const (.int .u64 33), .int .u64 33)]) z2 (fun _ => z2) (fun _ => (Pu.shr (by decide))) (fun _ => z1) (fun _ _ => z3)
 ·exact OpOK.pu (fun g1 => [(.tmp 0, BP β_0 0)]) z2 (fun _ => z1) (fun _ => Pu.move) (fun _ => z1) (fun _ _ => z3)
 ·exact OpOK.pu (fun g1 => [(.tmp 18, BP β_0 0)]) z2 (fun _ => z1) (fun _ => Pu.nilCheck) (fun _ => z1) (fun _ _ => z3)
 ·exact OpOK.pu (fun g1 => [(.tmp 19, BP β_0 0)]) z2 (fun _ => z1) (fun _ => (Pu.fieldB fo144_2 rfl)) (fun _ => z1) (fun _ _ => z3)
 ·exact OpOK.of (fun g1 => [(.tmp 20, BP β_0 2)]) _ _ (fun g1 _ => g1) rfl rfl (fun _ => z1) (fun g1 => OT.loadB sc3 rfl) (fun _ _ => z3)
 ·exact OpOK.pu (fun g1 => [(.tmp 21, vI (wrap64 ((wrap64 (p0.h * 6364136223846793005)) + 1442695040888963407))), (.const (.int .u64 47), .int .u64 47)]) z2 (fun _ => z2) (fun _ => (Pu.shr (by decide))) (fun _ => z1) (fun _ _ => z3)
 refine HQ.keep [(0, _), (2, _), (17, _), (22, _)] z4 ?_
 refine HQ.keepR [(1, _)] z1 rfl ?_
 refine pu Pu.xor z2 z3 ?_
 refine pu Pu.and z2 z3 ?_
 refine pu Pu.assign z1 z3 ?_
 refine HQ.done ?_
 refine HQ.keep [(0, _), (2, _), (3, _)] z3 ?_
 refine HQ.seq ?_
 refine HQ.drawS mixd [(0, BP β_0 0), (2, vI 0), (3, vI (bits2 (· &&& ·) (bits2 (· ^^^ ·) (Int.fdiv (wrap64 ((wrap64 (p0.h * 6364136223846793005)) + 1442695040888963407)) (2 ^ (min (Int.toNat 33) 64))) (Int.fdiv (wrap64 ((wrap64 (p0.h * 6364136223846793005)) + 1442695040888963407)) (2 ^ (min (Int.toNat 47) 64)))) 255))] 9 [⟨[], [], []⟩, ⟨[], [], [0]⟩, ⟨[], [], [1]⟩, ⟨[0], [0], [2]⟩, ⟨[], [], []⟩, ⟨[], [], [4]⟩, ⟨[], [], [5]⟩, ⟨[0], [0], [6]⟩, ⟨[], [], [7]⟩] [⟨none, none⟩] (fun (g2 : Unit) => [BP β_0 0, BP β_0 0, BP β_0 1, vI p0.i, BP β_0 0, BP β_0 0, BP β_0 0, vS a_0 p0.b c_0, vI ((List.length p0.b : Nat) : Int)]) (fun (g2 : Unit) => [Box β_0 [vS a_0 p0.b c_0, vI p0.i, vI (wrap64 ((wrap64 (p0.h * 6364136223846793005)) + 1442695040888963407))]]) () [1] [1] [] z3 z1 rfl (by kernel_rfl) (fun _ => rfl) (by kernel_rfl) (fun _ => rfl) ⟨?_, ?_, ?_, ?_, ?_, ?_, ?_, ?_, ?_, trivial⟩ fun g2 => ?_
 ·exact OpOK.pu (fun g2 => [(.tmp 0, BP β_0 0)]) z2 (fun _ => z1) (fun _ => Pu.move) (fun _ => z1) (fun _ _ => z3)
 ·exact OpOK.pu (fun g2 => [(.tmp 25, BP β_0 0)]) z2 (fun _ => z1) (fun _ => Pu.nilCheck) (fun _ => z1) (fun _ _ => z3)
 ·exact OpOK.pu (fun g2 => [(.tmp 26, BP β_0 0)]) z2 (fun _ => z1) (fun _ => (Pu.fieldB fo144_1 rfl)) (fun _ => z1) (fun _ _ => z3)
 ·exact OpOK.of (fun g2 => [(.tmp 27, BP β_0 1)]) _ _ (fun g2 _ => g2) rfl rfl (fun _ => z1) (fun g2 => OT.loadB sc3 rfl) (fun _ _ => z3)
 ·exact OpOK.pu (fun g2 => [(.tmp 0, BP β_0 0)]) z2 (fun _ => z1) (fun _ => Pu.move) (fun _ => z1) (fun _ _ => z3)
 ·exact OpOK.pu (fun g2 => [(.tmp 29, BP β_0 0)]) z2 (fun _ => z1) (fun _ => Pu.nilCheck) (fun _ => z1) (fun _ _ => z3)
 ·exact OpOK.pu (fun g2 => [(.tmp 30, BP β_0 0)]) z2 (fun _ => z1) (fun _ => (Pu.fieldB fo144_0 rfl)) (fun _ => z1) (fun _ _ => z3)
 ·exact OpOK.of (fun g2 => [(.tmp 31, BP β_0 0)]) _ _ (fun g2 _ => g2) rfl rfl (fun _ => z1) (fun g2 => OT.loadB sc22 rfl) (fun _ _ => z3)
 ·exact OpOK.pu (fun g2 => [(.tmp 32, vS a_0 p0.b c_0)]) z2 (fun _ => z1) (fun _ => (Pu.len ul22)) (fun _ => z1) (fun _ _ => z3)
 refine HQ.keep [(0, _), (2, _), (3, _), (28, _), (33, _)] z5 ?_
 refine HQ.keepR [(1, _)] z1 rfl ?_
 refine pu Pu.lss z2 z3 ?_
 refine HQ.done ?_
 refine HQ.keep [(0, _), (2, _), (3, _), (34, _)] z4 ?_
 rcases brk H with ⟨hc, H⟩ | ⟨hc, H⟩
 ·refine HQ.condT rfl hc ?_
  clear hc
  obtain ⟨h4, H⟩ := asr H
  refine HQ.drawS mixd [(0, BP β_0 0), (2, vI 0), (3, vI (bits2 (· &&& ·) (bits2 (· ^^^ ·) (Int.fdiv (wrap64 ((wrap64 (p0.h * 6364136223846793005)) + 1442695040888963407)) (2 ^ (min (Int.toNat 33) 64))) (Int.fdiv (wrap64 ((wrap64 (p0.h * 6364136223846793005)) + 1442695040888963407)) (2 ^ (min (Int.toNat 47) 64)))) 255))] 12 [⟨[], [], []⟩, ⟨[], [], []⟩, ⟨[], [], [1]⟩, ⟨[], [], [2]⟩, ⟨[0], [0], [3]⟩, ⟨[], [], []⟩, ⟨[], [], [5]⟩, ⟨[], [], [6]⟩, ⟨[0], [0], [7]⟩, ⟨[], [], [4, 8]⟩, ⟨[], [], [9]⟩, ⟨[], [], [10]⟩] [⟨none, none⟩] (fun (g3 : Unit) => [vI (bits2 (· &&& ·) (bits2 (· ^^^ ·) (Int.fdiv (wrap64 ((wrap64 (p0.h * 6364136223846793005)) + 1442695040888963407)) (2 ^ (min (Int.toNat 33) 64))) (Int.fdiv (wrap64 ((wrap64 (p0.h * 6364136223846793005)) + 1442695040888963407)) (2 ^ (min (Int.toNat 47) 64)))) 255), BP β_0 0, BP β_0 0, BP β_0 0, vS a_0 p0.b c_0, BP β_0 0, BP β_0 0, BP β_0 1, vI p0.i, EP a_0 p0.i 1 0, .int .u8 (gt p0.b p0.i), vI (IntKind.i64.wrap (gt p0.b p0.i))]) (fun (g3 : Unit) => [Box β_0 [vS a_0 p0.b c_0, vI p0.i, vI (wrap64 ((wrap64 (p0.h * 6364136223846793005)) + 1442695040888963407))]]) () [1] [1] [] z3 z1 rfl (by kernel_rfl) (fun _ => rfl) (by kernel_rfl) (fun _ => rfl) ⟨?_, ?_, ?_, ?_, ?_, ?_, ?_, ?_, ?_, ?_, ?_, ?_, trivial⟩ fun g3 => ?_
  ·exact OpOK.pu (fun g3 => [(.tmp 3, vI (bits2 (· &&& ·) (bits2 (· ^^^ ·) (Int.fdiv (wrap64 ((wrap64 (p0.h * 6364136223846793005)) + 1442695040888963407)) (2 ^ (min (Int.toNat 33) 64))) (Int.fdiv (wrap64 ((wrap64 (p0.h * 6364136223846793005)) + 1442695040888963407)) (2 ^ (min (Int.toNat 47) 64)))) 255))]) z2 (fun _ => z1) (fun _ => Pu.move) (fun _ => z1) (fun _ _ => z3)
  ·exact OpOK.pu (fun g3 => [(.tmp 0, BP β_0 0)]) z2 (fun _ => z1) (fun _ => Pu.move) (fun _ => z1) (fun _ _ => z3)
  ·exact OpOK.pu (fun g3 => [(.tmp 36, BP β_0 0)]) z2 (fun _ => z1) (fun _ => Pu.nilCheck) (fun _ => z1) (fun _ _ => z3)
  ·exact OpOK.pu (fun g3 => [(.tmp 37, BP β_0 0)]) z2 (fun _ => z1) (fun _ => (Pu.fieldB fo144_0 rfl)) (fun _ => z1) (fun _ _ => z3)
  ·exact OpOK.of (fun g3 => [(.tmp 38, BP β_0 0)]) _ _ (fun g3 _ => g3) rfl rfl (fun _ => z1) (fun g3 => OT.loadB sc22 rfl) (fun _ _ => z3)
  ·exact OpOK.pu (fun g3 => [(.tmp 0, BP β_0 0)]) z2 (fun _ => z1) (fun _ => Pu.move) (fun _ => z1) (fun _ _ => z3)
  ·exact OpOK.pu (fun g3 => [(.tmp 40, BP β_0 0)]) z2 (fun _ => z1) (fun _ => Pu.nilCheck) (fun _ => z1) (fun _ _ => z3)
  ·exact OpOK.pu (fun g3 => [(.tmp 41, BP β_0 0)]) z2 (fun _ => z1) (fun _ => (Pu.fieldB fo144_1 rfl)) (fun _ => z1) (fun _ _ => z3)
  ·exact OpOK.of (fun g3 => [(.tmp 42, BP β_0 1)]) _ _ (fun g3 _ => g3) rfl rfl (fun _ => z1) (fun g3 => OT.loadB sc3 rfl) (fun _ _ => z3)
  ·exact OpOK.of (fun g3 => [(.tmp 39, vS a_0 p0.b c_0), (.tmp 43, vI p0.i)]) _ _ (fun g3 _ => g3) rfl rfl (fun _ => z2) (fun g3 => OT.indexB ul22 sz5 hb_0 h4) (fun _ _ => z3)
  ·exact OpOK.of (fun g3 => [(.tmp 44, EP a_0 p0.i 1 0)]) _ _ (fun g3 _ => g3) rfl rfl (fun _ => z1) (fun g3 => OT.loadF sc5 hb_0 h4 rfl) (fun _ _ => z3)
  ·exact OpOK.pu (fun g3 => [(.tmp 45, .int .u8 (gt p0.b p0.i))]) z2 (fun _ => z1) (fun _ => (Pu.conv ul5 ul3)) (fun _ => z1) (fun _ _ => z3)
  refine HQ.keep [(0, _), (2, _), (3, _), (35, _), (46, _)] z5 ?_
  refine HQ.keepR [(1, _)] z1 rfl ?_
  refine pu Pu.add z2 z3 ?_
  refine pu Pu.and z2 z3 ?_
  refine pu Pu.assign z1 z3 ?_
  refine HQ.done ?_
  refine HQ.keep [(0, _), (2, _), (3, _)] z3 ?_
  refine HQ.region ?_
  refine pu Pu.move z1 z3 ?_
  refine pu Pu.move z1 z3 ?_
  refine pu Pu.nilCheck z1 z3 ?_
  refine pu (Pu.fieldB fo144_1 rfl) z1 z3 ?_
  refine op [1] [1] (OT.loadB sc3 rfl) z1 z1 z4 (fun _ => rfl) fun _ => ?_
  refine pu Pu.add z2 z3 ?_
  refine pu Pu.nilCheck z1 z3 ?_
  refine pu (Pu.fieldB fo144_1 rfl) z1 z3 ?_
  refine HQ.opN [1] [1] [] (OT.storeC (cs' := [vS a_0 p0.b c_0, vI (wrap64 (p0.i + 1)), vI (wrap64 ((wrap64 (p0.h * 6364136223846793005)) + 1442695040888963407))]) sz3 rfl rfl rfl rfl rfl) z2 z1 rfl rfl rfl (fun _ => rfl) fun _ => ?_
  refine HQ.done ?_
  refine HQ.keep [(2, _), (3, _)] z2 ?_
  refine HQ.rseq ?_
  refine pu Pu.move z1 z3 ?_
  refine pu Pu.assign z1 z3 ?_
  refine HQ.done ?_
  refine HQ.keep [(2, _)] z1 ?_
  refine HQ.ret ?_
  obtain rfl := Option.some.inj H
  exact HQ.fin (vs := [_]) Try.results123 () z1 rfl [1] z1 rfl
 ·refine HQ.condF rfl hc ?_
  clear hc
  refine HQ.skipThen ?_
  refine HQ.rseq ?_
  refine pu Pu.move z1 z3 ?_
  refine pu Pu.assign z1 z3 ?_
  refine HQ.done ?_
  refine HQ.keep [(2, _)] z1 ?_
  refine HQ.ret ?_
  obtain rfl := Option.some.inj H
  exact HQ.fin (vs := [_]) Try.results123 () z1 rfl [1] z1 rfl

theorem spec_l1Below_c {w : World} {p0 : TCur} {p1 : Int} {β_0 : Nat} {a_0 : Option Addr} {c_0 : Nat} {F0 : Fp} (hs0 : Sat [Box β_0 [vS a_0 p0.b c_0, vI p0.i, vI p0.h]] w.heap F0) (hF0 : ∀ b, F0 b → b < w.heap.size) (hb_0 : BorS kU8 a_0 c_0 p0.b w.heap (Lt w F0)) {r : Int × TCur} (H : spec_l1Below p0 p1 = some r) :
  Calls Try.prog 86 #[BP β_0 0, vI p1] w (Rt w F0 (fun _ : Unit => vI r.1) (fun _ => [Box β_0 [vS a_0 p0.b c_0, vI r.2.i, vI r.2.h]])) := by
 rw [spec_l1Below] at H
 refine Calls.enter (N := 31) (us := [_, _]) (F0 := F0) (Γ0 := [(1, Box β_0 [vS a_0 p0.b c_0, vI p0.i, vI p0.h])]) Try.func86 rfl rfl rfl hs0 hF0 ?_
 refine HQ.rseq ?_
 refine pu Pu.assign z1 z3 ?_
 refine HQ.done ?_
 refine HQ.keep [(0, _), (1, _), (4, _)] z3 ?_
 refine HQ.seq ?_
 refine HQ.rseq ?_
 refine pu Pu.move z1 z3 ?_
 refine pu Pu.leq z2 z3 ?_
 refine HQ.done ?_
 refine HQ.keep [(0, _), (1, _), (4, _), (9, _)] z4 ?_
 rcases brk H with ⟨hc, H⟩ | ⟨hc, H⟩
 ·refine HQ.condT rfl hc ?_
  clear hc
  refine HQ.rseq ?_
  refine pu Pu.assign z1 z3 ?_
  refine HQ.done ?_
  refine HQ.keep [(0, _), (1, _), (4, _)] z3 ?_
  refine HQ.ret ?_
  refine HQ.thenR ?_
  obtain rfl := Option.some.inj H
  exact HQ.fin (vs := [_]) Try.results86 () z1 rfl [1] z1 rfl
 ·refine HQ.condF rfl hc ?_
  clear hc
  refine HQ.skipThen ?_
  refine HQ.seq ?_
  refine HQ.rseq ?_
  refine pu Pu.move z1 z3 ?_
  refine pu Pu.leq z2 z3 ?_
  refine HQ.done ?_
  refine HQ.keep [(0, _), (1, _), (4, _), (11, _)] z4 ?_
  rcases brk H with ⟨hc, H⟩ | ⟨hc, H⟩
  ·refine HQ.condT rfl hc ?_
   clear hc
   refine HQ.rseq ?_
   refine pu Pu.move z1 z3 ?_
   obtain ⟨t1, h2, H⟩ := bnd H
   refine op [1] [1] (OT.callM (us := [_]) (PreX := [Box β_0 [vS a_0 p0.b c_0, vI p0.i, vI p0.h]]) (PreL := []) [.tmp 12] Try.call123 rfl rfl fun w FX FL hs1 hF1 hs2 hF2 hp => spec_l1Byte_c (p0 := p0) hs1 hF1 (hb_0.passY hp) h2) z2 z1 z4 (fun _ => rfl) fun _ => ?_
   refine pu Pu.move z1 z3 ?_
   obtain ⟨h3, H⟩ := asr H
   refine pu (Pu.rem h3) z2 z3 ?_
   refine pu Pu.assign z1 z3 ?_
   refine HQ.done ?_
   refine HQ.keep [(0, _), (1, _), (4, _)] z3 ?_
   refine HQ.ret ?_
   refine HQ.thenR ?_
   obtain rfl := Option.some.inj H
   exact HQ.fin (vs := [_]) Try.results86 () z1 rfl [1] z1 rfl
  ·refine HQ.condF rfl hc ?_
   clear hc
   refine HQ.skipThen ?_
   refine HQ.rseq ?_
   refine pu Pu.move z1 z3 ?_
   obtain ⟨t4, h5, H⟩ := bnd H
   refine op [1] [1] (OT.callM (us := [_]) (PreX := [Box β_0 [vS a_0 p0.b c_0, vI p0.i, vI p0.h]]) (PreL := []) [.tmp 16] Try.call123 rfl rfl fun w FX FL hs1 hF1 hs2 hF2 hp => spec_l1Byte_c (p0 := p0) hs1 hF1 (hb_0.passY hp) h5) z2 z1 z4 (fun _ => rfl) fun _ => ?_
   refine pu Pu.assign z1 z3 ?_
   refine HQ.done ?_
   refine HQ.keep [(0, _), (1, _), (4, _), (5, _)] z4 ?_
   refine HQ.rseq ?_
   refine pu Pu.move z1 z3 ?_
   obtain ⟨t6, h7, H⟩ := bnd H
   refine op [1] [1] (OT.callM (us := [_]) (PreX := [Box β_0 [vS a_0 p0.b c_0, vI t4.2.i, vI t4.2.h]]) (PreL := []) [.tmp 18] Try.call123 rfl rfl fun w FX FL hs1 hF1 hs2 hF2 hp => spec_l1Byte_c (p0 := (⟨p0.b, t4.2.i, t4.2.h⟩ : TCur)) hs1 hF1 (hb_0.passY hp) h7) z2 z1 z4 (fun _ => rfl) fun _ => ?_
   refine pu Pu.assign z1 z3 ?_
   refine HQ.done ?_
   refine HQ.keep [(0, _), (1, _), (4, _), (5, _), (6, _)] z5 ?_
   refine HQ.rseq ?_
   refine pu Pu.move z1 z3 ?_
   obtain ⟨t8, h9, H⟩ := bnd H
   refine op [1] [1] (OT.callM (us := [_]) (PreX := [Box β_0 [vS a_0 p0.b c_0, vI t6.2.i, vI t6.2.h]]) (PreL := []) [.tmp 20] Try.call123 rfl rfl fun w FX FL hs1 hF1 hs2 hF2 hp => spec_l1Byte_c (p0 := (⟨p0.b, t6.2.i, t6.2.h⟩ : TCur)) hs1 hF1 (hb_0.passY hp) h9) z2 z1 z4 (fun _ => rfl) fun _ => ?_
   refine pu Pu.assign z1 z3 ?_
   refine HQ.done ?_
   refine HQ.keep [(1, _), (4, _), (5, _), (6, _), (7, _)] z5 ?_
   refine HQ.rseq ?_
   refine pu Pu.move z1 z3 ?_
   refine pu Pu.mul z2 z3 ?_
   refine pu Pu.move z1 z3 ?_
   refine pu Pu.mul z2 z3 ?_
   refine pu Pu.add z2 z3 ?_
   refine pu Pu.move z1 z3 ?_
   refine pu Pu.add z2 z3 ?_
   refine pu Pu.move z1 z3 ?_
   obtain ⟨h10, H⟩ := asr H
   refine pu (Pu.rem h10) z2 z3 ?_
   refine pu Pu.assign z1 z3 ?_
   refine HQ.done ?_
   refine HQ.keep [(4, _)] z1 ?_
   refine HQ.ret ?_
   obtain rfl := Option.some.inj H
   exact HQ.fin (vs := [_]) Try.results86 () z1 rfl [1] z1 rfl

theorem spec_l1Once_c {w : World} {p0 : TCur} {p1 : Int} {β_0 : Nat} {a_0 : Option Addr} {c_0 : Nat} {F0 : Fp} (hs0 : Sat [Box β_0 [vS a_0 p0.b c_0, vI p0.i, vI p0.h]] w.heap F0) (hF0 : ∀ b, F0 b → b < w.heap.size) (hb_0 : BorS kU8 a_0 c_0 p0.b w.heap (Lt w F0)) {r : Bool × TCur} (H : spec_l1Once p0 p1 = some r) :
  Calls Try.prog 87 #[BP β_0 0, vI p1] w (Rt w F0 (fun _ : Unit => .bool r.1) (fun _ => [Box β_0 [vS a_0 p0.b c_0, vI r.2.i, vI r.2.h]])) := by
 rw [spec_l1Once] at H
 refine Calls.enter (N := 9) (us := [_, _]) (F0 := F0) (Γ0 := [(1, Box β_0 [vS a_0 p0.b c_0, vI p0.i, vI p0.h])]) Try.func87 rfl rfl rfl hs0 hF0 ?_
 refine HQ.rseq ?_
 refine pu Pu.assign z1 z3 ?_
 refine HQ.done ?_
 refine HQ.keep [(0, _), (1, _), (4, _)] z3 ?_
 refine HQ.rseq ?_
 refine pu Pu.move z1 z3 ?_
 refine pu Pu.move z1 z3 ?_
 obtain ⟨t1, h2, H⟩ := bnd H
 refine op [1] [1] (OT.callM (us := [_, _]) (PreX := [Box β_0 [vS a_0 p0.b c_0, vI p0.i, vI p0.h]]) (PreL := []) [.tmp 5, .tmp 6] Try.call86 rfl rfl fun w FX FL hs1 hF1 hs2 hF2 hp => spec_l1Below_c (p0 := p0) (p1 := p1) hs1 hF1 (hb_0.passY hp) h2) z3 z1 z4 (fun _ => rfl) fun _ => ?_
 refine pu Pu.eql z2 z3 ?_
 refine pu Pu.assign z1 z3 ?_
 refine HQ.done ?_
 refine HQ.keep [(4, _)] z1 ?_
 refine HQ.ret ?_
 obtain rfl := Option.some.inj H
 exact HQ.fin (vs := [_]) Try.results87 () z1 rfl [1] z1 rfl

theorem spec_l1Int_c {w : World} {p0 : TCur} {p1 : (List Int)} {β_0 : Nat} {a_0 : Option Addr} {c_0 : Nat} {a_1 : Option Addr} {c_1 : Nat} {F0 : Fp} (hs0 : Sat [Box β_0 [vS a_0 p0.b c_0, vI p0.i, vI p0.h]] w.heap F0) (hF0 : ∀ b, F0 b → b < w.heap.size) (hb_0 : BorS kU8 a_0 c_0 p0.b w.heap (Lt w F0)) (hb_1 : BorS kI a_1 c_1 p1 w.heap (Lt w F0)) {r : Int × TCur} (H : spec_l1Int p0 p1 = some r) :
  Calls Try.prog 79 #[BP β_0 0, vS a_1 p1 c_1] w (Rt w F0 (fun _ : Unit => vI r.1) (fun _ => [Box β_0 [vS a_0 p0.b c_0, vI r.2.i, vI r.2.h]])) := by
 rw [spec_l1Int] at H
 refine Calls.enter (N := 12) (us := [_, _]) (F0 := F0) (Γ0 := [(1, Box β_0 [vS a_0 p0.b c_0, vI p0.i, vI p0.h])]) Try.func79 rfl rfl rfl hs0 hF0 ?_
 refine HQ.rseq ?_
 refine pu Pu.assign z1 z3 ?_
 refine HQ.done ?_
 refine HQ.keep [(0, _), (1, _), (4, _)] z3 ?_
 refine HQ.rseq ?_
 refine pu Pu.move z1 z3 ?_
 refine pu Pu.move z1 z3 ?_
 refine pu Pu.move z1 z3 ?_
 refine pu (Pu.len ul33) z1 z3 ?_
 obtain ⟨t1, h2, H⟩ := bnd H
 refine op [1] [1] (OT.callM (us := [_, _]) (PreX := [Box β_0 [vS a_0 p0.b c_0, vI p0.i, vI p0.h]]) (PreL := []) [.tmp 6, .tmp 8] Try.call86 rfl rfl fun w FX FL hs1 hF1 hs2 hF2 hp => spec_l1Below_c (p0 := p0) (p1 := ((List.length p1 : Nat) : Int)) hs1 hF1 (hb_0.passY hp) h2) z3 z1 z4 (fun _ => rfl) fun _ => ?_
 obtain ⟨h3, H⟩ := asr H
 refine op [] [] (OT.indexB ul33 sz3 hb_1 h3) z2 trivial z4 (fun _ => rfl) fun _ => ?_
 refine op [] [] (OT.loadF sc3 hb_1 h3 rfl) z1 trivial z4 (fun _ => rfl) fun _ => ?_
 refine pu Pu.assign z1 z3 ?_
 refine HQ.done ?_
 refine HQ.keep [(4, _)] z1 ?_
 refine HQ.ret ?_
 obtain rfl := Option.some.inj H
 exact HQ.fin (vs := [_]) Try.results79 () z1 rfl [1] z1 rfl

theorem spec_Least_c {w : World} {p0 : Int} {p1 : Int}   {r : Int} (H : spec_Least p0 p1 = some r) :
  Calls Try.prog 143 #[vI p0, vI p1] w (Rt w Nil (fun _ : Unit => vI r) (fun _ => [])) := by
 rw [spec_Least] at H
 refine Calls.enter0 (N := 10) (us := [_, _]) Try.func143 rfl rfl rfl ?_
 refine HQ.rseq ?_
 refine pu Pu.assign z1 z3 ?_
 refine HQ.done ?_
 refine HQ.keep [(0, _), (1, _), (4, _)] z3 ?_
 refine HQ.seq ?_
 refine HQ.rseq ?_
 refine pu Pu.move z1 z3 ?_
 refine pu Pu.move z1 z3 ?_
 refine pu Pu.lss z2 z3 ?_
 refine HQ.done ?_
 refine HQ.keep [(0, _), (1, _), (4, _), (7, _)] z4 ?_
 rcases brk H with ⟨hc, H⟩ | ⟨hc, H⟩
 ·refine HQ.condT rfl hc ?_
  clear hc
  refine HQ.rseq ?_
  refine pu Pu.move z1 z3 ?_
  refine pu Pu.assign z1 z3 ?_
  refine HQ.done ?_
  refine HQ.keep [(0, _), (4, _)] z2 ?_
  refine HQ.ret ?_
  refine HQ.thenR ?_
  obtain rfl := Option.some.inj H
  exact HQ.fin (vs := [_]) Try.results143 () z1 rfl [] trivial rfl
 ·refine HQ.condF rfl hc ?_
  clear hc
  refine HQ.skipThen ?_
  refine HQ.rseq ?_
  refine pu Pu.move z1 z3 ?_
  refine pu Pu.assign z1 z3 ?_
  refine HQ.done ?_
  refine HQ.keep [(4, _)] z1 ?_
  refine HQ.ret ?_
  obtain rfl := Option.some.inj H
  exact HQ.fin (vs := [_]) Try.results143 () z1 rfl [] trivial rfl

theorem spec_l2Draw_c {w : World} {p0 : TCur} {β_0 : Nat} {a_0 : Option Addr} {c_0 : Nat} {F0 : Fp} (hs0 : Sat [Box β_0 [vS a_0 p0.b c_0, vI p0.i, vI p0.h]] w.heap F0) (hF0 : ∀ b, F0 b → b < w.heap.size) (hb_0 : BorS kU8 a_0 c_0 p0.b w.heap (Lt w F0)) {r : TBox × TCur} (H : spec_l2Draw p0 = some r) :
  Calls Try.prog 139 #[BP β_0 0] w (Rt w F0 (fun _ : Unit => .agg #[vI r.1.X0, vI r.1.Y0, vI r.1.X1, vI r.1.Y1]) (fun _ => [Box β_0 [vS a_0 p0.b c_0, vI r.2.i, vI r.2.h]])) := by
 rw [spec_l2Draw] at H
 refine Calls.enter (N := 30) (us := [_]) (F0 := F0) (Γ0 := [(1, Box β_0 [vS a_0 p0.b c_0, vI p0.i, vI p0.h])]) Try.func139 rfl rfl rfl hs0 hF0 ?_
 refine HQ.rseq ?_
 refine op [] [2] (OT.alloc zc132) trivial trivial z4 (fun _ => rfl) fun b1 => ?_
 refine HQ.done ?_
 refine HQ.keep [(0, _), (2, _)] z2 ?_
 refine HQ.rseq ?_
 refine pu Pu.move z1 z3 ?_
 obtain ⟨t2, h3, H⟩ := bnd H
 refine op [1] [1] (OT.callM (us := [_, _]) (PreX := [Box β_0 [vS a_0 p0.b c_0, vI p0.i, vI p0.h]]) (PreL := []) [.tmp 5, .const (vI 250)] Try.call86 rfl rfl fun w FX FL hs1 hF1 hs2 hF2 hp => spec_l1Below_c (p0 := p0) (p1 := 250) hs1 hF1 (hb_0.passY hp) h3) z3 z1 z4 (fun _ => rfl) fun _ => ?_
 refine pu Pu.assign z1 z3 ?_
 refine HQ.done ?_
 refine HQ.keep [(0, _), (2, _), (3, _)] z3 ?_
 refine HQ.rseq ?_
 refine pu Pu.move z1 z3 ?_
 obtain ⟨t4, h5, H⟩ := bnd H
 refine op [1] [1] (OT.callM (us := [_, _]) (PreX := [Box β_0 [vS a_0 p0.b c_0, vI t2.2.i, vI t2.2.h]]) (PreL := []) [.tmp 7, .const (vI 250)] Try.call86 rfl rfl fun w FX FL hs1 hF1 hs2 hF2 hp => spec_l1Below_c (p0 := (⟨p0.b, t2.2.i, t2.2.h⟩ : TCur)) (p1 := 250) hs1 hF1 (hb_0.passY hp) h5) z3 z1 z4 (fun _ => rfl) fun _ => ?_
 refine pu Pu.assign z1 z3 ?_
 refine HQ.done ?_
 refine HQ.keep [(0, _), (2, _), (3, _), (4, _)] z4 ?_
 refine HQ.seq ?_
 refine HQ.rseq ?_
 refine pu Pu.move z1 z3 ?_
 obtain ⟨t6, h7, H⟩ := bnd H
 refine op [1] [1] (OT.callM (us := [_, _]) (PreX := [Box β_0 [vS a_0 p0.b c_0, vI t4.2.i, vI t4.2.h]]) (PreL := []) [.tmp 9, .const (vI 2)] Try.call87 rfl rfl fun w FX FL hs1 hF1 hs2 hF2 hp => spec_l1Once_c (p0 := (⟨p0.b, t4.2.i, t4.2.h⟩ : TCur)) (p1 := 2) hs1 hF1 (hb_0.passY hp) h7) z3 z1 z4 (fun _ => rfl) fun _ => ?_
 refine HQ.done ?_
 refine HQ.keep [(0, _), (2, _), (3, _), (4, _), (10, _)] z5 ?_
 rcases brk H with ⟨hc, H⟩ | ⟨hc, H⟩
 ·refine HQ.condT rfl hc ?_
  clear hc
  refine HQ.rseq ?_
  refine pu Pu.move z1 z3 ?_
  obtain ⟨t8, h9, H⟩ := bnd H
  refine op [1] [1] (OT.callM (us := [_, _]) (PreX := [Box β_0 [vS a_0 p0.b c_0, vI t6.2.i, vI t6.2.h]]) (PreL := []) [.tmp 11, .const (vI 20)] Try.call86 rfl rfl fun w FX FL hs1 hF1 hs2 hF2 hp => spec_l1Below_c (p0 := (⟨p0.b, t6.2.i, t6.2.h⟩ : TCur)) (p1 := 20) hs1 hF1 (hb_0.passY hp) h9) z3 z1 z4 (fun _ => rfl) fun _ => ?_
  refine pu Pu.assign z1 z3 ?_
  refine HQ.done ?_
  refine HQ.keep [(0, _), (2, _), (3, _), (4, _)] z4 ?_
  refine HQ.region ?_
  refine pu Pu.move z1 z3 ?_
  obtain ⟨t10, h11, H⟩ := bnd H
  refine op [1] [1] (OT.callM (us := [_, _]) (PreX := [Box β_0 [vS a_0 p0.b c_0, vI t8.2.i, vI t8.2.h]]) (PreL := []) [.tmp 13, .const (vI 20)] Try.call86 rfl rfl fun w FX FL hs1 hF1 hs2 hF2 hp => spec_l1Below_c (p0 := (⟨p0.b, t8.2.i, t8.2.h⟩ : TCur)) (p1 := 20) hs1 hF1 (hb_0.passY hp) h11) z3 z1 z4 (fun _ => rfl) fun _ => ?_
  refine pu Pu.assign z1 z3 ?_
  refine HQ.done ?_
  refine HQ.keep [(0, _), (2, _), (3, _), (4, _)] z4 ?_
  refine HQ.rseq ?_
  refine pu Pu.move z1 z3 ?_
  refine pu Pu.move z1 z3 ?_
  refine pu Pu.move z1 z3 ?_
  refine pu Pu.move z1 z3 ?_
  refine op [] [3] (OT.buildF (us := [vI 0, vI 1, vI 5, vI 9, vI 40]) (ys := ([0, 1, 5, 9, 40] : (List Int))) (enc := (encI .i64)) (hl := fun _ => ⟨rfl, rfl⟩) [.const (vI 0), .const (vI 1), .const (vI 5), .const (vI 9), .const (vI 40)] sl33.ul sl33.szE sl33.zc rfl rfl rfl rfl rfl) z5 trivial z4 (fun _ => rfl) fun ⟨a12, c13⟩ => ?_
  obtain ⟨t14, h15, H⟩ := bnd H
  refine op [1, 3] [1, 3] (OT.callM (us := [_, _]) (PreX := [Box β_0 [vS a_0 p0.b c_0, vI t10.2.i, vI t10.2.h]]) (PreL := [OwnS kI a12 c13 ([0, 1, 5, 9, 40] : (List Int))]) [.tmp 18, .tmp 19] Try.call79 rfl rfl fun w FX FL hs1 hF1 hs2 hF2 hp => spec_l1Int_c (p0 := (⟨p0.b, t10.2.i, t10.2.h⟩ : TCur)) (p1 := ([0, 1, 5, 9, 40] : (List Int))) hs1 hF1 (hb_0.passY hp) (hs2.lendY hF2 0 rfl) h15) z3 z2 z4 (fun _ => rfl) fun _ => ?_
  refine pu Pu.add z2 z3 ?_
  obtain ⟨t16, h17, H⟩ := bnd H
  refine op [] [] (OT.call (us := [_, _]) (Pre := []) [.const (vI 255), .tmp 21] Try.call143 rfl rfl fun w F hs hF hp => spec_Least_c h17) z3 trivial z4 (fun _ => rfl) fun _ => ?_
  refine pu Pu.move z1 z3 ?_
  refine pu Pu.move z1 z3 ?_
  refine op [] [4] (OT.buildF (us := [vI 0, vI 1, vI 3, vI 12]) (ys := ([0, 1, 3, 12] : (List Int))) (enc := (encI .i64)) (hl := fun _ => ⟨rfl, rfl⟩) [.const (vI 0), .const (vI 1), .const (vI 3), .const (vI 12)] sl33.ul sl33.szE sl33.zc rfl rfl rfl rfl rfl) z4 trivial z4 (fun _ => rfl) fun ⟨a18, c19⟩ => ?_
  obtain ⟨t20, h21, H⟩ := bnd H
  refine op [1, 4] [1, 4] (OT.callM (us := [_, _]) (PreX := [Box β_0 [vS a_0 p0.b c_0, vI t14.2.i, vI t14.2.h]]) (PreL := [OwnS kI a18 c19 ([0, 1, 3, 12] : (List Int))]) [.tmp 24, .tmp 25] Try.call79 rfl rfl fun w FX FL hs1 hF1 hs2 hF2 hp => spec_l1Int_c (p0 := (⟨p0.b, t14.2.i, t14.2.h⟩ : TCur)) (p1 := ([0, 1, 3, 12] : (List Int))) hs1 hF1 (hb_0.passY hp) (hs2.lendY hF2 0 rfl) h21) z3 z2 z4 (fun _ => rfl) fun _ => ?_
  refine pu Pu.add z2 z3 ?_
  obtain ⟨t22, h23, H⟩ := bnd H
  refine op [] [] (OT.call (us := [_, _]) (Pre := []) [.const (vI 255), .tmp 27] Try.call143 rfl rfl fun w F hs hF hp => spec_Least_c h23) z3 trivial z4 (fun _ => rfl) fun _ => ?_
  refine pu (Pu.build (us := [vI t8.1, vI t10.1, vI t16, vI t22]) (cs := [vI t8.1, vI t10.1, vI t16, vI t22]) [(0, .tmp 15), (1, .tmp 16), (2, .tmp 22), (3, .tmp 28)] st132 rfl rfl rfl) z4 z3 ?_
  refine HQ.opN [2] [2] [] (OT.storeC (cs' := [vI t8.1, vI t10.1, vI t16, vI t22]) sz132 rfl rfl rfl rfl rfl) z2 z1 rfl rfl rfl (fun _ => rfl) fun _ => ?_
  refine HQ.done ?_
  refine HQ.keep [(2, _)] z1 ?_
  refine HQ.ret ?_
  obtain rfl := Option.some.inj H
  exact HQ.fin (vs := [_]) Try.results139 () ⟨⟨_, _, 2, rfl, rfl, ag132, sz132, rfl⟩, trivial⟩ rfl [1] z1 rfl
 ·refine HQ.condF rfl hc ?_
  clear hc
  refine HQ.skipThen ?_
  refine HQ.rseq ?_
  refine pu Pu.move z1 z3 ?_
  refine pu Pu.move z1 z3 ?_
  refine pu Pu.move z1 z3 ?_
  refine pu Pu.move z1 z3 ?_
  refine op [] [5] (OT.buildF (us := [vI 0, vI 1, vI 5, vI 9, vI 40]) (ys := ([0, 1, 5, 9, 40] : (List Int))) (enc := (encI .i64)) (hl := fun _ => ⟨rfl, rfl⟩) [.const (vI 0), .const (vI 1), .const (vI 5), .const (vI 9), .const (vI 40)] sl33.ul sl33.szE sl33.zc rfl rfl rfl rfl rfl) z5 trivial z4 (fun _ => rfl) fun ⟨a24, c25⟩ => ?_
  obtain ⟨t26, h27, H⟩ := bnd H
  refine op [1, 5] [1, 5] (OT.callM (us := [_, _]) (PreX := [Box β_0 [vS a_0 p0.b c_0, vI t6.2.i, vI t6.2.h]]) (PreL := [OwnS kI a24 c25 ([0, 1, 5, 9, 40] : (List Int))]) [.tmp 18, .tmp 19] Try.call79 rfl rfl fun w FX FL hs1 hF1 hs2 hF2 hp => spec_l1Int_c (p0 := (⟨p0.b, t6.2.i, t6.2.h⟩ : TCur)) (p1 := ([0, 1, 5, 9, 40] : (List Int))) hs1 hF1 (hb_0.passY hp) (hs2.lendY hF2 0 rfl) h27) z3 z2 z4 (fun _ => rfl) fun _ => ?_
  refine pu Pu.add z2 z3 ?_
  obtain ⟨t28, h29, H⟩ := bnd H
  refine op [] [] (OT.call (us := [_, _]) (Pre := []) [.const (vI 255), .tmp 21] Try.call143 rfl rfl fun w F hs hF hp => spec_Least_c h29) z3 trivial z4 (fun _ => rfl) fun _ => ?_
  refine pu Pu.move z1 z3 ?_
  refine pu Pu.move z1 z3 ?_
  refine op [] [6] (OT.buildF (us := [vI 0, vI 1, vI 3, vI 12]) (ys := ([0, 1, 3, 12] : (List Int))) (enc := (encI .i64)) (hl := fun _ => ⟨rfl, rfl⟩) [.const (vI 0), .const (vI 1), .const (vI 3), .const (vI 12)] sl33.ul sl33.szE sl33.zc rfl rfl rfl rfl rfl) z4 trivial z4 (fun _ => rfl) fun ⟨a30, c31⟩ => ?_
  obtain ⟨t32, h33, H⟩ := bnd H
  refine op [1, 6] [1, 6] (OT.callM (us := [_, _]) (PreX := [Box β_0 [vS a_0 p0.b c_0, vI t26.2.i, vI t26.2.h]]) (PreL := [OwnS kI a30 c31 ([0, 1, 3, 12] : (List Int))]) [.tmp 24, .tmp 25] Try.call79 rfl rfl fun w FX FL hs1 hF1 hs2 hF2 hp => spec_l1Int_c (p0 := (⟨p0.b, t26.2.i, t26.2.h⟩ : TCur)) (p1 := ([0, 1, 3, 12] : (List Int))) hs1 hF1 (hb_0.passY hp) (hs2.lendY hF2 0 rfl) h33) z3 z2 z4 (fun _ => rfl) fun _ => ?_
  refine pu Pu.add z2 z3 ?_
  obtain ⟨t34, h35, H⟩ := bnd H
  refine op [] [] (OT.call (us := [_, _]) (Pre := []) [.const (vI 255), .tmp 27] Try.call143 rfl rfl fun w F hs hF hp => spec_Least_c h35) z3 trivial z4 (fun _ => rfl) fun _ => ?_
  refine pu (Pu.build (us := [vI t2.1, vI t4.1, vI t28, vI t34]) (cs := [vI t2.1, vI t4.1, vI t28, vI t34]) [(0, .tmp 15), (1, .tmp 16), (2, .tmp 22), (3, .tmp 28)] st132 rfl rfl rfl) z4 z3 ?_
  refine HQ.opN [2] [2] [] (OT.storeC (cs' := [vI t2.1, vI t4.1, vI t28, vI t34]) sz132 rfl rfl rfl rfl rfl) z2 z1 rfl rfl rfl (fun _ => rfl) fun _ => ?_
  refine HQ.done ?_
  refine HQ.keep [(2, _)] z1 ?_
  refine HQ.ret ?_
  obtain rfl := Option.some.inj H
  exact HQ.fin (vs := [_]) Try.results139 () ⟨⟨_, _, 2, rfl, rfl, ag132, sz132, rfl⟩, trivial⟩ rfl [1] z1 rfl

theorem spec_l4Draw_c {w : World} {p0 : TCur} {β_0 : Nat} {a_0 : Option Addr} {c_0 : Nat} {F0 : Fp} (hs0 : Sat [Box β_0 [vS a_0 p0.b c_0, vI p0.i, vI p0.h]] w.heap F0) (hF0 : ∀ b, F0 b → b < w.heap.size) (hb_0 : BorS kU8 a_0 c_0 p0.b w.heap (Lt w F0)) {r : TItem × TCur} (H : spec_l4Draw p0 = some r) :
  Calls Try.prog 140 #[BP β_0 0] w (Rt w F0 (fun _ : Unit => .agg #[vI r.1.Id, vI r.1.R.X0, vI r.1.R.Y0, vI r.1.R.X1, vI r.1.R.Y1]) (fun _ => [Box β_0 [vS a_0 p0.b c_0, vI r.2.i, vI r.2.h]])) := by
 rw [spec_l4Draw] at H
 refine Calls.enter (N := 9) (us := [_]) (F0 := F0) (Γ0 := [(1, Box β_0 [vS a_0 p0.b c_0, vI p0.i, vI p0.h])]) Try.func140 rfl rfl rfl hs0 hF0 ?_
 refine HQ.rseq ?_
 refine op [] [2] (OT.alloc zc158) trivial trivial z4 (fun _ => rfl) fun b1 => ?_
 refine HQ.done ?_
 refine HQ.keep [(0, _), (2, _)] z2 ?_
 refine HQ.rseq ?_
 refine pu Pu.move z1 z3 ?_
 obtain ⟨t2, h3, H⟩ := bnd H
 refine op [1] [1] (OT.callM (us := [_, _]) (PreX := [Box β_0 [vS a_0 p0.b c_0, vI p0.i, vI p0.h]]) (PreL := []) [.tmp 3, .const (vI 30)] Try.call86 rfl rfl fun w FX FL hs1 hF1 hs2 hF2 hp => spec_l1Below_c (p0 := p0) (p1 := 30) hs1 hF1 (hb_0.passY hp) h3) z3 z1 z4 (fun _ => rfl) fun _ => ?_
 refine pu Pu.add z2 z3 ?_
 refine pu Pu.move z1 z3 ?_
 obtain ⟨t4, h5, H⟩ := bnd H
 refine op [1] [1] (OT.callM (us := [_]) (PreX := [Box β_0 [vS a_0 p0.b c_0, vI t2.2.i, vI t2.2.h]]) (PreL := []) [.tmp 6] Try.call139 rfl rfl fun w FX FL hs1 hF1 hs2 hF2 hp => spec_l2Draw_c (p0 := (⟨p0.b, t2.2.i, t2.2.h⟩ : TCur)) hs1 hF1 (hb_0.passY hp) h5) z2 z1 z4 (fun _ => rfl) fun _ => ?_
 refine pu (Pu.build (us := [vI (wrap64 (1 + t2.1)), .agg #[vI t4.1.X0, vI t4.1.Y0, vI t4.1.X1, vI t4.1.Y1]]) (cs := [vI (wrap64 (1 + t2.1)), vI t4.1.X0, vI t4.1.Y0, vI t4.1.X1, vI t4.1.Y1]) [(0, .tmp 5), (1, .tmp 7)] st158 rfl rfl rfl) z2 z3 ?_
 refine HQ.opN [2] [2] [] (OT.storeC (cs' := [vI (wrap64 (1 + t2.1)), vI t4.1.X0, vI t4.1.Y0, vI t4.1.X1, vI t4.1.Y1]) sz158 rfl rfl rfl rfl rfl) z2 z1 rfl rfl rfl (fun _ => rfl) fun _ => ?_
 refine HQ.done ?_
 refine HQ.keep [(2, _)] z1 ?_
 refine HQ.ret ?_
 obtain rfl := Option.some.inj H
 exact HQ.fin (vs := [_]) Try.results140 () ⟨⟨_, _, 2, rfl, rfl, ag158, sz158, rfl⟩, trivial⟩ rfl [1] z1 rfl

theorem spec_ItemAt_c {w : World} {k : Nat} {p0 : (List TItem)} {p1 : Int} {a_0 : Option Addr} {c_0 : Nat} (hb_0 : BorS kTItem a_0 c_0 p0 w.heap (Lt w Nil)) {r : Int} (H : spec_ItemAt k p0 p1 = some r) :
  Calls Try.prog 141 #[vS a_0 p0 c_0, vI p1] w (Rt w Nil (fun _ : Unit => vI r) (fun _ => [])) := by
 rw [spec_ItemAt] at H
 refine Calls.enter0 (N := 20) (us := [_, _]) Try.func141 rfl rfl rfl ?_
 refine HQ.rseq ?_
 refine pu Pu.assign z1 z3 ?_
 refine HQ.done ?_
 refine HQ.keep [(0, _), (1, _), (4, _)] z3 ?_
 refine HQ.seq ?_
 refine HQ.rseq ?_
 refine pu Pu.assign z1 z3 ?_
 refine HQ.done ?_
 refine HQ.keep [(0, _), (1, _), (4, _), (5, _)] z4 ?_
 refine HQ.block ?_
 obtain ⟨o5, h7, H⟩ := bnd H
 refine HQ.loop h7 0 (fun (s : Int) (g : Unit) => match s, g with | i2, () => [(0, vS a_0 p0 c_0), (1, vI p1), (4, vI 0), (5, vI i2)]) (fun (s : Int) (g : Unit) => match s, g with | i2, () => []) (fun r => bodyPost Try.prog Try.f141 (Rt w Nil (fun _ : Unit => vI r) (fun _ => [])) .ret) () z4 trivial rfl ?_ ?_ ?_
 ·clear H h7
  rintro i2 _ o H
  rw [spec_ItemAt_b0] at H
  refine HQ.keep [(0, _), (1, _), (4, _), (5, _)] z4 ?_
  refine HQ.keepR [] trivial rfl ?_
  refine HQ.seq ?_
  refine HQ.rseq ?_
  refine pu Pu.move z1 z3 ?_
  refine pu Pu.move z1 z3 ?_
  refine pu (Pu.len ul153) z1 z3 ?_
  refine pu Pu.lss z2 z3 ?_
  refine HQ.done ?_
  refine HQ.keep [(0, _), (1, _), (4, _), (5, _), (9, _)] z5 ?_
  rcases brk H with ⟨hc, H⟩ | ⟨hc, H⟩
  ·refine HQ.condT rfl hc ?_
   clear hc
   refine HQ.skipThen ?_
   refine HQ.seq ?_
   refine HQ.block ?_
   refine HQ.rseq ?_
   refine pu Pu.move z1 z3 ?_
   refine pu Pu.move z1 z3 ?_
   obtain ⟨h4, H⟩ := asr H
   refine op [] [] (OT.indexB ul153 sz158 hb_0 h4) z2 trivial z4 (fun _ => rfl) fun _ => ?_
   refine pu (Pu.fieldE fo158_0 rfl) z1 z3 ?_
   refine op [] [] (OT.loadF sc3 hb_0 h4 rfl) z1 trivial z4 (fun _ => rfl) fun _ => ?_
   refine pu Pu.move z1 z3 ?_
   refine pu Pu.eql z2 z3 ?_
   refine HQ.done ?_
   refine HQ.keep [(0, _), (1, _), (4, _), (5, _), (18, _)] z5 ?_
   rcases brk H with ⟨hc, H⟩ | ⟨hc, H⟩
   ·refine HQ.condT rfl hc ?_
    clear hc
    refine HQ.rseq ?_
    refine pu Pu.move z1 z3 ?_
    refine pu Pu.assign z1 z3 ?_
    refine HQ.done ?_
    refine HQ.keep [(0, _), (1, _), (4, _), (5, _)] z4 ?_
    refine HQ.ret ?_
    refine HQ.blkR ?_
    refine HQ.thenR ?_
    obtain rfl := Option.some.inj H
    refine HQ.retL ?_
    exact HQ.fin (vs := [_]) Try.results141 () z1 rfl [] trivial rfl
   ·refine HQ.condF rfl hc ?_
    clear hc
    refine HQ.skip ?_
    refine HQ.blkN ?_
    refine HQ.thenN ?_
    refine HQ.regionQ ?_
    refine pu Pu.move z1 z3 ?_
    refine pu Pu.add z2 z3 ?_
    refine pu Pu.assign z1 z3 ?_
    refine HQ.done ?_
    refine HQ.keep [(0, _), (1, _), (4, _), (5, _)] z4 ?_
    obtain rfl := Option.some.inj H
    exact HQ.next () z4 trivial rfl
  ·refine HQ.condF rfl hc ?_
   clear hc
   refine HQ.exit ?_
   refine HQ.thenE ?_
   obtain rfl := Option.some.inj H
   exact HQ.out () z4 trivial rfl
 ·rintro i6 rfl _
  clear h7
  replace H := H
  refine HQ.keep [(0, _), (1, _), (4, _), (5, _)] z4 ?_
  refine HQ.keepR [] trivial rfl ?_
  refine HQ.blkE ?_
  refine HQ.thenN ?_
  refine HQ.rseq ?_
  refine pu Pu.assign z1 z3 ?_
  refine HQ.done ?_
  refine HQ.keep [(4, _)] z1 ?_
  refine HQ.ret ?_
  obtain rfl := Option.some.inj H
  exact HQ.fin (vs := [_]) Try.results141 () z1 rfl [] trivial rfl
 ·rintro r rfl a w hr
  obtain rfl := Option.some.inj H
  exact hr

theorem spec_l4List_c {w : World} {k : Nat} {p0 : TCur} {p1 : Int} {β_0 : Nat} {a_0 : Option Addr} {c_0 : Nat} {F0 : Fp} (hs0 : Sat [Box β_0 [vS a_0 p0.b c_0, vI p0.i, vI p0.h]] w.heap F0) (hF0 : ∀ b, F0 b → b < w.heap.size) (hb_0 : BorS kU8 a_0 c_0 p0.b w.heap (Lt w F0)) {r : (List TItem) × TCur} (H : spec_l4List k p0 p1 = some r) :
  Calls Try.prog 136 #[BP β_0 0, vI p1] w (Rt w F0 (fun g : Option Addr × Nat => vS g.1 r.1 g.2) (fun g => [OwnS kTItem g.1 g.2 r.1, Box β_0 [vS a_0 p0.b c_0, vI r.2.i, vI r.2.h]])) := by
 rw [spec_l4List] at H
 refine Calls.enter (N := 29) (us := [_, _]) (F0 := F0) (Γ0 := [(1, Box β_0 [vS a_0 p0.b c_0, vI p0.i, vI p0.h])]) Try.func136 rfl rfl rfl hs0 hF0 ?_
 refine HQ.rseq ?_
 refine pu Pu.assign z1 z3 ?_
 refine HQ.done ?_
 refine HQ.keep [(0, _), (1, _), (4, _)] z3 ?_
 refine HQ.rseq ?_
 refine op [] [2] (OT.buildF (us := []) (ys := ([] : (List TItem))) (enc := encTItem) (hl := fun _ => ⟨rfl, rfl⟩) [] sl153.ul sl153.szE sl153.zc rfl rfl rfl rfl rfl) trivial trivial z4 (fun _ => rfl) fun ⟨a1, c2⟩ => ?_
 refine pu Pu.assign z1 z3 ?_
 refine HQ.done ?_
 refine HQ.keep [(0, _), (1, _), (4, _), (5, _)] z4 ?_
 refine HQ.seq ?_
 refine HQ.rseq ?_
 refine pu Pu.move z1 z3 ?_
 refine pu Pu.move z1 z3 ?_
 refine pu Pu.add z2 z3 ?_
 obtain ⟨t3, h4, H⟩ := bnd H
 refine op [1] [1] (OT.callM (us := [_, _]) (PreX := [Box β_0 [vS a_0 p0.b c_0, vI p0.i, vI p0.h]]) (PreL := []) [.tmp 9, .tmp 11] Try.call86 rfl rfl fun w FX FL hs1 hF1 hs2 hF2 hp => spec_l1Below_c (p0 := p0) (p1 := (wrap64 (p1 + 1))) hs1 hF1 (hb_0.passY hp) h4) z3 z1 z4 (fun _ => rfl) fun _ => ?_
 refine pu Pu.assign z1 z3 ?_
 refine HQ.done ?_
 refine HQ.keep [(0, _), (4, _), (5, _), (6, _)] z4 ?_
 refine HQ.block ?_
 obtain ⟨o41, h48, H⟩ := bnd H
 refine HQ.loop h48 0 (fun (s : (List TItem) × Int × Int × Int) (g : Option Addr × Nat) => match s, g with | (l15, i18, i19, i20), (a16, c17) => [(0, BP β_0 0), (4, .slice none 0 0), (5, vS a16 l15 c17), (6, vI i18)]) (fun (s : (List TItem) × Int × Int × Int) (g : Option Addr × Nat) => match s, g with | (l15, i18, i19, i20), (a16, c17) => [(1, Box β_0 [vS a_0 p0.b c_0, vI i19, vI i20]), (2, OwnS kTItem a16 c17 l15)]) (fun _ _ _ => False) (a1, c2) z4 z2 rfl ?_ ?_ ?_
 ·clear H h48
  rintro ⟨l15, i18, i19, i20⟩ ⟨a16, c17⟩ o H
  rw [spec_l4List_b0] at H
  refine HQ.keep [(0, _), (4, _), (5, _), (6, _)] z4 ?_
  refine HQ.keepR [(1, _), (2, _)] z2 rfl ?_
  refine HQ.seq ?_
  refine HQ.rseq ?_
  refine pu Pu.move z1 z3 ?_
  refine pu Pu.gtr z2 z3 ?_
  refine HQ.done ?_
  refine HQ.keep [(0, _), (4, _), (5, _), (6, _), (14, _)] z5 ?_
  rcases brk H with ⟨hc, H⟩ | ⟨hc, H⟩
  ·refine HQ.condT rfl hc ?_
   clear hc
   refine HQ.skipThen ?_
   refine HQ.seq ?_
   refine HQ.block ?_
   refine HQ.rseq ?_
   refine pu Pu.move z1 z3 ?_
   obtain ⟨t31, h32, H⟩ := bnd H
   refine op [1] [1] (OT.callM (us := [_]) (PreX := [Box β_0 [vS a_0 p0.b c_0, vI i19, vI i20]]) (PreL := []) [.tmp 17] Try.call140 rfl rfl fun w FX FL hs1 hF1 hs2 hF2 hp => spec_l4Draw_c (p0 := (⟨p0.b, i19, i20⟩ : TCur)) hs1 hF1 (hb_0.passY hp) h32) z2 z1 z4 (fun _ => rfl) fun _ => ?_
   refine op [] [7] (OT.alloc zc158) trivial trivial z4 (fun _ => rfl) fun b33 => ?_
   refine HQ.opN [7] [7] [] (OT.storeC (cs' := [vI t31.1.Id, vI t31.1.R.X0, vI t31.1.R.Y0, vI t31.1.R.X1, vI t31.1.R.Y1]) sz158 rfl rfl rfl rfl rfl) z2 z1 rfl rfl rfl (fun _ => rfl) fun _ => ?_
   refine HQ.done ?_
   refine HQ.keep [(0, _), (4, _), (5, _), (6, _), (7, _)] z5 ?_
   refine HQ.rseq ?_
   refine pu Pu.move z1 z3 ?_
   refine pu (Pu.fieldB fo158_0 rfl) z1 z3 ?_
   refine op [7] [7] (OT.loadB sc3 rfl) z1 z1 z4 (fun _ => rfl) fun _ => ?_
   obtain ⟨t34, h35, H⟩ := bnd H
   refine op [2] [2] (OT.call (us := [_, _]) (Pre := [OwnS kTItem a16 c17 l15]) [.tmp 19, .tmp 21] Try.call141 rfl rfl fun w F hs hF hp => spec_ItemAt_c (hs.lend hF 0 rfl) h35) z3 z1 z4 (fun _ => rfl) fun _ => ?_
   refine pu Pu.lss z2 z3 ?_
   refine HQ.done ?_
   refine HQ.keep [(0, _), (4, _), (5, _), (6, _), (7, _), (23, _)] z6 ?_
   rcases brk H with ⟨hc, H⟩ | ⟨hc, H⟩
   ·refine HQ.condT rfl hc ?_
    clear hc
    refine HQ.regionQ ?_
    refine pu Pu.move z1 z3 ?_
    refine op [7] [7] (OT.loadBA (vs := [vI t31.1.Id, vI t31.1.R.X0, vI t31.1.R.Y0, vI t31.1.R.X1, vI t31.1.R.Y1]) ag158 sz158 rfl rfl) z1 z1 z4 (fun _ => rfl) fun _ => ?_
    refine op [] [8] (OT.buildF (us := [.agg #[vI t31.1.Id, vI t31.1.R.X0, vI t31.1.R.Y0, vI t31.1.R.X1, vI t31.1.R.Y1]]) (ys := ([t31.1] : (List TItem))) (enc := encTItem) (hl := fun _ => ⟨rfl, rfl⟩) [.tmp 25] sl153.ul sl153.szE sl153.zc rfl rfl rfl rfl rfl) z1 trivial z4 (fun _ => rfl) fun ⟨a36, c37⟩ => ?_
    obtain ⟨h40, H⟩ := asr H
    refine op [2, 8] [2, 8] (OT.appendG (enc := encTItem) (hl := fun _ => ⟨rfl, rfl⟩) sl153 ul153 h40) z2 z2 z4 (fun _ => rfl) fun ⟨a38, c39⟩ => ?_
    refine pu Pu.assign z1 z3 ?_
    refine HQ.done ?_
    refine HQ.keep [(0, _), (4, _), (5, _), (6, _)] z4 ?_
    refine HQ.blkN ?_
    refine HQ.thenN ?_
    refine HQ.regionQ ?_
    refine pu Pu.move z1 z3 ?_
    refine pu Pu.sub z2 z3 ?_
    refine pu Pu.assign z1 z3 ?_
    refine HQ.done ?_
    refine HQ.keep [(0, _), (4, _), (5, _), (6, _)] z4 ?_
    obtain rfl := Option.some.inj H
    exact HQ.next (a38, c39) z4 z2 rfl
   ·refine HQ.condF rfl hc ?_
    clear hc
    refine HQ.skip ?_
    refine HQ.blkN ?_
    refine HQ.thenN ?_
    refine HQ.regionQ ?_
    refine pu Pu.move z1 z3 ?_
    refine pu Pu.sub z2 z3 ?_
    refine pu Pu.assign z1 z3 ?_
    refine HQ.done ?_
    refine HQ.keep [(0, _), (4, _), (5, _), (6, _)] z4 ?_
    obtain rfl := Option.some.inj H
    exact HQ.next (a16, c17) z4 z2 rfl
  ·refine HQ.condF rfl hc ?_
   clear hc
   refine HQ.exit ?_
   refine HQ.thenE ?_
   obtain rfl := Option.some.inj H
   exact HQ.out (a16, c17) z4 z2 rfl
 ·rintro ⟨l42, i45, i46, i47⟩ rfl ⟨a43, c44⟩
  clear h48
  replace H := H
  refine HQ.keep [(0, _), (4, _), (5, _), (6, _)] z4 ?_
  refine HQ.keepR [(1, _), (2, _)] z2 rfl ?_
  refine HQ.blkE ?_
  refine HQ.thenN ?_
  refine HQ.rseq ?_
  refine pu Pu.move z1 z3 ?_
  refine pu Pu.assign z1 z3 ?_
  refine HQ.done ?_
  refine HQ.keep [(4, _)] z1 ?_
  refine HQ.ret ?_
  obtain rfl := Option.some.inj H
  exact HQ.fin (vs := [_]) Try.results136 (a43, c44) z1 rfl [2, 1] z2 rfl
 ·exact fun r h a w hf => hf.elim

theorem spec_LeafOf_c {w : World} {k : Nat} {p0 : (List TItem)} {a_0 : Option Addr} {c_0 : Nat} (hb_0 : BorS kTItem a_0 c_0 p0 w.heap (Lt w Nil)) {r : TNode} (H : spec_LeafOf k p0 = some r) :
  Calls Try.prog 137 #[vS a_0 p0 c_0] w (Rt w Nil (fun g : Option Addr × Nat => .agg #[.bool r.Leaf, vS g.1 r.L g.2]) (fun g => [OwnS kTEntry g.1 g.2 r.L])) := by
 rw [spec_LeafOf] at H
 refine Calls.enter0 (N := 29) (us := [_]) Try.func137 rfl rfl rfl ?_
 refine HQ.rseq ?_
 refine op [] [1] (OT.alloc zc47) trivial trivial z4 (fun _ => rfl) fun b1 => ?_
 refine HQ.done ?_
 refine HQ.keep [(0, _), (2, _)] z2 ?_
 refine HQ.rseq ?_
 refine pu (Pu.build (us := [.bool true]) (cs := [.bool true, .slice none 0 0]) [(0, .const (.bool true))] st47 rfl rfl rfl) z1 z3 ?_
 refine op [] [2] (OT.alloc zc47) trivial trivial z4 (fun _ => rfl) fun b2 => ?_
 refine HQ.opN [2] [2] [] (OT.storeC (cs' := [.bool true, .slice none 0 0]) sz47 rfl rfl rfl rfl rfl) z2 z1 rfl rfl rfl (fun _ => rfl) fun _ => ?_
 refine HQ.done ?_
 refine HQ.keep [(0, _), (2, _), (3, _)] z3 ?_
 refine HQ.seq ?_
 refine HQ.rseq ?_
 refine pu Pu.assign z1 z3 ?_
 refine HQ.done ?_
 refine HQ.keep [(0, _), (2, _), (3, _), (4, _)] z4 ?_
 refine HQ.block ?_
 refine HQ.nil kTEntry 5 rfl ?_
 obtain ⟨o31, h36, H⟩ := bnd H
 refine HQ.loop h36 0 (fun (s : Int × (List TEntry)) (g : Option Addr × Nat) => match s, g with | (i11, l12), (a13, c14) => [(0, vS a_0 p0 c_0), (2, BP b1 0), (3, BP b2 0), (4, vI i11)]) (fun (s : Int × (List TEntry)) (g : Option Addr × Nat) => match s, g with | (i11, l12), (a13, c14) => [(1, Box b1 [.bool false, .slice none 0 0]), (2, Box b2 [.bool true, vS a13 l12 c14]), (5, OwnS kTEntry a13 c14 l12)]) (fun _ _ _ => False) (none, 0) z4 z3 rfl ?_ ?_ ?_
 ·clear H h36
  rintro ⟨i11, l12⟩ ⟨a13, c14⟩ o H
  rw [spec_LeafOf_b0] at H
  refine HQ.keep [(0, _), (2, _), (3, _), (4, _)] z4 ?_
  refine HQ.keepR [(1, _), (2, _), (5, _)] z3 rfl ?_
  refine HQ.seq ?_
  refine HQ.rseq ?_
  refine pu Pu.move z1 z3 ?_
  refine pu Pu.move z1 z3 ?_
  refine pu (Pu.len ul153) z1 z3 ?_
  refine pu Pu.lss z2 z3 ?_
  refine HQ.done ?_
  refine HQ.keep [(0, _), (2, _), (3, _), (4, _), (9, _)] z5 ?_
  rcases brk H with ⟨hc, H⟩ | ⟨hc, H⟩
  ·refine HQ.condT rfl hc ?_
   clear hc
   refine HQ.skipThen ?_
   refine HQ.seq ?_
   refine HQ.block ?_
   obtain ⟨h24, H⟩ := asr H
   obtain ⟨h25, H⟩ := asr H
   refine HQ.draw mixd [(0, vS a_0 p0 c_0), (2, BP b1 0), (3, BP b2 0), (4, vI i11)] 14 [⟨[], [], []⟩, ⟨[0], [0], [0]⟩, ⟨[], [], []⟩, ⟨[], [], []⟩, ⟨[], [], [2, 3]⟩, ⟨[], [], [4]⟩, ⟨[], [], [5]⟩, ⟨[], [], []⟩, ⟨[], [], []⟩, ⟨[], [], [7, 8]⟩, ⟨[], [], [9]⟩, ⟨[], [], [10]⟩, ⟨[], [], [6, 11]⟩, ⟨[], [1], [12]⟩] [⟨none, none⟩, ⟨some 13, none⟩] (fun (g23 : (Option Addr × Nat)) => [BP b2 1, vS a13 l12 c14, vS a_0 p0 c_0, vI i11, EP a_0 i11 5 0, EP a_0 i11 5 0, vI ((gt p0 i11).Id), vS a_0 p0 c_0, vI i11, EP a_0 i11 5 0, EP a_0 i11 5 1, .agg #[vI ((gt p0 i11).R.X0), vI ((gt p0 i11).R.Y0), vI ((gt p0 i11).R.X1), vI ((gt p0 i11).R.Y1)], .agg #[vI ((gt p0 i11).Id), vI ((gt p0 i11).R.X0), vI ((gt p0 i11).R.Y0), vI ((gt p0 i11).R.X1), vI ((gt p0 i11).R.Y1)], vS g23.1 ([(⟨(gt p0 i11).Id, (gt p0 i11).R⟩ : TEntry)] : (List TEntry)) g23.2]) (fun (g23 : (Option Addr × Nat)) => [Box b2 [.bool true, vS a13 l12 c14], OwnS kTEntry g23.1 g23.2 ([(⟨(gt p0 i11).Id, (gt p0 i11).R⟩ : TEntry)] : (List TEntry))]) (none, 0) [2] [2, 7] [] z4 z1 rfl (by kernel_rfl) (fun _ => rfl) (by kernel_rfl) (fun _ => rfl) ⟨?_, ?_, ?_, ?_, ?_, ?_, ?_, ?_, ?_, ?_, ?_, ?_, ?_, ?_, trivial⟩ fun g23 => ?_
   ·exact OpOK.pu (fun g23 => [(.tmp 3, BP b2 0)]) z2 (fun _ => z1) (fun _ => (Pu.fieldB fo47_1 rfl)) (fun _ => z1) (fun _ _ => z4)
   ·exact OpOK.of (fun g23 => [(.tmp 12, BP b2 1)]) _ _ (fun g23 _ => g23) rfl rfl (fun _ => z1) (fun g23 => OT.loadB sc45 rfl) (fun _ _ => z4)
   ·exact OpOK.pu (fun g23 => [(.tmp 0, vS a_0 p0 c_0)]) z2 (fun _ => z1) (fun _ => Pu.move) (fun _ => z1) (fun _ _ => z4)
   ·exact OpOK.pu (fun g23 => [(.tmp 4, vI i11)]) z2 (fun _ => z1) (fun _ => Pu.move) (fun _ => z1) (fun _ _ => z4)
   ·exact OpOK.of (fun g23 => [(.tmp 14, vS a_0 p0 c_0), (.tmp 15, vI i11)]) _ _ (fun g23 _ => g23) rfl rfl (fun _ => z2) (fun g23 => OT.indexB ul153 sz158 hb_0 h24) (fun _ _ => z4)
   ·exact OpOK.pu (fun g23 => [(.tmp 16, EP a_0 i11 5 0)]) z2 (fun _ => z1) (fun _ => (Pu.fieldE fo158_0 rfl)) (fun _ => z1) (fun _ _ => z4)
   ·exact OpOK.of (fun g23 => [(.tmp 17, EP a_0 i11 5 0)]) _ _ (fun g23 _ => g23) rfl rfl (fun _ => z1) (fun g23 => OT.loadF sc3 hb_0 h24 rfl) (fun _ _ => z4)
   ·exact OpOK.pu (fun g23 => [(.tmp 0, vS a_0 p0 c_0)]) z2 (fun _ => z1) (fun _ => Pu.move) (fun _ => z1) (fun _ _ => z4)
   ·exact OpOK.pu (fun g23 => [(.tmp 4, vI i11)]) z2 (fun _ => z1) (fun _ => Pu.move) (fun _ => z1) (fun _ _ => z4)
   ·exact OpOK.of (fun g23 => [(.tmp 19, vS a_0 p0 c_0), (.tmp 20, vI i11)]) _ _ (fun g23 _ => g23) rfl rfl (fun _ => z2) (fun g23 => OT.indexB ul153 sz158 hb_0 h25) (fun _ _ => z4)
   ·exact OpOK.pu (fun g23 => [(.tmp 21, EP a_0 i11 5 0)]) z2 (fun _ => z1) (fun _ => (Pu.fieldE fo158_1 rfl)) (fun _ => z1) (fun _ _ => z4)
   ·exact OpOK.of (fun g23 => [(.tmp 22, EP a_0 i11 5 1)]) _ _ (fun g23 _ => g23) rfl rfl (fun _ => z1) (fun g23 => OT.loadFA (vs := [vI ((gt p0 i11).R.X0), vI ((gt p0 i11).R.Y0), vI ((gt p0 i11).R.X1), vI ((gt p0 i11).R.Y1)]) ag132 sz132 hb_0 h25 rfl rfl) (fun _ _ => z4)
   ·exact OpOK.pu (fun g23 => [(.tmp 18, vI ((gt p0 i11).Id)), (.tmp 23, .agg #[vI ((gt p0 i11).R.X0), vI ((gt p0 i11).R.Y0), vI ((gt p0 i11).R.X1), vI ((gt p0 i11).R.Y1)])]) z2 (fun _ => z2) (fun _ => (Pu.build (us := [vI ((gt p0 i11).Id), .agg #[vI ((gt p0 i11).R.X0), vI ((gt p0 i11).R.Y0), vI ((gt p0 i11).R.X1), vI ((gt p0 i11).R.Y1)]]) (cs := [vI ((gt p0 i11).Id), vI ((gt p0 i11).R.X0), vI ((gt p0 i11).R.Y0), vI ((gt p0 i11).R.X1), vI ((gt p0 i11).R.Y1)]) [(0, .tmp 18), (1, .tmp 23)] st134 rfl rfl rfl)) (fun _ => z1) (fun _ _ => z4)
   ·exact OpOK.of (fun g23 => [(.tmp 24, .agg #[vI ((gt p0 i11).Id), vI ((gt p0 i11).R.X0), vI ((gt p0 i11).R.Y0), vI ((gt p0 i11).R.X1), vI ((gt p0 i11).R.Y1)])]) _ _ (fun g23 x => x) rfl rfl (fun _ => z1) (fun g23 => OT.buildF (us := [.agg #[vI ((gt p0 i11).Id), vI ((gt p0 i11).R.X0), vI ((gt p0 i11).R.Y0), vI ((gt p0 i11).R.X1), vI ((gt p0 i11).R.Y1)]]) (ys := ([(⟨(gt p0 i11).Id, (gt p0 i11).R⟩ : TEntry)] : (List TEntry))) (enc := encTEntry) (hl := fun _ => ⟨rfl, rfl⟩) [.tmp 24] sl45.ul sl45.szE sl45.zc rfl rfl rfl rfl rfl) (fun _ _ => z4)
   refine HQ.keep [(0, _), (2, _), (3, _), (4, _), (13, _), (25, _)] z6 ?_
   refine HQ.keepR [(1, _), (2, _), (5, _), (7, _)] z4 rfl ?_
   obtain ⟨h30, H⟩ := asr H
   refine op [5, 7] [5, 7] (OT.appendG (enc := encTEntry) (hl := fun _ => ⟨rfl, rfl⟩) sl45 ul45 h30) z2 z2 z4 (fun _ => rfl) fun ⟨a28, c29⟩ => ?_
   refine pu (Pu.fieldB fo47_1 rfl) z1 z3 ?_
   refine HQ.opN [2] [2] [] (OT.storeC (cs' := [.bool true, vS a28 (l12 ++ ([(⟨(gt p0 i11).Id, (gt p0 i11).R⟩ : TEntry)] : (List TEntry))) c29]) sz45 rfl rfl rfl rfl rfl) z2 z1 rfl rfl rfl (fun _ => rfl) fun _ => ?_
   refine HQ.done ?_
   refine HQ.keep [(0, _), (2, _), (3, _), (4, _)] z4 ?_
   refine HQ.blkN ?_
   refine HQ.thenN ?_
   refine HQ.regionQ ?_
   refine pu Pu.move z1 z3 ?_
   refine pu Pu.add z2 z3 ?_
   refine pu Pu.assign z1 z3 ?_
   refine HQ.done ?_
   refine HQ.keep [(0, _), (2, _), (3, _), (4, _)] z4 ?_
   obtain rfl := Option.some.inj H
   exact HQ.next (a28, c29) z4 z3 rfl
  ·refine HQ.condF rfl hc ?_
   clear hc
   refine HQ.exit ?_
   refine HQ.thenE ?_
   obtain rfl := Option.some.inj H
   exact HQ.out (a13, c14) z4 z3 rfl
 ·rintro ⟨i32, l33⟩ rfl ⟨a34, c35⟩
  clear h36
  replace H := H
  refine HQ.keep [(0, _), (2, _), (3, _), (4, _)] z4 ?_
  refine HQ.keepR [(1, _), (2, _), (5, _)] z3 rfl ?_
  refine HQ.blkE ?_
  refine HQ.thenN ?_
  refine HQ.rseq ?_
  refine op [2] [2] (OT.loadBA (vs := [.bool true, vS a34 l33 c35]) ag47 sz47 rfl rfl) z1 z1 z4 (fun _ => rfl) fun _ => ?_
  refine HQ.opN [1] [1] [] (OT.storeC (cs' := [.bool true, vS a34 l33 c35]) sz47 rfl rfl rfl rfl rfl) z2 z1 rfl rfl rfl (fun _ => rfl) fun _ => ?_
  refine HQ.done ?_
  refine HQ.keep [(2, _)] z1 ?_
  refine HQ.ret ?_
  obtain rfl := Option.some.inj H
  exact HQ.fin (vs := [_]) Try.results137 (a34, c35) ⟨⟨_, _, 1, rfl, rfl, ag47, sz47, rfl⟩, trivial⟩ rfl [5] z1 rfl
 ·exact fun r h a w hf => hf.elim

theorem spec_l5Draw_c {w : World} {k : Nat} {p0 : TCur} {β_0 : Nat} {a_0 : Option Addr} {c_0 : Nat} {F0 : Fp} (hs0 : Sat [Box β_0 [vS a_0 p0.b c_0, vI p0.i, vI p0.h]] w.heap F0) (hF0 : ∀ b, F0 b → b < w.heap.size) (hb_0 : BorS kU8 a_0 c_0 p0.b w.heap (Lt w F0)) {r : TNode × TCur} (H : spec_l5Draw k p0 = some r) :
  Calls Try.prog 124 #[BP β_0 0] w (Rt w F0 (fun g : Option Addr × Nat => .agg #[.bool r.1.Leaf, vS g.1 r.1.L g.2]) (fun g => [OwnS kTEntry g.1 g.2 r.1.L, Box β_0 [vS a_0 p0.b c_0, vI r.2.i, vI r.2.h]])) := by
 rw [spec_l5Draw] at H
 refine Calls.enter (N := 18) (us := [_]) (F0 := F0) (Γ0 := [(1, Box β_0 [vS a_0 p0.b c_0, vI p0.i, vI p0.h])]) Try.func124 rfl rfl rfl hs0 hF0 ?_
 refine HQ.rseq ?_
 refine op [] [2] (OT.alloc zc47) trivial trivial z4 (fun _ => rfl) fun b1 => ?_
 refine HQ.done ?_
 refine HQ.keep [(0, _), (2, _)] z2 ?_
 refine HQ.rseq ?_
 refine pu Pu.move z1 z3 ?_
 obtain ⟨t2, h3, H⟩ := bnd H
 refine op [1] [3, 1] (OT.callM (us := [_, _]) (PreX := [Box β_0 [vS a_0 p0.b c_0, vI p0.i, vI p0.h]]) (PreL := []) [.tmp 5, .const (vI 4)] Try.call136 rfl rfl fun w FX FL hs1 hF1 hs2 hF2 hp => spec_l4List_c (p0 := p0) (p1 := 4) hs1 hF1 (hb_0.passY hp) h3) z3 z1 z4 (fun _ => rfl) fun ⟨a4, c5⟩ => ?_
 refine pu Pu.assign z1 z3 ?_
 refine HQ.done ?_
 refine HQ.keep [(0, _), (2, _), (3, _)] z3 ?_
 refine HQ.rseq ?_
 refine pu Pu.move z1 z3 ?_
 obtain ⟨t6, h7, H⟩ := bnd H
 refine op [3] [4, 3] (OT.call (us := [_]) (Pre := [OwnS kTItem a4 c5 t2.1]) [.tmp 7] Try.call137 rfl rfl fun w F hs hF hp => spec_LeafOf_c (hs.lend hF 0 rfl) h7) z2 z1 z4 (fun _ => rfl) fun ⟨a8, c9⟩ => ?_
 refine op [] [5] (OT.alloc zc47) trivial trivial z4 (fun _ => rfl) fun b10 => ?_
 refine HQ.opN [5] [5] [] (OT.storeC (cs' := [.bool t6.Leaf, vS a8 t6.L c9]) sz47 rfl rfl rfl rfl rfl) z2 z1 rfl rfl rfl (fun _ => rfl) fun _ => ?_
 refine HQ.done ?_
 refine HQ.keep [(0, _), (2, _), (3, _), (4, _)] z4 ?_
 refine HQ.seq ?_
 refine HQ.rseq ?_
 refine pu Pu.move z1 z3 ?_
 refine pu (Pu.len ul153) z1 z3 ?_
 refine pu Pu.gtr z2 z3 ?_
 refine pu Pu.move z1 z3 ?_
 obtain ⟨c14, h15, H⟩ := bnd H
 refine HQ.cutAt 3 [(15, .bool c14.1), (2, BP b1 0), (4, BP b10 0)] [(1, Box β_0 [vS a_0 p0.b c_0, vI c14.2.1, vI c14.2.2]), (2, Box b1 [.bool false, .slice none 0 0]), (3, OwnS kTItem a4 c5 t2.1), (4, OwnS kTEntry a8 c9 t6.L), (5, Box b10 [.bool t6.Leaf, vS a8 t6.L c9])] ?_ ?_
 ·clear H
  have H := h15
  rcases brk H with ⟨hg11, H⟩ | ⟨hg11, H⟩
  ·refine HQ.on rfl rfl hg11 ?_
   refine pu Pu.move z1 z3 ?_
   refine HQ.on rfl rfl hg11 ?_
   obtain ⟨t12, h13, H⟩ := bnd H
   refine op [1] [1] (OT.callM (us := [_, _]) (PreX := [Box β_0 [vS a_0 p0.b c_0, vI t2.2.i, vI t2.2.h]]) (PreL := []) [.tmp 13, .const (vI 3)] Try.call87 rfl rfl fun w FX FL hs1 hF1 hs2 hF2 hp => spec_l1Once_c (p0 := (⟨p0.b, t2.2.i, t2.2.h⟩ : TCur)) (p1 := 3) hs1 hF1 (hb_0.passY hp) h13) z3 z1 z4 (fun _ => rfl) fun _ => ?_
   obtain rfl := Option.some.inj H
   refine pu (Pu.pickC1 hg11) z2 z3 ?_
   exact HQ.mid z3 z5 rfl
  ·obtain rfl := Option.some.inj H
   refine HQ.off rfl rfl hg11 rfl ?_
   refine HQ.off rfl rfl hg11 rfl ?_
   refine pu (Pu.pickC0 hg11) z2 z3 ?_
   exact HQ.mid z3 z5 rfl
 refine HQ.done ?_
 refine HQ.keep [(15, _), (2, _), (4, _)] z3 ?_
 rcases brk H with ⟨hc, H⟩ | ⟨hc, H⟩
 ·refine HQ.condT rfl hc ?_
  clear hc
  refine HQ.region ?_
  refine pu (Pu.fieldB fo47_0 rfl) z1 z3 ?_
  refine HQ.opN [5] [5] [] (OT.storeC (cs' := [.bool false, vS a8 t6.L c9]) sz4 rfl rfl rfl rfl rfl) z2 z1 rfl rfl rfl (fun _ => rfl) fun _ => ?_
  refine HQ.done ?_
  refine HQ.keep [(2, _), (4, _)] z2 ?_
  refine HQ.rseq ?_
  refine op [5] [5] (OT.loadBA (vs := [.bool false, vS a8 t6.L c9]) ag47 sz47 rfl rfl) z1 z1 z4 (fun _ => rfl) fun _ => ?_
  refine HQ.opN [2] [2] [] (OT.storeC (cs' := [.bool false, vS a8 t6.L c9]) sz47 rfl rfl rfl rfl rfl) z2 z1 rfl rfl rfl (fun _ => rfl) fun _ => ?_
  refine HQ.done ?_
  refine HQ.keep [(2, _)] z1 ?_
  refine HQ.ret ?_
  obtain rfl := Option.some.inj H
  exact HQ.fin (vs := [_]) Try.results124 (a8, c9) ⟨⟨_, _, 2, rfl, rfl, ag47, sz47, rfl⟩, trivial⟩ rfl [4, 1] z2 rfl
 ·refine HQ.condF rfl hc ?_
  clear hc
  refine HQ.skipThen ?_
  refine HQ.rseq ?_
  refine op [5] [5] (OT.loadBA (vs := [.bool t6.Leaf, vS a8 t6.L c9]) ag47 sz47 rfl rfl) z1 z1 z4 (fun _ => rfl) fun _ => ?_
  refine HQ.opN [2] [2] [] (OT.storeC (cs' := [.bool t6.Leaf, vS a8 t6.L c9]) sz47 rfl rfl rfl rfl rfl) z2 z1 rfl rfl rfl (fun _ => rfl) fun _ => ?_
  refine HQ.done ?_
  refine HQ.keep [(2, _)] z1 ?_
  refine HQ.ret ?_
  obtain rfl := Option.some.inj H
  exact HQ.fin (vs := [_]) Try.results124 (a8, c9) ⟨⟨_, _, 2, rfl, rfl, ag47, sz47, rfl⟩, trivial⟩ rfl [4, 1] z2 rfl

end Go.Proofs.Sx
