import Derived.Test.YtkhommmhkeohbaaProg
import Derived.Test.YtkhommmhkeohbaaLG
import Derived.Test.YtkhommmhkeohbaaQcD
import Derived.KernelRfl
namespace Go.Proofs.Sx
open Go.RowKit
set_option linter.unusedVariables false
set_option linter.unusedSimpArgs false
set_option maxRecDepth 20000
set_option maxHeartbeats 1000000
def encTHead (x : THead) : List Value := [.int .i64 x.Epoch, .int .i64 x.Seq, .int .i64 x.Root, .int .i64 x.Size]
def kTHead : Kd THead := .flat 4 encTHead fun _ => ⟨rfl, rfl⟩
def encTWet (x : TWet) (v : Value) : List Value := [.int .i64 x.At, v]
theorem hlTWet (x : TWet) (v : Value) (hv : cellV v = true) : (encTWet x v).length = 2 ∧ (encTWet x v).all cellV = true := ⟨rfl, by cases v <;> first | rfl | cases hv⟩
def kTWet : Kd TWet := .one 2 encTWet hlTWet kU8 fun x => x.B
def encTCell (x : TCell) (v : Value) : List Value := [.bool x.Bad, v]
theorem hlTCell (x : TCell) (v : Value) (hv : cellV v = true) : (encTCell x v).length = 2 ∧ (encTCell x v).all cellV = true := ⟨rfl, by cases v <;> first | rfl | cases hv⟩
def kTCell : Kd TCell := .one 2 encTCell hlTCell kU8 fun x => x.B
def encTCur (x : TCur) (v : Value) : List Value := [v, .int .i64 x.i, .int .i64 x.h]
theorem hlTCur (x : TCur) (v : Value) (hv : cellV v = true) : (encTCur x v).length = 3 ∧ (encTCur x v).all cellV = true := ⟨rfl, by cases v <;> first | rfl | cases hv⟩
def kTCur : Kd TCur := .one 3 encTCur hlTCur kU8 fun x => x.b
theorem mixd : Try.prog.follows .mixedOrders = true := by kernel_rfl
theorem ag110 : Tag Try.prog 110 = true := by kernel_rfl
theorem ag113 : Tag Try.prog 113 = true := by kernel_rfl
theorem ag27 : Tag Try.prog 27 = true := by kernel_rfl
theorem ag68 : Tag Try.prog 68 = true := by kernel_rfl
theorem ef68 : Tef Try.prog 68 = some [(3, 0), (3, 1), (3, 2), (3, 3)] := by kernel_rfl
theorem fo110_0 : Tfo Try.prog 110 0 = some 0 := by kernel_rfl
theorem fo110_1 : Tfo Try.prog 110 1 = some 1 := by kernel_rfl
theorem fo113_0 : Tfo Try.prog 113 0 = some 0 := by kernel_rfl
theorem fo113_1 : Tfo Try.prog 113 1 = some 1 := by kernel_rfl
theorem fo144_0 : Tfo Try.prog 144 0 = some 0 := by kernel_rfl
theorem fo144_1 : Tfo Try.prog 144 1 = some 1 := by kernel_rfl
theorem fo144_2 : Tfo Try.prog 144 2 = some 2 := by kernel_rfl
theorem fo27_0 : Tfo Try.prog 27 0 = some 0 := by kernel_rfl
theorem fo27_1 : Tfo Try.prog 27 1 = some 1 := by kernel_rfl
theorem fo27_2 : Tfo Try.prog 27 2 = some 2 := by kernel_rfl
theorem fo27_3 : Tfo Try.prog 27 3 = some 3 := by kernel_rfl
theorem fo68_0 : Tfo Try.prog 68 0 = some 0 := by kernel_rfl
theorem fo68_1 : Tfo Try.prog 68 1 = some 1 := by kernel_rfl
theorem fo68_2 : Tfo Try.prog 68 2 = some 2 := by kernel_rfl
theorem fo68_3 : Tfo Try.prog 68 3 = some 3 := by kernel_rfl
theorem gq68 : Try.prog.eqGuardType Try.prog.depth 68 = false := by kernel_rfl
theorem sc22 : Tsc Try.prog 22 = true := by kernel_rfl
theorem sc24 : Tsc Try.prog 24 = true := by kernel_rfl
theorem sc25 : Tsc Try.prog 25 = true := by kernel_rfl
theorem sc3 : Tsc Try.prog 3 = true := by kernel_rfl
theorem sc4 : Tsc Try.prog 4 = true := by kernel_rfl
theorem sc5 : Tsc Try.prog 5 = true := by kernel_rfl
theorem sl22 : SlT Try.prog 22 5 1 1 [.int .u8 0] := ⟨by kernel_rfl, by kernel_rfl, by kernel_rfl, rfl, by kernel_rfl, rfl⟩
theorem sl24 : SlT Try.prog 24 113 2 32 [.bool false, .slice none 0 0] := ⟨by kernel_rfl, by kernel_rfl, by kernel_rfl, rfl, by kernel_rfl, rfl⟩
theorem sl25 : SlT Try.prog 25 110 2 32 [.int .i64 0, .slice none 0 0] := ⟨by kernel_rfl, by kernel_rfl, by kernel_rfl, rfl, by kernel_rfl, rfl⟩
theorem sl33 : SlT Try.prog 33 3 1 8 [.int .i64 0] := ⟨by kernel_rfl, by kernel_rfl, by kernel_rfl, rfl, by kernel_rfl, rfl⟩
theorem st110 : Tst Try.prog 110 = some ([.int .i64 0, .slice none 0 0], [(0, 1), (1, 1)]) := by kernel_rfl
theorem st113 : Tst Try.prog 113 = some ([.bool false, .slice none 0 0], [(0, 1), (1, 1)]) := by kernel_rfl
theorem st144 : Tst Try.prog 144 = some ([.slice none 0 0, .int .i64 0, .int .i64 0], [(0, 1), (1, 1), (2, 1)]) := by kernel_rfl
theorem st27 : Tst Try.prog 27 = some ([.slice none 0 0, .slice none 0 0, .int .i64 0, .bool false], [(0, 1), (1, 1), (2, 1), (3, 1)]) := by kernel_rfl
theorem st68 : Tst Try.prog 68 = some ([.int .i64 0, .int .i64 0, .int .i64 0, .int .i64 0], [(0, 1), (1, 1), (2, 1), (3, 1)]) := by kernel_rfl
theorem sz110 : Tsz Try.prog 110 = some 2 := by kernel_rfl
theorem sz113 : Tsz Try.prog 113 = some 2 := by kernel_rfl
theorem sz24 : Tsz Try.prog 24 = some 1 := by kernel_rfl
theorem sz25 : Tsz Try.prog 25 = some 1 := by kernel_rfl
theorem sz27 : Tsz Try.prog 27 = some 4 := by kernel_rfl
theorem sz3 : Tsz Try.prog 3 = some 1 := by kernel_rfl
theorem sz4 : Tsz Try.prog 4 = some 1 := by kernel_rfl
theorem sz5 : Tsz Try.prog 5 = some 1 := by kernel_rfl
theorem sz68 : Tsz Try.prog 68 = some 4 := by kernel_rfl
theorem ul22 : Try.prog.underlying 22 = some (.slice 5) := by kernel_rfl
theorem ul24 : Try.prog.underlying 24 = some (.slice 113) := by kernel_rfl
theorem ul25 : Try.prog.underlying 25 = some (.slice 110) := by kernel_rfl
theorem ul3 : Try.prog.underlying 3 = some (.int .i64) := by kernel_rfl
theorem ul33 : Try.prog.underlying 33 = some (.slice 3) := by kernel_rfl
theorem ul4 : Try.prog.underlying 4 = some (.bool) := by kernel_rfl
theorem ul5 : Try.prog.underlying 5 = some (.int .u8) := by kernel_rfl
theorem ul9 : Try.prog.underlying 9 = some .string := by kernel_rfl
theorem zc110 : Tzc Try.prog 110 = some [.int .i64 0, .slice none 0 0] := by kernel_rfl
theorem zc113 : Tzc Try.prog 113 = some [.bool false, .slice none 0 0] := by kernel_rfl
theorem zc27 : Tzc Try.prog 27 = some [.slice none 0 0, .slice none 0 0, .int .i64 0, .bool false] := by kernel_rfl
theorem zc68 : Tzc Try.prog 68 = some [.int .i64 0, .int .i64 0, .int .i64 0, .int .i64 0] := by kernel_rfl
theorem eqa68 (x y : THead) : EqA Try.prog 68 2 (.agg #[.int .i64 x.Epoch, .int .i64 x.Seq, .int .i64 x.Root, .int .i64 x.Size]) (.agg #[.int .i64 y.Epoch, .int .i64 y.Seq, .int .i64 y.Root, .int .i64 y.Size]) (decide (x = y)) := by
  refine (EqA.struct ef68 (EqFs.sc sc3 rfl rfl ((EqA.int ul3).up (by decide)) (EqFs.sc sc3 rfl rfl ((EqA.int ul3).up (by decide)) (EqFs.sc sc3 rfl rfl ((EqA.int ul3).up (by decide)) (EqFs.sc sc3 rfl rfl ((EqA.int ul3).up (by decide)) EqFs.nil))))).cast ?_
  rw [Bool.eq_iff_iff]
  cases x; cases y
  simp

end Go.Proofs.Sx
