import Derived.Test.YtpdebdoecadikaaProg
import Derived.Test.YtpdebdoecadikaaLG
import Derived.Test.YtpdebdoecadikaaJD
import Derived.KernelRfl
namespace Go.Proofs.Sx
open Go.RowKit
set_option linter.unusedVariables false
set_option linter.unusedSimpArgs false
set_option maxRecDepth 20000
set_option maxHeartbeats 1000000
def encTWet (x : TWet) (v : Value) : List Value := [.int .i64 x.At, v]
theorem hlTWet (x : TWet) (v : Value) (hv : cellV v = true) : (encTWet x v).length = 2 ∧ (encTWet x v).all cellV = true := ⟨rfl, by cases v <;> first | rfl | cases hv⟩
def kTWet : Kd TWet := .one 2 encTWet hlTWet kU8 fun x => x.B
def encTCell (x : TCell) (v : Value) : List Value := [.bool x.Bad, v]
theorem hlTCell (x : TCell) (v : Value) (hv : cellV v = true) : (encTCell x v).length = 2 ∧ (encTCell x v).all cellV = true := ⟨rfl, by cases v <;> first | rfl | cases hv⟩
def kTCell : Kd TCell := .one 2 encTCell hlTCell kU8 fun x => x.B
def encTCur (x : TCur) (v : Value) : List Value := [v, .int .i64 x.i, .int .i64 x.h]
theorem hlTCur (x : TCur) (v : Value) (hv : cellV v = true) : (encTCur x v).length = 3 ∧ (encTCur x v).all cellV = true := ⟨rfl, by cases v <;> first | rfl | cases hv⟩
def kTCur : Kd TCur := .one 3 encTCur hlTCur kU8 fun x => x.b
theorem mixd : Try.prog.follows .mixedOrders = true := by kernel_rfl
theorem ag30 : Tag Try.prog 30 = true := by kernel_rfl
theorem ag71 : Tag Try.prog 71 = true := by kernel_rfl
theorem ag79 : Tag Try.prog 79 = true := by kernel_rfl
theorem fo144_0 : Tfo Try.prog 144 0 = some 0 := by kernel_rfl
theorem fo144_1 : Tfo Try.prog 144 1 = some 1 := by kernel_rfl
theorem fo144_2 : Tfo Try.prog 144 2 = some 2 := by kernel_rfl
theorem fo30_0 : Tfo Try.prog 30 0 = some 0 := by kernel_rfl
theorem fo30_1 : Tfo Try.prog 30 1 = some 1 := by kernel_rfl
theorem fo30_2 : Tfo Try.prog 30 2 = some 2 := by kernel_rfl
theorem fo30_3 : Tfo Try.prog 30 3 = some 3 := by kernel_rfl
theorem fo71_0 : Tfo Try.prog 71 0 = some 0 := by kernel_rfl
theorem fo71_1 : Tfo Try.prog 71 1 = some 1 := by kernel_rfl
theorem fo79_0 : Tfo Try.prog 79 0 = some 0 := by kernel_rfl
theorem fo79_1 : Tfo Try.prog 79 1 = some 1 := by kernel_rfl
theorem sc27 : Tsc Try.prog 27 = true := by kernel_rfl
theorem sc28 : Tsc Try.prog 28 = true := by kernel_rfl
theorem sc3 : Tsc Try.prog 3 = true := by kernel_rfl
theorem sc4 : Tsc Try.prog 4 = true := by kernel_rfl
theorem sc5 : Tsc Try.prog 5 = true := by kernel_rfl
theorem sc63 : Tsc Try.prog 63 = true := by kernel_rfl
theorem sl27 : SlT Try.prog 27 79 2 32 [.bool false, .slice none 0 0] := ⟨by kernel_rfl, by kernel_rfl, by kernel_rfl, rfl, by kernel_rfl, rfl⟩
theorem sl28 : SlT Try.prog 28 71 2 32 [.int .i64 0, .slice none 0 0] := ⟨by kernel_rfl, by kernel_rfl, by kernel_rfl, rfl, by kernel_rfl, rfl⟩
theorem sl36 : SlT Try.prog 36 3 1 8 [.int .i64 0] := ⟨by kernel_rfl, by kernel_rfl, by kernel_rfl, rfl, by kernel_rfl, rfl⟩
theorem sl63 : SlT Try.prog 63 5 1 1 [.int .u8 0] := ⟨by kernel_rfl, by kernel_rfl, by kernel_rfl, rfl, by kernel_rfl, rfl⟩
theorem st144 : Tst Try.prog 144 = some ([.slice none 0 0, .int .i64 0, .int .i64 0], [(0, 1), (1, 1), (2, 1)]) := by kernel_rfl
theorem st30 : Tst Try.prog 30 = some ([.slice none 0 0, .slice none 0 0, .int .i64 0, .bool false], [(0, 1), (1, 1), (2, 1), (3, 1)]) := by kernel_rfl
theorem st71 : Tst Try.prog 71 = some ([.int .i64 0, .slice none 0 0], [(0, 1), (1, 1)]) := by kernel_rfl
theorem st79 : Tst Try.prog 79 = some ([.bool false, .slice none 0 0], [(0, 1), (1, 1)]) := by kernel_rfl
theorem sz27 : Tsz Try.prog 27 = some 1 := by kernel_rfl
theorem sz28 : Tsz Try.prog 28 = some 1 := by kernel_rfl
theorem sz3 : Tsz Try.prog 3 = some 1 := by kernel_rfl
theorem sz30 : Tsz Try.prog 30 = some 4 := by kernel_rfl
theorem sz4 : Tsz Try.prog 4 = some 1 := by kernel_rfl
theorem sz5 : Tsz Try.prog 5 = some 1 := by kernel_rfl
theorem sz71 : Tsz Try.prog 71 = some 2 := by kernel_rfl
theorem sz79 : Tsz Try.prog 79 = some 2 := by kernel_rfl
theorem ul27 : Try.prog.underlying 27 = some (.slice 79) := by kernel_rfl
theorem ul28 : Try.prog.underlying 28 = some (.slice 71) := by kernel_rfl
theorem ul3 : Try.prog.underlying 3 = some (.int .i64) := by kernel_rfl
theorem ul36 : Try.prog.underlying 36 = some (.slice 3) := by kernel_rfl
theorem ul4 : Try.prog.underlying 4 = some (.bool) := by kernel_rfl
theorem ul5 : Try.prog.underlying 5 = some (.int .u8) := by kernel_rfl
theorem ul63 : Try.prog.underlying 63 = some (.slice 5) := by kernel_rfl
theorem zc30 : Tzc Try.prog 30 = some [.slice none 0 0, .slice none 0 0, .int .i64 0, .bool false] := by kernel_rfl
theorem zc71 : Tzc Try.prog 71 = some [.int .i64 0, .slice none 0 0] := by kernel_rfl
theorem zc79 : Tzc Try.prog 79 = some [.bool false, .slice none 0 0] := by kernel_rfl

end Go.Proofs.Sx
