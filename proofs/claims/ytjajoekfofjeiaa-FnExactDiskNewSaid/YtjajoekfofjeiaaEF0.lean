import Derived.Test.YtjajoekfofjeiaaProg
import Derived.Test.YtjajoekfofjeiaaLG
import Derived.Test.YtjajoekfofjeiaaED
import Derived.KernelRfl
namespace Go.Proofs.Sx
open Go.RowKit
set_option linter.unusedVariables false
set_option linter.unusedSimpArgs false
set_option maxRecDepth 20000
set_option maxHeartbeats 1000000
def encTCell (x : TCell) (v : Value) : List Value := [.bool x.Bad, v]
theorem hlTCell (x : TCell) (v : Value) (hv : cellV v = true) : (encTCell x v).length = 2 ∧ (encTCell x v).all cellV = true := ⟨rfl, by cases v <;> first | rfl | cases hv⟩
def kTCell : Kd TCell := .one 2 encTCell hlTCell kU8 fun x => x.B
def encTWet (x : TWet) (v : Value) : List Value := [.int .i64 x.At, v]
theorem hlTWet (x : TWet) (v : Value) (hv : cellV v = true) : (encTWet x v).length = 2 ∧ (encTWet x v).all cellV = true := ⟨rfl, by cases v <;> first | rfl | cases hv⟩
def kTWet : Kd TWet := .one 2 encTWet hlTWet kU8 fun x => x.B
theorem mixd : Try.prog.follows .mixedOrders = true := by kernel_rfl
theorem ag35 : Tag Try.prog 35 = true := by kernel_rfl
theorem ag79 : Tag Try.prog 79 = true := by kernel_rfl
theorem ag82 : Tag Try.prog 82 = true := by kernel_rfl
theorem fo35_0 : Tfo Try.prog 35 0 = some 0 := by kernel_rfl
theorem fo35_1 : Tfo Try.prog 35 1 = some 1 := by kernel_rfl
theorem fo35_2 : Tfo Try.prog 35 2 = some 2 := by kernel_rfl
theorem fo35_3 : Tfo Try.prog 35 3 = some 3 := by kernel_rfl
theorem fo79_0 : Tfo Try.prog 79 0 = some 0 := by kernel_rfl
theorem fo79_1 : Tfo Try.prog 79 1 = some 1 := by kernel_rfl
theorem fo82_0 : Tfo Try.prog 82 0 = some 0 := by kernel_rfl
theorem fo82_1 : Tfo Try.prog 82 1 = some 1 := by kernel_rfl
theorem sc28 : Tsc Try.prog 28 = true := by kernel_rfl
theorem sc3 : Tsc Try.prog 3 = true := by kernel_rfl
theorem sc32 : Tsc Try.prog 32 = true := by kernel_rfl
theorem sc33 : Tsc Try.prog 33 = true := by kernel_rfl
theorem sc4 : Tsc Try.prog 4 = true := by kernel_rfl
theorem sc5 : Tsc Try.prog 5 = true := by kernel_rfl
theorem st35 : Tst Try.prog 35 = some ([.slice none 0 0, .slice none 0 0, .int .i64 0, .bool false], [(0, 1), (1, 1), (2, 1), (3, 1)]) := by kernel_rfl
theorem sz3 : Tsz Try.prog 3 = some 1 := by kernel_rfl
theorem sz35 : Tsz Try.prog 35 = some 4 := by kernel_rfl
theorem sz4 : Tsz Try.prog 4 = some 1 := by kernel_rfl
theorem sz5 : Tsz Try.prog 5 = some 1 := by kernel_rfl
theorem sz79 : Tsz Try.prog 79 = some 2 := by kernel_rfl
theorem sz82 : Tsz Try.prog 82 = some 2 := by kernel_rfl
theorem ul28 : Try.prog.underlying 28 = some (.slice 5) := by kernel_rfl
theorem ul3 : Try.prog.underlying 3 = some (.int .i64) := by kernel_rfl
theorem ul32 : Try.prog.underlying 32 = some (.slice 79) := by kernel_rfl
theorem ul33 : Try.prog.underlying 33 = some (.slice 82) := by kernel_rfl
theorem ul4 : Try.prog.underlying 4 = some (.bool) := by kernel_rfl
theorem ul5 : Try.prog.underlying 5 = some (.int .u8) := by kernel_rfl
theorem zc35 : Tzc Try.prog 35 = some [.slice none 0 0, .slice none 0 0, .int .i64 0, .bool false] := by kernel_rfl

end Go.Proofs.Sx
