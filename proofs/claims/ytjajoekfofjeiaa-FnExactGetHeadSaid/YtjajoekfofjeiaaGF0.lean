import Derived.Test.YtjajoekfofjeiaaProg
import Derived.Test.YtjajoekfofjeiaaLG
import Derived.Test.YtjajoekfofjeiaaGD
import Derived.KernelRfl
namespace Go.Proofs.Sx
open Go.RowKit
set_option linter.unusedVariables false
set_option linter.unusedSimpArgs false
set_option maxRecDepth 20000
set_option maxHeartbeats 1000000
def encTHead (x : THead) : List Value := [.int .i64 x.Epoch, .int .i64 x.Seq, .int .i64 x.Root, .int .i64 x.Size]
def kTHead : Kd THead := .flat 4 encTHead fun _ => ⟨rfl, rfl⟩
theorem mixd : Try.prog.follows .mixedOrders = true := by kernel_rfl
theorem ag25 : Tag Try.prog 25 = true := by kernel_rfl
theorem fo25_0 : Tfo Try.prog 25 0 = some 0 := by kernel_rfl
theorem fo25_1 : Tfo Try.prog 25 1 = some 1 := by kernel_rfl
theorem fo25_2 : Tfo Try.prog 25 2 = some 2 := by kernel_rfl
theorem fo25_3 : Tfo Try.prog 25 3 = some 3 := by kernel_rfl
theorem sc3 : Tsc Try.prog 3 = true := by kernel_rfl
theorem sc5 : Tsc Try.prog 5 = true := by kernel_rfl
theorem sl28 : SlT Try.prog 28 5 1 1 [.int .u8 0] := ⟨by kernel_rfl, by kernel_rfl, by kernel_rfl, rfl, by kernel_rfl, rfl⟩
theorem st25 : Tst Try.prog 25 = some ([.int .i64 0, .int .i64 0, .int .i64 0, .int .i64 0], [(0, 1), (1, 1), (2, 1), (3, 1)]) := by kernel_rfl
theorem sz25 : Tsz Try.prog 25 = some 4 := by kernel_rfl
theorem sz5 : Tsz Try.prog 5 = some 1 := by kernel_rfl
theorem ul28 : Try.prog.underlying 28 = some (.slice 5) := by kernel_rfl
theorem ul3 : Try.prog.underlying 3 = some (.int .i64) := by kernel_rfl
theorem ul4 : Try.prog.underlying 4 = some (.bool) := by kernel_rfl
theorem ul5 : Try.prog.underlying 5 = some (.int .u8) := by kernel_rfl
theorem ul9 : Try.prog.underlying 9 = some .string := by kernel_rfl
theorem zc25 : Tzc Try.prog 25 = some [.int .i64 0, .int .i64 0, .int .i64 0, .int .i64 0] := by kernel_rfl

end Go.Proofs.Sx
