import Derived.Test.YteeiibdkpdaniaaProg
import Derived.Test.YteeiibdkpdaniaaLG
import Derived.Test.YteeiibdkpdaniaaAD
import Derived.KernelRfl
namespace Go.Proofs.Sx
open Go.RowKit
set_option linter.unusedVariables false
set_option linter.unusedSimpArgs false
set_option maxRecDepth 20000
set_option maxHeartbeats 1000000
def encTWet (x : TWet) (v : Value) : List Value := [.int .i64 x.At, v]
theorem hlTWet (x : TWet) (v : Value) (hv : cellV v = true) : (encTWet x v).length = 2 ∧ (encTWet x v).all cellV = true := ⟨rfl, by cases v <;> first | rfl | cases hv⟩
def kTWet : Kd TWet := .one 2 encTWet hlTWet kU8 fun x => x.B
def encTCell (x : TCell) (v : Value) : List Value := [.bool x.Bad, v]
theorem hlTCell (x : TCell) (v : Value) (hv : cellV v = true) : (encTCell x v).length = 2 ∧ (encTCell x v).all cellV = true := ⟨rfl, by cases v <;> first | rfl | cases hv⟩
def kTCell : Kd TCell := .one 2 encTCell hlTCell kU8 fun x => x.B
theorem mixd : Try.prog.follows .mixedOrders = true := by kernel_rfl
theorem ag125 : Tag Try.prog 125 = true := by kernel_rfl
theorem ag127 : Tag Try.prog 127 = true := by kernel_rfl
theorem ag25 : Tag Try.prog 25 = true := by kernel_rfl
theorem ag33 : Tag Try.prog 33 = true := by kernel_rfl
theorem ag93 : Tag Try.prog 93 = true := by kernel_rfl
theorem ag96 : Tag Try.prog 96 = true := by kernel_rfl
theorem fo125_0 : Tfo Try.prog 125 0 = some 0 := by kernel_rfl
theorem fo125_1 : Tfo Try.prog 125 1 = some 1 := by kernel_rfl
theorem fo127_0 : Tfo Try.prog 127 0 = some 0 := by kernel_rfl
theorem fo127_1 : Tfo Try.prog 127 1 = some 1 := by kernel_rfl
theorem fo25_0 : Tfo Try.prog 25 0 = some 0 := by kernel_rfl
theorem fo25_1 : Tfo Try.prog 25 1 = some 1 := by kernel_rfl
theorem fo25_2 : Tfo Try.prog 25 2 = some 2 := by kernel_rfl
theorem fo25_3 : Tfo Try.prog 25 3 = some 3 := by kernel_rfl
theorem fo33_0 : Tfo Try.prog 33 0 = some 0 := by kernel_rfl
theorem fo33_1 : Tfo Try.prog 33 1 = some 1 := by kernel_rfl
theorem fo33_2 : Tfo Try.prog 33 2 = some 2 := by kernel_rfl
theorem fo33_3 : Tfo Try.prog 33 3 = some 3 := by kernel_rfl
theorem fo93_0 : Tfo Try.prog 93 0 = some 0 := by kernel_rfl
theorem fo93_1 : Tfo Try.prog 93 1 = some 1 := by kernel_rfl
theorem fo96_0 : Tfo Try.prog 96 0 = some 0 := by kernel_rfl
theorem fo96_1 : Tfo Try.prog 96 1 = some 1 := by kernel_rfl
theorem sc22 : Tsc Try.prog 22 = true := by kernel_rfl
theorem sc23 : Tsc Try.prog 23 = true := by kernel_rfl
theorem sc27 : Tsc Try.prog 27 = true := by kernel_rfl
theorem sc3 : Tsc Try.prog 3 = true := by kernel_rfl
theorem sc30 : Tsc Try.prog 30 = true := by kernel_rfl
theorem sc31 : Tsc Try.prog 31 = true := by kernel_rfl
theorem sc4 : Tsc Try.prog 4 = true := by kernel_rfl
theorem sc5 : Tsc Try.prog 5 = true := by kernel_rfl
theorem sl27 : SlT Try.prog 27 5 1 1 [.int .u8 0] := ⟨by kernel_rfl, by kernel_rfl, by kernel_rfl, rfl, by kernel_rfl, rfl⟩
theorem sl30 : SlT Try.prog 30 96 2 32 [.bool false, .slice none 0 0] := ⟨by kernel_rfl, by kernel_rfl, by kernel_rfl, rfl, by kernel_rfl, rfl⟩
theorem sl31 : SlT Try.prog 31 93 2 32 [.int .i64 0, .slice none 0 0] := ⟨by kernel_rfl, by kernel_rfl, by kernel_rfl, rfl, by kernel_rfl, rfl⟩
theorem sz125 : Tsz Try.prog 125 = some 2 := by kernel_rfl
theorem sz127 : Tsz Try.prog 127 = some 2 := by kernel_rfl
theorem sz25 : Tsz Try.prog 25 = some 4 := by kernel_rfl
theorem sz27 : Tsz Try.prog 27 = some 1 := by kernel_rfl
theorem sz3 : Tsz Try.prog 3 = some 1 := by kernel_rfl
theorem sz30 : Tsz Try.prog 30 = some 1 := by kernel_rfl
theorem sz31 : Tsz Try.prog 31 = some 1 := by kernel_rfl
theorem sz33 : Tsz Try.prog 33 = some 4 := by kernel_rfl
theorem sz4 : Tsz Try.prog 4 = some 1 := by kernel_rfl
theorem sz5 : Tsz Try.prog 5 = some 1 := by kernel_rfl
theorem sz93 : Tsz Try.prog 93 = some 2 := by kernel_rfl
theorem sz96 : Tsz Try.prog 96 = some 2 := by kernel_rfl
theorem ul22 : Try.prog.underlying 22 = some (.slice 125) := by kernel_rfl
theorem ul23 : Try.prog.underlying 23 = some (.slice 127) := by kernel_rfl
theorem ul27 : Try.prog.underlying 27 = some (.slice 5) := by kernel_rfl
theorem ul3 : Try.prog.underlying 3 = some (.int .i64) := by kernel_rfl
theorem ul30 : Try.prog.underlying 30 = some (.slice 96) := by kernel_rfl
theorem ul31 : Try.prog.underlying 31 = some (.slice 93) := by kernel_rfl
theorem ul4 : Try.prog.underlying 4 = some (.bool) := by kernel_rfl
theorem ul5 : Try.prog.underlying 5 = some (.int .u8) := by kernel_rfl
theorem zc33 : Tzc Try.prog 33 = some [.slice none 0 0, .slice none 0 0, .int .i64 0, .bool false] := by kernel_rfl
theorem zc93 : Tzc Try.prog 93 = some [.int .i64 0, .slice none 0 0] := by kernel_rfl
theorem zc96 : Tzc Try.prog 96 = some [.bool false, .slice none 0 0] := by kernel_rfl

end Go.Proofs.Sx
