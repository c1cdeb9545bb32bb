import Derived.Test.YtgfhnepkpbmbcaaProg
import Derived.Test.YtgfhnepkpbmbcaaLG
import Derived.Test.YtgfhnepkpbmbcaaGD
import Derived.KernelRfl
namespace Go.Proofs.Sx
open Go.RowKit
set_option linter.unusedVariables false
set_option linter.unusedSimpArgs false
set_option maxRecDepth 20000
set_option maxHeartbeats 1000000
def encTEntry (x : TEntry) : List Value := [.int .i64 x.N, .int .i64 x.R.X0, .int .i64 x.R.Y0, .int .i64 x.R.X1, .int .i64 x.R.Y1]
def kTEntry : Kd TEntry := .flat 5 encTEntry fun _ => ⟨rfl, rfl⟩
def encTNode (x : TNode) (v : Value) : List Value := [.bool x.Leaf, v]
theorem hlTNode (x : TNode) (v : Value) (hv : cellV v = true) : (encTNode x v).length = 2 ∧ (encTNode x v).all cellV = true := ⟨rfl, by cases v <;> first | rfl | cases hv⟩
def kTNode : Kd TNode := .one 2 encTNode hlTNode kTEntry fun x => x.L
def encTChange (x : TChange) (v : Value) : List Value := [.int .i64 x.Page, .bool x.N.Leaf, v]
theorem hlTChange (x : TChange) (v : Value) (hv : cellV v = true) : (encTChange x v).length = 3 ∧ (encTChange x v).all cellV = true := ⟨rfl, by cases v <;> first | rfl | cases hv⟩
def kTChange : Kd TChange := .one 3 encTChange hlTChange kTEntry fun x => x.N.L
def encTBox (x : TBox) : List Value := [.int .i64 x.X0, .int .i64 x.Y0, .int .i64 x.X1, .int .i64 x.Y1]
def kTBox : Kd TBox := .flat 4 encTBox fun _ => ⟨rfl, rfl⟩
theorem mixd : Try.prog.follows .mixedOrders = true := by kernel_rfl
theorem ag194 : Tag Try.prog 194 = true := by kernel_rfl
theorem ag196 : Tag Try.prog 196 = true := by kernel_rfl
theorem ag79 : Tag Try.prog 79 = true := by kernel_rfl
theorem ag81 : Tag Try.prog 81 = true := by kernel_rfl
theorem fo194_0 : Tfo Try.prog 194 0 = some 0 := by kernel_rfl
theorem fo194_1 : Tfo Try.prog 194 1 = some 1 := by kernel_rfl
theorem fo194_2 : Tfo Try.prog 194 2 = some 2 := by kernel_rfl
theorem fo194_3 : Tfo Try.prog 194 3 = some 3 := by kernel_rfl
theorem fo196_0 : Tfo Try.prog 196 0 = some 0 := by kernel_rfl
theorem fo196_1 : Tfo Try.prog 196 1 = some 1 := by kernel_rfl
theorem fo79_0 : Tfo Try.prog 79 0 = some 0 := by kernel_rfl
theorem fo79_1 : Tfo Try.prog 79 1 = some 1 := by kernel_rfl
theorem fo81_0 : Tfo Try.prog 81 0 = some 0 := by kernel_rfl
theorem fo81_1 : Tfo Try.prog 81 1 = some 1 := by kernel_rfl
theorem sc3 : Tsc Try.prog 3 = true := by kernel_rfl
theorem sc4 : Tsc Try.prog 4 = true := by kernel_rfl
theorem sc5 : Tsc Try.prog 5 = true := by kernel_rfl
theorem sc77 : Tsc Try.prog 77 = true := by kernel_rfl
theorem sl37 : SlT Try.prog 37 5 1 1 [.int .u8 0] := ⟨by kernel_rfl, by kernel_rfl, by kernel_rfl, rfl, by kernel_rfl, rfl⟩
theorem sl77 : SlT Try.prog 77 196 5 40 [.int .i64 0, .int .i64 0, .int .i64 0, .int .i64 0, .int .i64 0] := ⟨by kernel_rfl, by kernel_rfl, by kernel_rfl, rfl, by kernel_rfl, rfl⟩
theorem st194 : Tst Try.prog 194 = some ([.int .i64 0, .int .i64 0, .int .i64 0, .int .i64 0], [(0, 1), (1, 1), (2, 1), (3, 1)]) := by kernel_rfl
theorem st196 : Tst Try.prog 196 = some ([.int .i64 0, .int .i64 0, .int .i64 0, .int .i64 0, .int .i64 0], [(0, 1), (1, 4)]) := by kernel_rfl
theorem st79 : Tst Try.prog 79 = some ([.bool false, .slice none 0 0], [(0, 1), (1, 1)]) := by kernel_rfl
theorem st81 : Tst Try.prog 81 = some ([.int .i64 0, .bool false, .slice none 0 0], [(0, 1), (1, 2)]) := by kernel_rfl
theorem sz194 : Tsz Try.prog 194 = some 4 := by kernel_rfl
theorem sz196 : Tsz Try.prog 196 = some 5 := by kernel_rfl
theorem sz3 : Tsz Try.prog 3 = some 1 := by kernel_rfl
theorem sz5 : Tsz Try.prog 5 = some 1 := by kernel_rfl
theorem sz77 : Tsz Try.prog 77 = some 1 := by kernel_rfl
theorem sz79 : Tsz Try.prog 79 = some 2 := by kernel_rfl
theorem sz81 : Tsz Try.prog 81 = some 3 := by kernel_rfl
theorem ul3 : Try.prog.underlying 3 = some (.int .i64) := by kernel_rfl
theorem ul37 : Try.prog.underlying 37 = some (.slice 5) := by kernel_rfl
theorem ul4 : Try.prog.underlying 4 = some (.bool) := by kernel_rfl
theorem ul5 : Try.prog.underlying 5 = some (.int .u8) := by kernel_rfl
theorem ul77 : Try.prog.underlying 77 = some (.slice 196) := by kernel_rfl
theorem ul9 : Try.prog.underlying 9 = some .string := by kernel_rfl
theorem zc196 : Tzc Try.prog 196 = some [.int .i64 0, .int .i64 0, .int .i64 0, .int .i64 0, .int .i64 0] := by kernel_rfl
theorem zc79 : Tzc Try.prog 79 = some [.bool false, .slice none 0 0] := by kernel_rfl
theorem zc81 : Tzc Try.prog 81 = some [.int .i64 0, .bool false, .slice none 0 0] := by kernel_rfl

end Go.Proofs.Sx
