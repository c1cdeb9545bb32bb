import Derived.Test.YteeiibdkpdaniaaProg
import Derived.Test.YteeiibdkpdaniaaLG
import Derived.Test.YteeiibdkpdaniaaGD
import Derived.KernelRfl
namespace Go.Proofs.Sx
open Go.RowKit
set_option linter.unusedVariables false
set_option linter.unusedSimpArgs false
set_option maxRecDepth 20000
set_option maxHeartbeats 1000000
def encTEntry (x : TEntry) : List Value := [.int .i64 x.N, .int .i64 x.R.X0, .int .i64 x.R.Y0, .int .i64 x.R.X1, .int .i64 x.R.Y1]
def kTEntry : Kd TEntry := .flat 5 encTEntry fun _ => ⟨rfl, rfl⟩
def encTChange (x : TChange) (v : Value) : List Value := [.int .i64 x.Page, .bool x.N.Leaf, v]
theorem hlTChange (x : TChange) (v : Value) (hv : cellV v = true) : (encTChange x v).length = 3 ∧ (encTChange x v).all cellV = true := ⟨rfl, by cases v <;> first | rfl | cases hv⟩
def kTChange : Kd TChange := .one 3 encTChange hlTChange kTEntry fun x => x.N.L
def encTTx (x : TTx) (v : Value) : List Value := [.int .i64 x.Seq, .int .i64 x.Root, .int .i64 x.Size, v]
theorem hlTTx (x : TTx) (v : Value) (hv : cellV v = true) : (encTTx x v).length = 4 ∧ (encTTx x v).all cellV = true := ⟨rfl, by cases v <;> first | rfl | cases hv⟩
def kTTx : Kd TTx := .one 4 encTTx hlTTx kTChange fun x => x.Puts
def encTNode (x : TNode) (v : Value) : List Value := [.bool x.Leaf, v]
theorem hlTNode (x : TNode) (v : Value) (hv : cellV v = true) : (encTNode x v).length = 2 ∧ (encTNode x v).all cellV = true := ⟨rfl, by cases v <;> first | rfl | cases hv⟩
def kTNode : Kd TNode := .one 2 encTNode hlTNode kTEntry fun x => x.L
def encTBox (x : TBox) : List Value := [.int .i64 x.X0, .int .i64 x.Y0, .int .i64 x.X1, .int .i64 x.Y1]
def kTBox : Kd TBox := .flat 4 encTBox fun _ => ⟨rfl, rfl⟩
theorem mixd : Try.prog.follows .mixedOrders = true := by kernel_rfl
theorem ag133 : Tag Try.prog 133 = true := by kernel_rfl
theorem ag135 : Tag Try.prog 135 = true := by kernel_rfl
theorem ag47 : Tag Try.prog 47 = true := by kernel_rfl
theorem ag58 : Tag Try.prog 58 = true := by kernel_rfl
theorem ag73 : Tag Try.prog 73 = true := by kernel_rfl
theorem fo133_0 : Tfo Try.prog 133 0 = some 0 := by kernel_rfl
theorem fo133_1 : Tfo Try.prog 133 1 = some 1 := by kernel_rfl
theorem fo133_2 : Tfo Try.prog 133 2 = some 2 := by kernel_rfl
theorem fo133_3 : Tfo Try.prog 133 3 = some 3 := by kernel_rfl
theorem fo135_0 : Tfo Try.prog 135 0 = some 0 := by kernel_rfl
theorem fo135_1 : Tfo Try.prog 135 1 = some 1 := by kernel_rfl
theorem fo47_0 : Tfo Try.prog 47 0 = some 0 := by kernel_rfl
theorem fo47_1 : Tfo Try.prog 47 1 = some 1 := by kernel_rfl
theorem fo47_2 : Tfo Try.prog 47 2 = some 2 := by kernel_rfl
theorem fo47_3 : Tfo Try.prog 47 3 = some 3 := by kernel_rfl
theorem fo58_0 : Tfo Try.prog 58 0 = some 0 := by kernel_rfl
theorem fo58_1 : Tfo Try.prog 58 1 = some 1 := by kernel_rfl
theorem fo73_0 : Tfo Try.prog 73 0 = some 0 := by kernel_rfl
theorem fo73_1 : Tfo Try.prog 73 1 = some 1 := by kernel_rfl
theorem sc3 : Tsc Try.prog 3 = true := by kernel_rfl
theorem sc4 : Tsc Try.prog 4 = true := by kernel_rfl
theorem sc45 : Tsc Try.prog 45 = true := by kernel_rfl
theorem sc5 : Tsc Try.prog 5 = true := by kernel_rfl
theorem sc56 : Tsc Try.prog 56 = true := by kernel_rfl
theorem sl27 : SlT Try.prog 27 5 1 1 [.int .u8 0] := ⟨by kernel_rfl, by kernel_rfl, by kernel_rfl, rfl, by kernel_rfl, rfl⟩
theorem st47 : Tst Try.prog 47 = some ([.int .i64 0, .int .i64 0, .int .i64 0, .slice none 0 0], [(0, 1), (1, 1), (2, 1), (3, 1)]) := by kernel_rfl
theorem sz133 : Tsz Try.prog 133 = some 4 := by kernel_rfl
theorem sz135 : Tsz Try.prog 135 = some 5 := by kernel_rfl
theorem sz3 : Tsz Try.prog 3 = some 1 := by kernel_rfl
theorem sz4 : Tsz Try.prog 4 = some 1 := by kernel_rfl
theorem sz47 : Tsz Try.prog 47 = some 4 := by kernel_rfl
theorem sz5 : Tsz Try.prog 5 = some 1 := by kernel_rfl
theorem sz58 : Tsz Try.prog 58 = some 2 := by kernel_rfl
theorem sz73 : Tsz Try.prog 73 = some 3 := by kernel_rfl
theorem ul27 : Try.prog.underlying 27 = some (.slice 5) := by kernel_rfl
theorem ul3 : Try.prog.underlying 3 = some (.int .i64) := by kernel_rfl
theorem ul4 : Try.prog.underlying 4 = some (.bool) := by kernel_rfl
theorem ul45 : Try.prog.underlying 45 = some (.slice 73) := by kernel_rfl
theorem ul5 : Try.prog.underlying 5 = some (.int .u8) := by kernel_rfl
theorem ul56 : Try.prog.underlying 56 = some (.slice 135) := by kernel_rfl
theorem ul9 : Try.prog.underlying 9 = some .string := by kernel_rfl
theorem zc135 : Tzc Try.prog 135 = some [.int .i64 0, .int .i64 0, .int .i64 0, .int .i64 0, .int .i64 0] := by kernel_rfl
theorem zc47 : Tzc Try.prog 47 = some [.int .i64 0, .int .i64 0, .int .i64 0, .slice none 0 0] := by kernel_rfl

end Go.Proofs.Sx
