import Derived.Test.YteeiibdkpdaniaaProg
import Derived.Test.YteeiibdkpdaniaaLG
import Derived.Test.YteeiibdkpdaniaaUD
import Derived.KernelRfl
namespace Go.Proofs.Sx
open Go.RowKit
set_option linter.unusedVariables false
set_option linter.unusedSimpArgs false
set_option maxRecDepth 20000
set_option maxHeartbeats 1000000
def encTEntry (x : TEntry) : List Value := [.int .i64 x.N, .int .i64 x.R.X0, .int .i64 x.R.Y0, .int .i64 x.R.X1, .int .i64 x.R.Y1]
def kTEntry : Kd TEntry := .flat 5 encTEntry fun _ => ⟨rfl, rfl⟩
def encTNode (x : TNode) (v : Value) : List Value := [.bool x.Leaf, v]
theorem hlTNode (x : TNode) (v : Value) (hv : cellV v = true) : (encTNode x v).length = 2 ∧ (encTNode x v).all cellV = true := ⟨rfl, by cases v <;> first | rfl | cases hv⟩
def kTNode : Kd TNode := .one 2 encTNode hlTNode kTEntry fun x => x.L
def encTPage (x : TPage) (v : Value) : List Value := [.bool x.Used, .bool x.N.Leaf, v]
theorem hlTPage (x : TPage) (v : Value) (hv : cellV v = true) : (encTPage x v).length = 3 ∧ (encTPage x v).all cellV = true := ⟨rfl, by cases v <;> first | rfl | cases hv⟩
def kTPage : Kd TPage := .one 3 encTPage hlTPage kTEntry fun x => x.N.L
def encTBook (x : TBook) (v : Value) : List Value := [.int .i64 x.Root, v]
theorem hlTBook (x : TBook) (v : Value) (hv : cellV v = true) : (encTBook x v).length = 2 ∧ (encTBook x v).all cellV = true := ⟨rfl, by cases v <;> first | rfl | cases hv⟩
def kTBook : Kd TBook := .one 2 encTBook hlTBook kTPage fun x => x.L
def encTBox (x : TBox) : List Value := [.int .i64 x.X0, .int .i64 x.Y0, .int .i64 x.X1, .int .i64 x.Y1]
def kTBox : Kd TBox := .flat 4 encTBox fun _ => ⟨rfl, rfl⟩
theorem mixd : Try.prog.follows .mixedOrders = true := by kernel_rfl
theorem ag133 : Tag Try.prog 133 = true := by kernel_rfl
theorem ag135 : Tag Try.prog 135 = true := by kernel_rfl
theorem ag139 : Tag Try.prog 139 = true := by kernel_rfl
theorem ag141 : Tag Try.prog 141 = true := by kernel_rfl
theorem ag146 : Tag Try.prog 146 = true := by kernel_rfl
theorem ag148 : Tag Try.prog 148 = true := by kernel_rfl
theorem ag53 : Tag Try.prog 53 = true := by kernel_rfl
theorem ag58 : Tag Try.prog 58 = true := by kernel_rfl
theorem ag80 : Tag Try.prog 80 = true := by kernel_rfl
theorem ag84 : Tag Try.prog 84 = true := by kernel_rfl
theorem fo133_0 : Tfo Try.prog 133 0 = some 0 := by kernel_rfl
theorem fo133_1 : Tfo Try.prog 133 1 = some 1 := by kernel_rfl
theorem fo133_2 : Tfo Try.prog 133 2 = some 2 := by kernel_rfl
theorem fo133_3 : Tfo Try.prog 133 3 = some 3 := by kernel_rfl
theorem fo135_0 : Tfo Try.prog 135 0 = some 0 := by kernel_rfl
theorem fo135_1 : Tfo Try.prog 135 1 = some 1 := by kernel_rfl
theorem fo139_0 : Tfo Try.prog 139 0 = some 0 := by kernel_rfl
theorem fo139_1 : Tfo Try.prog 139 1 = some 1 := by kernel_rfl
theorem fo139_2 : Tfo Try.prog 139 2 = some 2 := by kernel_rfl
theorem fo139_3 : Tfo Try.prog 139 3 = some 3 := by kernel_rfl
theorem fo141_0 : Tfo Try.prog 141 0 = some 0 := by kernel_rfl
theorem fo141_1 : Tfo Try.prog 141 1 = some 1 := by kernel_rfl
theorem fo146_0 : Tfo Try.prog 146 0 = some 0 := by kernel_rfl
theorem fo146_1 : Tfo Try.prog 146 1 = some 1 := by kernel_rfl
theorem fo148_0 : Tfo Try.prog 148 0 = some 0 := by kernel_rfl
theorem fo148_1 : Tfo Try.prog 148 1 = some 1 := by kernel_rfl
theorem fo53_0 : Tfo Try.prog 53 0 = some 0 := by kernel_rfl
theorem fo53_1 : Tfo Try.prog 53 1 = some 1 := by kernel_rfl
theorem fo58_0 : Tfo Try.prog 58 0 = some 0 := by kernel_rfl
theorem fo58_1 : Tfo Try.prog 58 1 = some 1 := by kernel_rfl
theorem fo80_0 : Tfo Try.prog 80 0 = some 0 := by kernel_rfl
theorem fo80_1 : Tfo Try.prog 80 1 = some 1 := by kernel_rfl
theorem fo84_0 : Tfo Try.prog 84 0 = some 0 := by kernel_rfl
theorem fo84_1 : Tfo Try.prog 84 1 = some 1 := by kernel_rfl
theorem sc3 : Tsc Try.prog 3 = true := by kernel_rfl
theorem sc4 : Tsc Try.prog 4 = true := by kernel_rfl
theorem sc51 : Tsc Try.prog 51 = true := by kernel_rfl
theorem sc56 : Tsc Try.prog 56 = true := by kernel_rfl
theorem sc78 : Tsc Try.prog 78 = true := by kernel_rfl
theorem sc82 : Tsc Try.prog 82 = true := by kernel_rfl
theorem sl56 : SlT Try.prog 56 135 5 40 [.int .i64 0, .int .i64 0, .int .i64 0, .int .i64 0, .int .i64 0] := ⟨by kernel_rfl, by kernel_rfl, by kernel_rfl, rfl, by kernel_rfl, rfl⟩
theorem sl82 : SlT Try.prog 82 148 3 40 [.bool false, .bool false, .slice none 0 0] := ⟨by kernel_rfl, by kernel_rfl, by kernel_rfl, rfl, by kernel_rfl, rfl⟩
theorem st148 : Tst Try.prog 148 = some ([.bool false, .bool false, .slice none 0 0], [(0, 1), (1, 2)]) := by kernel_rfl
theorem st58 : Tst Try.prog 58 = some ([.bool false, .slice none 0 0], [(0, 1), (1, 1)]) := by kernel_rfl
theorem st84 : Tst Try.prog 84 = some ([.int .i64 0, .slice none 0 0], [(0, 1), (1, 1)]) := by kernel_rfl
theorem sz133 : Tsz Try.prog 133 = some 4 := by kernel_rfl
theorem sz135 : Tsz Try.prog 135 = some 5 := by kernel_rfl
theorem sz139 : Tsz Try.prog 139 = some 4 := by kernel_rfl
theorem sz141 : Tsz Try.prog 141 = some 5 := by kernel_rfl
theorem sz146 : Tsz Try.prog 146 = some 3 := by kernel_rfl
theorem sz148 : Tsz Try.prog 148 = some 3 := by kernel_rfl
theorem sz3 : Tsz Try.prog 3 = some 1 := by kernel_rfl
theorem sz4 : Tsz Try.prog 4 = some 1 := by kernel_rfl
theorem sz53 : Tsz Try.prog 53 = some 2 := by kernel_rfl
theorem sz56 : Tsz Try.prog 56 = some 1 := by kernel_rfl
theorem sz58 : Tsz Try.prog 58 = some 2 := by kernel_rfl
theorem sz80 : Tsz Try.prog 80 = some 2 := by kernel_rfl
theorem sz82 : Tsz Try.prog 82 = some 1 := by kernel_rfl
theorem sz84 : Tsz Try.prog 84 = some 2 := by kernel_rfl
theorem ul4 : Try.prog.underlying 4 = some (.bool) := by kernel_rfl
theorem ul51 : Try.prog.underlying 51 = some (.slice 141) := by kernel_rfl
theorem ul56 : Try.prog.underlying 56 = some (.slice 135) := by kernel_rfl
theorem ul78 : Try.prog.underlying 78 = some (.slice 146) := by kernel_rfl
theorem ul82 : Try.prog.underlying 82 = some (.slice 148) := by kernel_rfl
theorem zc133 : Tzc Try.prog 133 = some [.int .i64 0, .int .i64 0, .int .i64 0, .int .i64 0] := by kernel_rfl
theorem zc135 : Tzc Try.prog 135 = some [.int .i64 0, .int .i64 0, .int .i64 0, .int .i64 0, .int .i64 0] := by kernel_rfl
theorem zc148 : Tzc Try.prog 148 = some [.bool false, .bool false, .slice none 0 0] := by kernel_rfl
theorem zc58 : Tzc Try.prog 58 = some [.bool false, .slice none 0 0] := by kernel_rfl
theorem zc84 : Tzc Try.prog 84 = some [.int .i64 0, .slice none 0 0] := by kernel_rfl

end Go.Proofs.Sx
