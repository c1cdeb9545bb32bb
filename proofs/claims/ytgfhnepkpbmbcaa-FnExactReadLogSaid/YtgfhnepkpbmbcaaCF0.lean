import Derived.Test.YtgfhnepkpbmbcaaProg
import Derived.Test.YtgfhnepkpbmbcaaLG
import Derived.Test.YtgfhnepkpbmbcaaCD
import Derived.KernelRfl
namespace Go.Proofs.Sx
open Go.RowKit
set_option linter.unusedVariables false
set_option linter.unusedSimpArgs false
set_option maxRecDepth 20000
set_option maxHeartbeats 1000000
def encTEntry (x : TEntry) : List Value := [.int .i64 x.N, .int .i64 x.R.X0, .int .i64 x.R.Y0, .int .i64 x.R.X1, .int .i64 x.R.Y1]
def kTEntry : Kd TEntry := .flat 5 encTEntry fun _ => ⟨rfl, rfl⟩
def encTChange (x : TChange) (v : Value) : List Value := [.int .i64 x.Page, .bool x.N.Leaf, v]
theorem hlTChange (x : TChange) (v : Value) (hv : cellV v = true) : (encTChange x v).length = 3 ∧ (encTChange x v).all cellV = true := ⟨rfl, by cases v <;> first | rfl | cases hv⟩
def kTChange : Kd TChange := .one 3 encTChange hlTChange kTEntry fun x => x.N.L
def encTTx (x : TTx) (v : Value) : List Value := [.int .i64 x.Seq, .int .i64 x.Root, .int .i64 x.Size, v]
theorem hlTTx (x : TTx) (v : Value) (hv : cellV v = true) : (encTTx x v).length = 4 ∧ (encTTx x v).all cellV = true := ⟨rfl, by cases v <;> first | rfl | cases hv⟩
def kTTx : Kd TTx := .one 4 encTTx hlTTx kTChange fun x => x.Puts
def encTNode (x : TNode) (v : Value) : List Value := [.bool x.Leaf, v]
theorem hlTNode (x : TNode) (v : Value) (hv : cellV v = true) : (encTNode x v).length = 2 ∧ (encTNode x v).all cellV = true := ⟨rfl, by cases v <;> first | rfl | cases hv⟩
def kTNode : Kd TNode := .one 2 encTNode hlTNode kTEntry fun x => x.L
def encTWet (x : TWet) (v : Value) : List Value := [.int .i64 x.At, v]
theorem hlTWet (x : TWet) (v : Value) (hv : cellV v = true) : (encTWet x v).length = 2 ∧ (encTWet x v).all cellV = true := ⟨rfl, by cases v <;> first | rfl | cases hv⟩
def kTWet : Kd TWet := .one 2 encTWet hlTWet kU8 fun x => x.B
def encTCell (x : TCell) (v : Value) : List Value := [.bool x.Bad, v]
theorem hlTCell (x : TCell) (v : Value) (hv : cellV v = true) : (encTCell x v).length = 2 ∧ (encTCell x v).all cellV = true := ⟨rfl, by cases v <;> first | rfl | cases hv⟩
def kTCell : Kd TCell := .one 2 encTCell hlTCell kU8 fun x => x.B
def encTBox (x : TBox) : List Value := [.int .i64 x.X0, .int .i64 x.Y0, .int .i64 x.X1, .int .i64 x.Y1]
def kTBox : Kd TBox := .flat 4 encTBox fun _ => ⟨rfl, rfl⟩
theorem mixd : Try.prog.follows .mixedOrders = true := by kernel_rfl
theorem ag130 : Tag Try.prog 130 = true := by kernel_rfl
theorem ag140 : Tag Try.prog 140 = true := by kernel_rfl
theorem ag176 : Tag Try.prog 176 = true := by kernel_rfl
theorem ag178 : Tag Try.prog 178 = true := by kernel_rfl
theorem ag194 : Tag Try.prog 194 = true := by kernel_rfl
theorem ag196 : Tag Try.prog 196 = true := by kernel_rfl
theorem ag36 : Tag Try.prog 36 = true := by kernel_rfl
theorem ag42 : Tag Try.prog 42 = true := by kernel_rfl
theorem ag60 : Tag Try.prog 60 = true := by kernel_rfl
theorem ag79 : Tag Try.prog 79 = true := by kernel_rfl
theorem ag81 : Tag Try.prog 81 = true := by kernel_rfl
theorem fo130_0 : Tfo Try.prog 130 0 = some 0 := by kernel_rfl
theorem fo130_1 : Tfo Try.prog 130 1 = some 1 := by kernel_rfl
theorem fo140_0 : Tfo Try.prog 140 0 = some 0 := by kernel_rfl
theorem fo140_1 : Tfo Try.prog 140 1 = some 1 := by kernel_rfl
theorem fo176_0 : Tfo Try.prog 176 0 = some 0 := by kernel_rfl
theorem fo176_1 : Tfo Try.prog 176 1 = some 1 := by kernel_rfl
theorem fo178_0 : Tfo Try.prog 178 0 = some 0 := by kernel_rfl
theorem fo178_1 : Tfo Try.prog 178 1 = some 1 := by kernel_rfl
theorem fo194_0 : Tfo Try.prog 194 0 = some 0 := by kernel_rfl
theorem fo194_1 : Tfo Try.prog 194 1 = some 1 := by kernel_rfl
theorem fo194_2 : Tfo Try.prog 194 2 = some 2 := by kernel_rfl
theorem fo194_3 : Tfo Try.prog 194 3 = some 3 := by kernel_rfl
theorem fo196_0 : Tfo Try.prog 196 0 = some 0 := by kernel_rfl
theorem fo196_1 : Tfo Try.prog 196 1 = some 1 := by kernel_rfl
theorem fo36_0 : Tfo Try.prog 36 0 = some 0 := by kernel_rfl
theorem fo36_1 : Tfo Try.prog 36 1 = some 1 := by kernel_rfl
theorem fo36_2 : Tfo Try.prog 36 2 = some 2 := by kernel_rfl
theorem fo36_3 : Tfo Try.prog 36 3 = some 3 := by kernel_rfl
theorem fo42_0 : Tfo Try.prog 42 0 = some 0 := by kernel_rfl
theorem fo42_1 : Tfo Try.prog 42 1 = some 1 := by kernel_rfl
theorem fo42_2 : Tfo Try.prog 42 2 = some 2 := by kernel_rfl
theorem fo42_3 : Tfo Try.prog 42 3 = some 3 := by kernel_rfl
theorem fo60_0 : Tfo Try.prog 60 0 = some 0 := by kernel_rfl
theorem fo60_1 : Tfo Try.prog 60 1 = some 1 := by kernel_rfl
theorem fo60_2 : Tfo Try.prog 60 2 = some 2 := by kernel_rfl
theorem fo60_3 : Tfo Try.prog 60 3 = some 3 := by kernel_rfl
theorem fo79_0 : Tfo Try.prog 79 0 = some 0 := by kernel_rfl
theorem fo79_1 : Tfo Try.prog 79 1 = some 1 := by kernel_rfl
theorem fo81_0 : Tfo Try.prog 81 0 = some 0 := by kernel_rfl
theorem fo81_1 : Tfo Try.prog 81 1 = some 1 := by kernel_rfl
theorem sc3 : Tsc Try.prog 3 = true := by kernel_rfl
theorem sc33 : Tsc Try.prog 33 = true := by kernel_rfl
theorem sc34 : Tsc Try.prog 34 = true := by kernel_rfl
theorem sc37 : Tsc Try.prog 37 = true := by kernel_rfl
theorem sc39 : Tsc Try.prog 39 = true := by kernel_rfl
theorem sc4 : Tsc Try.prog 4 = true := by kernel_rfl
theorem sc40 : Tsc Try.prog 40 = true := by kernel_rfl
theorem sc5 : Tsc Try.prog 5 = true := by kernel_rfl
theorem sc58 : Tsc Try.prog 58 = true := by kernel_rfl
theorem sc77 : Tsc Try.prog 77 = true := by kernel_rfl
theorem sl26 : SlT Try.prog 26 60 4 48 [.int .i64 0, .int .i64 0, .int .i64 0, .slice none 0 0] := ⟨by kernel_rfl, by kernel_rfl, by kernel_rfl, rfl, by kernel_rfl, rfl⟩
theorem sl37 : SlT Try.prog 37 5 1 1 [.int .u8 0] := ⟨by kernel_rfl, by kernel_rfl, by kernel_rfl, rfl, by kernel_rfl, rfl⟩
theorem sl39 : SlT Try.prog 39 140 2 32 [.bool false, .slice none 0 0] := ⟨by kernel_rfl, by kernel_rfl, by kernel_rfl, rfl, by kernel_rfl, rfl⟩
theorem sl40 : SlT Try.prog 40 130 2 32 [.int .i64 0, .slice none 0 0] := ⟨by kernel_rfl, by kernel_rfl, by kernel_rfl, rfl, by kernel_rfl, rfl⟩
theorem sl58 : SlT Try.prog 58 81 3 40 [.int .i64 0, .bool false, .slice none 0 0] := ⟨by kernel_rfl, by kernel_rfl, by kernel_rfl, rfl, by kernel_rfl, rfl⟩
theorem sl77 : SlT Try.prog 77 196 5 40 [.int .i64 0, .int .i64 0, .int .i64 0, .int .i64 0, .int .i64 0] := ⟨by kernel_rfl, by kernel_rfl, by kernel_rfl, rfl, by kernel_rfl, rfl⟩
theorem st194 : Tst Try.prog 194 = some ([.int .i64 0, .int .i64 0, .int .i64 0, .int .i64 0], [(0, 1), (1, 1), (2, 1), (3, 1)]) := by kernel_rfl
theorem st196 : Tst Try.prog 196 = some ([.int .i64 0, .int .i64 0, .int .i64 0, .int .i64 0, .int .i64 0], [(0, 1), (1, 4)]) := by kernel_rfl
theorem st60 : Tst Try.prog 60 = some ([.int .i64 0, .int .i64 0, .int .i64 0, .slice none 0 0], [(0, 1), (1, 1), (2, 1), (3, 1)]) := by kernel_rfl
theorem st79 : Tst Try.prog 79 = some ([.bool false, .slice none 0 0], [(0, 1), (1, 1)]) := by kernel_rfl
theorem st81 : Tst Try.prog 81 = some ([.int .i64 0, .bool false, .slice none 0 0], [(0, 1), (1, 2)]) := by kernel_rfl
theorem sz130 : Tsz Try.prog 130 = some 2 := by kernel_rfl
theorem sz140 : Tsz Try.prog 140 = some 2 := by kernel_rfl
theorem sz176 : Tsz Try.prog 176 = some 2 := by kernel_rfl
theorem sz178 : Tsz Try.prog 178 = some 2 := by kernel_rfl
theorem sz194 : Tsz Try.prog 194 = some 4 := by kernel_rfl
theorem sz196 : Tsz Try.prog 196 = some 5 := by kernel_rfl
theorem sz3 : Tsz Try.prog 3 = some 1 := by kernel_rfl
theorem sz36 : Tsz Try.prog 36 = some 4 := by kernel_rfl
theorem sz37 : Tsz Try.prog 37 = some 1 := by kernel_rfl
theorem sz39 : Tsz Try.prog 39 = some 1 := by kernel_rfl
theorem sz4 : Tsz Try.prog 4 = some 1 := by kernel_rfl
theorem sz40 : Tsz Try.prog 40 = some 1 := by kernel_rfl
theorem sz42 : Tsz Try.prog 42 = some 4 := by kernel_rfl
theorem sz5 : Tsz Try.prog 5 = some 1 := by kernel_rfl
theorem sz58 : Tsz Try.prog 58 = some 1 := by kernel_rfl
theorem sz60 : Tsz Try.prog 60 = some 4 := by kernel_rfl
theorem sz77 : Tsz Try.prog 77 = some 1 := by kernel_rfl
theorem sz79 : Tsz Try.prog 79 = some 2 := by kernel_rfl
theorem sz81 : Tsz Try.prog 81 = some 3 := by kernel_rfl
theorem tz3 : Tz Try.prog 3 = some (.int .i64 0) := by kernel_rfl
theorem ul190 : Try.prog.underlying 190 = some (.map 3 3) := by kernel_rfl
theorem ul26 : Try.prog.underlying 26 = some (.slice 60) := by kernel_rfl
theorem ul3 : Try.prog.underlying 3 = some (.int .i64) := by kernel_rfl
theorem ul33 : Try.prog.underlying 33 = some (.slice 176) := by kernel_rfl
theorem ul34 : Try.prog.underlying 34 = some (.slice 178) := by kernel_rfl
theorem ul37 : Try.prog.underlying 37 = some (.slice 5) := by kernel_rfl
theorem ul39 : Try.prog.underlying 39 = some (.slice 140) := by kernel_rfl
theorem ul4 : Try.prog.underlying 4 = some (.bool) := by kernel_rfl
theorem ul40 : Try.prog.underlying 40 = some (.slice 130) := by kernel_rfl
theorem ul5 : Try.prog.underlying 5 = some (.int .u8) := by kernel_rfl
theorem ul58 : Try.prog.underlying 58 = some (.slice 81) := by kernel_rfl
theorem ul77 : Try.prog.underlying 77 = some (.slice 196) := by kernel_rfl
theorem ul9 : Try.prog.underlying 9 = some .string := by kernel_rfl
theorem zc130 : Tzc Try.prog 130 = some [.int .i64 0, .slice none 0 0] := by kernel_rfl
theorem zc140 : Tzc Try.prog 140 = some [.bool false, .slice none 0 0] := by kernel_rfl
theorem zc196 : Tzc Try.prog 196 = some [.int .i64 0, .int .i64 0, .int .i64 0, .int .i64 0, .int .i64 0] := by kernel_rfl
theorem zc42 : Tzc Try.prog 42 = some [.slice none 0 0, .slice none 0 0, .int .i64 0, .bool false] := by kernel_rfl
theorem zc60 : Tzc Try.prog 60 = some [.int .i64 0, .int .i64 0, .int .i64 0, .slice none 0 0] := by kernel_rfl
theorem zc79 : Tzc Try.prog 79 = some [.bool false, .slice none 0 0] := by kernel_rfl
theorem zc81 : Tzc Try.prog 81 = some [.int .i64 0, .bool false, .slice none 0 0] := by kernel_rfl

end Go.Proofs.Sx
