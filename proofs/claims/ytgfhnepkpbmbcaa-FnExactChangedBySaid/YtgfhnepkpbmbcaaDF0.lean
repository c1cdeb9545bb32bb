import Derived.Test.YtgfhnepkpbmbcaaProg
import Derived.Test.YtgfhnepkpbmbcaaLG
import Derived.Test.YtgfhnepkpbmbcaaDD
import Derived.KernelRfl
namespace Go.Proofs.Sx
open Go.RowKit
set_option linter.unusedVariables false
set_option linter.unusedSimpArgs false
set_option maxRecDepth 20000
set_option maxHeartbeats 1000000
def encTEntry (x : TEntry) : List Value := [.int .i64 x.N, .int .i64 x.R.X0, .int .i64 x.R.Y0, .int .i64 x.R.X1, .int .i64 x.R.Y1]
def kTEntry : Kd TEntry := .flat 5 encTEntry fun _ => ⟨rfl, rfl⟩
def encTChange (x : TChange) (v : Value) : List Value := [.int .i64 x.Page, .bool x.N.Leaf, v]
theorem hlTChange (x : TChange) (v : Value) (hv : cellV v = true) : (encTChange x v).length = 3 ∧ (encTChange x v).all cellV = true := ⟨rfl, by cases v <;> first | rfl | cases hv⟩
def kTChange : Kd TChange := .one 3 encTChange hlTChange kTEntry fun x => x.N.L
def encTTx (x : TTx) (v : Value) : List Value := [.int .i64 x.Seq, .int .i64 x.Root, .int .i64 x.Size, v]
theorem hlTTx (x : TTx) (v : Value) (hv : cellV v = true) : (encTTx x v).length = 4 ∧ (encTTx x v).all cellV = true := ⟨rfl, by cases v <;> first | rfl | cases hv⟩
def kTTx : Kd TTx := .one 4 encTTx hlTTx kTChange fun x => x.Puts
def encTNode (x : TNode) (v : Value) : List Value := [.bool x.Leaf, v]
theorem hlTNode (x : TNode) (v : Value) (hv : cellV v = true) : (encTNode x v).length = 2 ∧ (encTNode x v).all cellV = true := ⟨rfl, by cases v <;> first | rfl | cases hv⟩
def kTNode : Kd TNode := .one 2 encTNode hlTNode kTEntry fun x => x.L
def encTBox (x : TBox) : List Value := [.int .i64 x.X0, .int .i64 x.Y0, .int .i64 x.X1, .int .i64 x.Y1]
def kTBox : Kd TBox := .flat 4 encTBox fun _ => ⟨rfl, rfl⟩
theorem mixd : Try.prog.follows .mixedOrders = true := by kernel_rfl
theorem ag185 : Tag Try.prog 185 = true := by kernel_rfl
theorem ag187 : Tag Try.prog 187 = true := by kernel_rfl
theorem ag194 : Tag Try.prog 194 = true := by kernel_rfl
theorem ag196 : Tag Try.prog 196 = true := by kernel_rfl
theorem ag209 : Tag Try.prog 209 = true := by kernel_rfl
theorem ag214 : Tag Try.prog 214 = true := by kernel_rfl
theorem ag55 : Tag Try.prog 55 = true := by kernel_rfl
theorem ag60 : Tag Try.prog 60 = true := by kernel_rfl
theorem ag79 : Tag Try.prog 79 = true := by kernel_rfl
theorem ag81 : Tag Try.prog 81 = true := by kernel_rfl
theorem fo185_0 : Tfo Try.prog 185 0 = some 0 := by kernel_rfl
theorem fo185_1 : Tfo Try.prog 185 1 = some 1 := by kernel_rfl
theorem fo187_0 : Tfo Try.prog 187 0 = some 0 := by kernel_rfl
theorem fo187_1 : Tfo Try.prog 187 1 = some 1 := by kernel_rfl
theorem fo194_0 : Tfo Try.prog 194 0 = some 0 := by kernel_rfl
theorem fo194_1 : Tfo Try.prog 194 1 = some 1 := by kernel_rfl
theorem fo194_2 : Tfo Try.prog 194 2 = some 2 := by kernel_rfl
theorem fo194_3 : Tfo Try.prog 194 3 = some 3 := by kernel_rfl
theorem fo196_0 : Tfo Try.prog 196 0 = some 0 := by kernel_rfl
theorem fo196_1 : Tfo Try.prog 196 1 = some 1 := by kernel_rfl
theorem fo209_0 : Tfo Try.prog 209 0 = some 0 := by kernel_rfl
theorem fo209_1 : Tfo Try.prog 209 1 = some 1 := by kernel_rfl
theorem fo209_2 : Tfo Try.prog 209 2 = some 2 := by kernel_rfl
theorem fo209_3 : Tfo Try.prog 209 3 = some 3 := by kernel_rfl
theorem fo214_0 : Tfo Try.prog 214 0 = some 0 := by kernel_rfl
theorem fo214_1 : Tfo Try.prog 214 1 = some 1 := by kernel_rfl
theorem fo55_0 : Tfo Try.prog 55 0 = some 0 := by kernel_rfl
theorem fo55_1 : Tfo Try.prog 55 1 = some 1 := by kernel_rfl
theorem fo55_2 : Tfo Try.prog 55 2 = some 2 := by kernel_rfl
theorem fo55_3 : Tfo Try.prog 55 3 = some 3 := by kernel_rfl
theorem fo60_0 : Tfo Try.prog 60 0 = some 0 := by kernel_rfl
theorem fo60_1 : Tfo Try.prog 60 1 = some 1 := by kernel_rfl
theorem fo60_2 : Tfo Try.prog 60 2 = some 2 := by kernel_rfl
theorem fo60_3 : Tfo Try.prog 60 3 = some 3 := by kernel_rfl
theorem fo79_0 : Tfo Try.prog 79 0 = some 0 := by kernel_rfl
theorem fo79_1 : Tfo Try.prog 79 1 = some 1 := by kernel_rfl
theorem fo81_0 : Tfo Try.prog 81 0 = some 0 := by kernel_rfl
theorem fo81_1 : Tfo Try.prog 81 1 = some 1 := by kernel_rfl
theorem sc3 : Tsc Try.prog 3 = true := by kernel_rfl
theorem sc4 : Tsc Try.prog 4 = true := by kernel_rfl
theorem sc53 : Tsc Try.prog 53 = true := by kernel_rfl
theorem sc58 : Tsc Try.prog 58 = true := by kernel_rfl
theorem sc77 : Tsc Try.prog 77 = true := by kernel_rfl
theorem sc91 : Tsc Try.prog 91 = true := by kernel_rfl
theorem sl24 : SlT Try.prog 24 3 1 8 [.int .i64 0] := ⟨by kernel_rfl, by kernel_rfl, by kernel_rfl, rfl, by kernel_rfl, rfl⟩
theorem sl26 : SlT Try.prog 26 60 4 48 [.int .i64 0, .int .i64 0, .int .i64 0, .slice none 0 0] := ⟨by kernel_rfl, by kernel_rfl, by kernel_rfl, rfl, by kernel_rfl, rfl⟩
theorem sl58 : SlT Try.prog 58 81 3 40 [.int .i64 0, .bool false, .slice none 0 0] := ⟨by kernel_rfl, by kernel_rfl, by kernel_rfl, rfl, by kernel_rfl, rfl⟩
theorem sl77 : SlT Try.prog 77 196 5 40 [.int .i64 0, .int .i64 0, .int .i64 0, .int .i64 0, .int .i64 0] := ⟨by kernel_rfl, by kernel_rfl, by kernel_rfl, rfl, by kernel_rfl, rfl⟩
theorem st79 : Tst Try.prog 79 = some ([.bool false, .slice none 0 0], [(0, 1), (1, 1)]) := by kernel_rfl
theorem sz185 : Tsz Try.prog 185 = some 2 := by kernel_rfl
theorem sz187 : Tsz Try.prog 187 = some 3 := by kernel_rfl
theorem sz194 : Tsz Try.prog 194 = some 4 := by kernel_rfl
theorem sz196 : Tsz Try.prog 196 = some 5 := by kernel_rfl
theorem sz209 : Tsz Try.prog 209 = some 4 := by kernel_rfl
theorem sz214 : Tsz Try.prog 214 = some 5 := by kernel_rfl
theorem sz3 : Tsz Try.prog 3 = some 1 := by kernel_rfl
theorem sz4 : Tsz Try.prog 4 = some 1 := by kernel_rfl
theorem sz55 : Tsz Try.prog 55 = some 4 := by kernel_rfl
theorem sz58 : Tsz Try.prog 58 = some 1 := by kernel_rfl
theorem sz60 : Tsz Try.prog 60 = some 4 := by kernel_rfl
theorem sz77 : Tsz Try.prog 77 = some 1 := by kernel_rfl
theorem sz79 : Tsz Try.prog 79 = some 2 := by kernel_rfl
theorem sz81 : Tsz Try.prog 81 = some 3 := by kernel_rfl
theorem ul22 : Try.prog.underlying 22 = some (.slice 55) := by kernel_rfl
theorem ul24 : Try.prog.underlying 24 = some (.slice 3) := by kernel_rfl
theorem ul26 : Try.prog.underlying 26 = some (.slice 60) := by kernel_rfl
theorem ul4 : Try.prog.underlying 4 = some (.bool) := by kernel_rfl
theorem ul53 : Try.prog.underlying 53 = some (.slice 187) := by kernel_rfl
theorem ul58 : Try.prog.underlying 58 = some (.slice 81) := by kernel_rfl
theorem ul77 : Try.prog.underlying 77 = some (.slice 196) := by kernel_rfl
theorem ul91 : Try.prog.underlying 91 = some (.slice 214) := by kernel_rfl
theorem zc194 : Tzc Try.prog 194 = some [.int .i64 0, .int .i64 0, .int .i64 0, .int .i64 0] := by kernel_rfl
theorem zc196 : Tzc Try.prog 196 = some [.int .i64 0, .int .i64 0, .int .i64 0, .int .i64 0, .int .i64 0] := by kernel_rfl
theorem zc60 : Tzc Try.prog 60 = some [.int .i64 0, .int .i64 0, .int .i64 0, .slice none 0 0] := by kernel_rfl
theorem zc79 : Tzc Try.prog 79 = some [.bool false, .slice none 0 0] := by kernel_rfl
theorem zc81 : Tzc Try.prog 81 = some [.int .i64 0, .bool false, .slice none 0 0] := by kernel_rfl

end Go.Proofs.Sx
