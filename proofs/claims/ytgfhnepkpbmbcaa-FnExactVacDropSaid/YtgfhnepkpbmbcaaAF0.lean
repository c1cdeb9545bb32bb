import Derived.Test.YtgfhnepkpbmbcaaProg
import Derived.Test.YtgfhnepkpbmbcaaLG
import Derived.Test.YtgfhnepkpbmbcaaAD
import Derived.KernelRfl
namespace Go.Proofs.Sx
open Go.RowKit
set_option linter.unusedVariables false
set_option linter.unusedSimpArgs false
set_option maxRecDepth 20000
set_option maxHeartbeats 1000000
def encTEntry (x : TEntry) : List Value := [.int .i64 x.N, .int .i64 x.R.X0, .int .i64 x.R.Y0, .int .i64 x.R.X1, .int .i64 x.R.Y1]
def kTEntry : Kd TEntry := .flat 5 encTEntry fun _ => ⟨rfl, rfl⟩
def encTNode (x : TNode) (v : Value) : List Value := [.bool x.Leaf, v]
theorem hlTNode (x : TNode) (v : Value) (hv : cellV v = true) : (encTNode x v).length = 2 ∧ (encTNode x v).all cellV = true := ⟨rfl, by cases v <;> first | rfl | cases hv⟩
def kTNode : Kd TNode := .one 2 encTNode hlTNode kTEntry fun x => x.L
def encTPage (x : TPage) (v : Value) : List Value := [.bool x.Used, .bool x.N.Leaf, v]
theorem hlTPage (x : TPage) (v : Value) (hv : cellV v = true) : (encTPage x v).length = 3 ∧ (encTPage x v).all cellV = true := ⟨rfl, by cases v <;> first | rfl | cases hv⟩
def kTPage : Kd TPage := .one 3 encTPage hlTPage kTEntry fun x => x.N.L
def encTBook (x : TBook) (v : Value) : List Value := [.int .i64 x.Root, v]
theorem hlTBook (x : TBook) (v : Value) (hv : cellV v = true) : (encTBook x v).length = 2 ∧ (encTBook x v).all cellV = true := ⟨rfl, by cases v <;> first | rfl | cases hv⟩
def kTBook : Kd TBook := .one 2 encTBook hlTBook kTPage fun x => x.L
def encTBox (x : TBox) : List Value := [.int .i64 x.X0, .int .i64 x.Y0, .int .i64 x.X1, .int .i64 x.Y1]
def kTBox : Kd TBox := .flat 4 encTBox fun _ => ⟨rfl, rfl⟩
def encTItem (x : TItem) : List Value := [.int .i64 x.Id, .int .i64 x.R.X0, .int .i64 x.R.Y0, .int .i64 x.R.X1, .int .i64 x.R.Y1]
def kTItem : Kd TItem := .flat 5 encTItem fun _ => ⟨rfl, rfl⟩
theorem mixd : Try.prog.follows .mixedOrders = true := by kernel_rfl
theorem ag103 : Tag Try.prog 103 = true := by kernel_rfl
theorem ag185 : Tag Try.prog 185 = true := by kernel_rfl
theorem ag194 : Tag Try.prog 194 = true := by kernel_rfl
theorem ag196 : Tag Try.prog 196 = true := by kernel_rfl
theorem ag202 : Tag Try.prog 202 = true := by kernel_rfl
theorem ag204 : Tag Try.prog 204 = true := by kernel_rfl
theorem ag207 : Tag Try.prog 207 = true := by kernel_rfl
theorem ag209 : Tag Try.prog 209 = true := by kernel_rfl
theorem ag211 : Tag Try.prog 211 = true := by kernel_rfl
theorem ag214 : Tag Try.prog 214 = true := by kernel_rfl
theorem ag79 : Tag Try.prog 79 = true := by kernel_rfl
theorem ag89 : Tag Try.prog 89 = true := by kernel_rfl
theorem ag93 : Tag Try.prog 93 = true := by kernel_rfl
theorem ag98 : Tag Try.prog 98 = true := by kernel_rfl
theorem fo103_0 : Tfo Try.prog 103 0 = some 0 := by kernel_rfl
theorem fo103_1 : Tfo Try.prog 103 1 = some 1 := by kernel_rfl
theorem fo103_2 : Tfo Try.prog 103 2 = some 2 := by kernel_rfl
theorem fo103_3 : Tfo Try.prog 103 3 = some 3 := by kernel_rfl
theorem fo103_4 : Tfo Try.prog 103 4 = some 4 := by kernel_rfl
theorem fo103_5 : Tfo Try.prog 103 5 = some 5 := by kernel_rfl
theorem fo185_0 : Tfo Try.prog 185 0 = some 0 := by kernel_rfl
theorem fo185_1 : Tfo Try.prog 185 1 = some 1 := by kernel_rfl
theorem fo194_0 : Tfo Try.prog 194 0 = some 0 := by kernel_rfl
theorem fo194_1 : Tfo Try.prog 194 1 = some 1 := by kernel_rfl
theorem fo194_2 : Tfo Try.prog 194 2 = some 2 := by kernel_rfl
theorem fo194_3 : Tfo Try.prog 194 3 = some 3 := by kernel_rfl
theorem fo196_0 : Tfo Try.prog 196 0 = some 0 := by kernel_rfl
theorem fo196_1 : Tfo Try.prog 196 1 = some 1 := by kernel_rfl
theorem fo202_0 : Tfo Try.prog 202 0 = some 0 := by kernel_rfl
theorem fo202_1 : Tfo Try.prog 202 1 = some 1 := by kernel_rfl
theorem fo204_0 : Tfo Try.prog 204 0 = some 0 := by kernel_rfl
theorem fo204_1 : Tfo Try.prog 204 1 = some 1 := by kernel_rfl
theorem fo207_0 : Tfo Try.prog 207 0 = some 0 := by kernel_rfl
theorem fo207_1 : Tfo Try.prog 207 1 = some 1 := by kernel_rfl
theorem fo209_0 : Tfo Try.prog 209 0 = some 0 := by kernel_rfl
theorem fo209_1 : Tfo Try.prog 209 1 = some 1 := by kernel_rfl
theorem fo209_2 : Tfo Try.prog 209 2 = some 2 := by kernel_rfl
theorem fo209_3 : Tfo Try.prog 209 3 = some 3 := by kernel_rfl
theorem fo211_0 : Tfo Try.prog 211 0 = some 0 := by kernel_rfl
theorem fo211_1 : Tfo Try.prog 211 1 = some 1 := by kernel_rfl
theorem fo214_0 : Tfo Try.prog 214 0 = some 0 := by kernel_rfl
theorem fo214_1 : Tfo Try.prog 214 1 = some 1 := by kernel_rfl
theorem fo79_0 : Tfo Try.prog 79 0 = some 0 := by kernel_rfl
theorem fo79_1 : Tfo Try.prog 79 1 = some 1 := by kernel_rfl
theorem fo89_0 : Tfo Try.prog 89 0 = some 0 := by kernel_rfl
theorem fo89_1 : Tfo Try.prog 89 1 = some 1 := by kernel_rfl
theorem fo93_0 : Tfo Try.prog 93 0 = some 0 := by kernel_rfl
theorem fo93_1 : Tfo Try.prog 93 1 = some 1 := by kernel_rfl
theorem fo93_2 : Tfo Try.prog 93 2 = some 2 := by kernel_rfl
theorem fo93_3 : Tfo Try.prog 93 3 = some 3 := by kernel_rfl
theorem fo93_4 : Tfo Try.prog 93 4 = some 4 := by kernel_rfl
theorem fo93_5 : Tfo Try.prog 93 5 = some 5 := by kernel_rfl
theorem fo98_0 : Tfo Try.prog 98 0 = some 0 := by kernel_rfl
theorem fo98_1 : Tfo Try.prog 98 1 = some 1 := by kernel_rfl
theorem sc101 : Tsc Try.prog 101 = true := by kernel_rfl
theorem sc24 : Tsc Try.prog 24 = true := by kernel_rfl
theorem sc3 : Tsc Try.prog 3 = true := by kernel_rfl
theorem sc4 : Tsc Try.prog 4 = true := by kernel_rfl
theorem sc77 : Tsc Try.prog 77 = true := by kernel_rfl
theorem sc87 : Tsc Try.prog 87 = true := by kernel_rfl
theorem sc90 : Tsc Try.prog 90 = true := by kernel_rfl
theorem sc91 : Tsc Try.prog 91 = true := by kernel_rfl
theorem sc96 : Tsc Try.prog 96 = true := by kernel_rfl
theorem sl101 : SlT Try.prog 101 207 5 40 [.int .i64 0, .int .i64 0, .int .i64 0, .int .i64 0, .int .i64 0] := ⟨by kernel_rfl, by kernel_rfl, by kernel_rfl, rfl, by kernel_rfl, rfl⟩
theorem sl24 : SlT Try.prog 24 3 1 8 [.int .i64 0] := ⟨by kernel_rfl, by kernel_rfl, by kernel_rfl, rfl, by kernel_rfl, rfl⟩
theorem sl77 : SlT Try.prog 77 196 5 40 [.int .i64 0, .int .i64 0, .int .i64 0, .int .i64 0, .int .i64 0] := ⟨by kernel_rfl, by kernel_rfl, by kernel_rfl, rfl, by kernel_rfl, rfl⟩
theorem sl96 : SlT Try.prog 96 204 3 40 [.bool false, .bool false, .slice none 0 0] := ⟨by kernel_rfl, by kernel_rfl, by kernel_rfl, rfl, by kernel_rfl, rfl⟩
theorem st204 : Tst Try.prog 204 = some ([.bool false, .bool false, .slice none 0 0], [(0, 1), (1, 2)]) := by kernel_rfl
theorem st79 : Tst Try.prog 79 = some ([.bool false, .slice none 0 0], [(0, 1), (1, 1)]) := by kernel_rfl
theorem st98 : Tst Try.prog 98 = some ([.int .i64 0, .slice none 0 0], [(0, 1), (1, 1)]) := by kernel_rfl
theorem sz101 : Tsz Try.prog 101 = some 1 := by kernel_rfl
theorem sz103 : Tsz Try.prog 103 = some 6 := by kernel_rfl
theorem sz185 : Tsz Try.prog 185 = some 2 := by kernel_rfl
theorem sz194 : Tsz Try.prog 194 = some 4 := by kernel_rfl
theorem sz196 : Tsz Try.prog 196 = some 5 := by kernel_rfl
theorem sz202 : Tsz Try.prog 202 = some 3 := by kernel_rfl
theorem sz204 : Tsz Try.prog 204 = some 3 := by kernel_rfl
theorem sz207 : Tsz Try.prog 207 = some 5 := by kernel_rfl
theorem sz209 : Tsz Try.prog 209 = some 4 := by kernel_rfl
theorem sz211 : Tsz Try.prog 211 = some 5 := by kernel_rfl
theorem sz214 : Tsz Try.prog 214 = some 5 := by kernel_rfl
theorem sz24 : Tsz Try.prog 24 = some 1 := by kernel_rfl
theorem sz3 : Tsz Try.prog 3 = some 1 := by kernel_rfl
theorem sz4 : Tsz Try.prog 4 = some 1 := by kernel_rfl
theorem sz77 : Tsz Try.prog 77 = some 1 := by kernel_rfl
theorem sz79 : Tsz Try.prog 79 = some 2 := by kernel_rfl
theorem sz89 : Tsz Try.prog 89 = some 2 := by kernel_rfl
theorem sz93 : Tsz Try.prog 93 = some 6 := by kernel_rfl
theorem sz96 : Tsz Try.prog 96 = some 1 := by kernel_rfl
theorem sz98 : Tsz Try.prog 98 = some 2 := by kernel_rfl
theorem ul101 : Try.prog.underlying 101 = some (.slice 207) := by kernel_rfl
theorem ul24 : Try.prog.underlying 24 = some (.slice 3) := by kernel_rfl
theorem ul4 : Try.prog.underlying 4 = some (.bool) := by kernel_rfl
theorem ul77 : Try.prog.underlying 77 = some (.slice 196) := by kernel_rfl
theorem ul87 : Try.prog.underlying 87 = some (.slice 202) := by kernel_rfl
theorem ul90 : Try.prog.underlying 90 = some (.slice 211) := by kernel_rfl
theorem ul91 : Try.prog.underlying 91 = some (.slice 214) := by kernel_rfl
theorem ul96 : Try.prog.underlying 96 = some (.slice 204) := by kernel_rfl
theorem zc103 : Tzc Try.prog 103 = some [.int .i64 0, .slice none 0 0, .slice none 0 0, .slice none 0 0, .slice none 0 0, .slice none 0 0] := by kernel_rfl
theorem zc194 : Tzc Try.prog 194 = some [.int .i64 0, .int .i64 0, .int .i64 0, .int .i64 0] := by kernel_rfl
theorem zc196 : Tzc Try.prog 196 = some [.int .i64 0, .int .i64 0, .int .i64 0, .int .i64 0, .int .i64 0] := by kernel_rfl
theorem zc204 : Tzc Try.prog 204 = some [.bool false, .bool false, .slice none 0 0] := by kernel_rfl
theorem zc207 : Tzc Try.prog 207 = some [.int .i64 0, .int .i64 0, .int .i64 0, .int .i64 0, .int .i64 0] := by kernel_rfl
theorem zc79 : Tzc Try.prog 79 = some [.bool false, .slice none 0 0] := by kernel_rfl
theorem zc98 : Tzc Try.prog 98 = some [.int .i64 0, .slice none 0 0] := by kernel_rfl

end Go.Proofs.Sx
