import Derived.Test.YtkhommmhkeohbaaProg
import Derived.Test.YtkhommmhkeohbaaLG
import Derived.Test.YtkhommmhkeohbaaQfD
import Derived.KernelRfl
namespace Go.Proofs.Sx
open Go.RowKit
set_option linter.unusedVariables false
set_option linter.unusedSimpArgs false
set_option maxRecDepth 20000
set_option maxHeartbeats 1000000
def encTEntry (x : TEntry) : List Value := [.int .i64 x.N, .int .i64 x.R.X0, .int .i64 x.R.Y0, .int .i64 x.R.X1, .int .i64 x.R.Y1]
def kTEntry : Kd TEntry := .flat 5 encTEntry fun _ => ⟨rfl, rfl⟩
def encTNode (x : TNode) (v : Value) : List Value := [.bool x.Leaf, v]
theorem hlTNode (x : TNode) (v : Value) (hv : cellV v = true) : (encTNode x v).length = 2 ∧ (encTNode x v).all cellV = true := ⟨rfl, by cases v <;> first | rfl | cases hv⟩
def kTNode : Kd TNode := .one 2 encTNode hlTNode kTEntry fun x => x.L
def encTChange (x : TChange) (v : Value) : List Value := [.int .i64 x.Page, .bool x.N.Leaf, v]
theorem hlTChange (x : TChange) (v : Value) (hv : cellV v = true) : (encTChange x v).length = 3 ∧ (encTChange x v).all cellV = true := ⟨rfl, by cases v <;> first | rfl | cases hv⟩
def kTChange : Kd TChange := .one 3 encTChange hlTChange kTEntry fun x => x.N.L
def encTTx (x : TTx) (v : Value) : List Value := [.int .i64 x.Seq, .int .i64 x.Root, .int .i64 x.Size, v]
theorem hlTTx (x : TTx) (v : Value) (hv : cellV v = true) : (encTTx x v).length = 4 ∧ (encTTx x v).all cellV = true := ⟨rfl, by cases v <;> first | rfl | cases hv⟩
def kTTx : Kd TTx := .one 4 encTTx hlTTx kTChange fun x => x.Puts
def encTWet (x : TWet) (v : Value) : List Value := [.int .i64 x.At, v]
theorem hlTWet (x : TWet) (v : Value) (hv : cellV v = true) : (encTWet x v).length = 2 ∧ (encTWet x v).all cellV = true := ⟨rfl, by cases v <;> first | rfl | cases hv⟩
def kTWet : Kd TWet := .one 2 encTWet hlTWet kU8 fun x => x.B
def encTCell (x : TCell) (v : Value) : List Value := [.bool x.Bad, v]
theorem hlTCell (x : TCell) (v : Value) (hv : cellV v = true) : (encTCell x v).length = 2 ∧ (encTCell x v).all cellV = true := ⟨rfl, by cases v <;> first | rfl | cases hv⟩
def kTCell : Kd TCell := .one 2 encTCell hlTCell kU8 fun x => x.B
def encTBox (x : TBox) : List Value := [.int .i64 x.X0, .int .i64 x.Y0, .int .i64 x.X1, .int .i64 x.Y1]
def kTBox : Kd TBox := .flat 4 encTBox fun _ => ⟨rfl, rfl⟩
def encTCur (x : TCur) (v : Value) : List Value := [v, .int .i64 x.i, .int .i64 x.h]
theorem hlTCur (x : TCur) (v : Value) (hv : cellV v = true) : (encTCur x v).length = 3 ∧ (encTCur x v).all cellV = true := ⟨rfl, by cases v <;> first | rfl | cases hv⟩
def kTCur : Kd TCur := .one 3 encTCur hlTCur kU8 fun x => x.b
def encTItem (x : TItem) : List Value := [.int .i64 x.Id, .int .i64 x.R.X0, .int .i64 x.R.Y0, .int .i64 x.R.X1, .int .i64 x.R.Y1]
def kTItem : Kd TItem := .flat 5 encTItem fun _ => ⟨rfl, rfl⟩
theorem mixd : Try.prog.follows .mixedOrders = true := by kernel_rfl
theorem ag110 : Tag Try.prog 110 = true := by kernel_rfl
theorem ag113 : Tag Try.prog 113 = true := by kernel_rfl
theorem ag132 : Tag Try.prog 132 = true := by kernel_rfl
theorem ag134 : Tag Try.prog 134 = true := by kernel_rfl
theorem ag158 : Tag Try.prog 158 = true := by kernel_rfl
theorem ag27 : Tag Try.prog 27 = true := by kernel_rfl
theorem ag47 : Tag Try.prog 47 = true := by kernel_rfl
theorem ag49 : Tag Try.prog 49 = true := by kernel_rfl
theorem ag57 : Tag Try.prog 57 = true := by kernel_rfl
theorem ef132 : Tef Try.prog 132 = some [(3, 0), (3, 1), (3, 2), (3, 3)] := by kernel_rfl
theorem ef134 : Tef Try.prog 134 = some [(3, 0), (132, 1)] := by kernel_rfl
theorem fo110_0 : Tfo Try.prog 110 0 = some 0 := by kernel_rfl
theorem fo110_1 : Tfo Try.prog 110 1 = some 1 := by kernel_rfl
theorem fo113_0 : Tfo Try.prog 113 0 = some 0 := by kernel_rfl
theorem fo113_1 : Tfo Try.prog 113 1 = some 1 := by kernel_rfl
theorem fo132_0 : Tfo Try.prog 132 0 = some 0 := by kernel_rfl
theorem fo132_1 : Tfo Try.prog 132 1 = some 1 := by kernel_rfl
theorem fo132_2 : Tfo Try.prog 132 2 = some 2 := by kernel_rfl
theorem fo132_3 : Tfo Try.prog 132 3 = some 3 := by kernel_rfl
theorem fo134_0 : Tfo Try.prog 134 0 = some 0 := by kernel_rfl
theorem fo134_1 : Tfo Try.prog 134 1 = some 1 := by kernel_rfl
theorem fo144_0 : Tfo Try.prog 144 0 = some 0 := by kernel_rfl
theorem fo144_1 : Tfo Try.prog 144 1 = some 1 := by kernel_rfl
theorem fo144_2 : Tfo Try.prog 144 2 = some 2 := by kernel_rfl
theorem fo158_0 : Tfo Try.prog 158 0 = some 0 := by kernel_rfl
theorem fo158_1 : Tfo Try.prog 158 1 = some 1 := by kernel_rfl
theorem fo27_0 : Tfo Try.prog 27 0 = some 0 := by kernel_rfl
theorem fo27_1 : Tfo Try.prog 27 1 = some 1 := by kernel_rfl
theorem fo27_2 : Tfo Try.prog 27 2 = some 2 := by kernel_rfl
theorem fo27_3 : Tfo Try.prog 27 3 = some 3 := by kernel_rfl
theorem fo47_0 : Tfo Try.prog 47 0 = some 0 := by kernel_rfl
theorem fo47_1 : Tfo Try.prog 47 1 = some 1 := by kernel_rfl
theorem fo49_0 : Tfo Try.prog 49 0 = some 0 := by kernel_rfl
theorem fo49_1 : Tfo Try.prog 49 1 = some 1 := by kernel_rfl
theorem fo57_0 : Tfo Try.prog 57 0 = some 0 := by kernel_rfl
theorem fo57_1 : Tfo Try.prog 57 1 = some 1 := by kernel_rfl
theorem fo57_2 : Tfo Try.prog 57 2 = some 2 := by kernel_rfl
theorem fo57_3 : Tfo Try.prog 57 3 = some 3 := by kernel_rfl
theorem gq132 : Try.prog.eqGuardType Try.prog.depth 132 = false := by kernel_rfl
theorem gq134 : Try.prog.eqGuardType Try.prog.depth 134 = false := by kernel_rfl
theorem sc22 : Tsc Try.prog 22 = true := by kernel_rfl
theorem sc24 : Tsc Try.prog 24 = true := by kernel_rfl
theorem sc25 : Tsc Try.prog 25 = true := by kernel_rfl
theorem sc3 : Tsc Try.prog 3 = true := by kernel_rfl
theorem sc4 : Tsc Try.prog 4 = true := by kernel_rfl
theorem sc45 : Tsc Try.prog 45 = true := by kernel_rfl
theorem sc5 : Tsc Try.prog 5 = true := by kernel_rfl
theorem sc55 : Tsc Try.prog 55 = true := by kernel_rfl
theorem sl153 : SlT Try.prog 153 158 5 40 [.int .i64 0, .int .i64 0, .int .i64 0, .int .i64 0, .int .i64 0] := ⟨by kernel_rfl, by kernel_rfl, by kernel_rfl, rfl, by kernel_rfl, rfl⟩
theorem sl22 : SlT Try.prog 22 5 1 1 [.int .u8 0] := ⟨by kernel_rfl, by kernel_rfl, by kernel_rfl, rfl, by kernel_rfl, rfl⟩
theorem sl24 : SlT Try.prog 24 113 2 32 [.bool false, .slice none 0 0] := ⟨by kernel_rfl, by kernel_rfl, by kernel_rfl, rfl, by kernel_rfl, rfl⟩
theorem sl25 : SlT Try.prog 25 110 2 32 [.int .i64 0, .slice none 0 0] := ⟨by kernel_rfl, by kernel_rfl, by kernel_rfl, rfl, by kernel_rfl, rfl⟩
theorem sl33 : SlT Try.prog 33 3 1 8 [.int .i64 0] := ⟨by kernel_rfl, by kernel_rfl, by kernel_rfl, rfl, by kernel_rfl, rfl⟩
theorem sl45 : SlT Try.prog 45 134 5 40 [.int .i64 0, .int .i64 0, .int .i64 0, .int .i64 0, .int .i64 0] := ⟨by kernel_rfl, by kernel_rfl, by kernel_rfl, rfl, by kernel_rfl, rfl⟩
theorem sl55 : SlT Try.prog 55 49 3 40 [.int .i64 0, .bool false, .slice none 0 0] := ⟨by kernel_rfl, by kernel_rfl, by kernel_rfl, rfl, by kernel_rfl, rfl⟩
theorem sl80 : SlT Try.prog 80 57 4 48 [.int .i64 0, .int .i64 0, .int .i64 0, .slice none 0 0] := ⟨by kernel_rfl, by kernel_rfl, by kernel_rfl, rfl, by kernel_rfl, rfl⟩
theorem sl91 : SlT Try.prog 91 22 1 24 [.slice none 0 0] := ⟨by kernel_rfl, by kernel_rfl, by kernel_rfl, rfl, by kernel_rfl, rfl⟩
theorem st110 : Tst Try.prog 110 = some ([.int .i64 0, .slice none 0 0], [(0, 1), (1, 1)]) := by kernel_rfl
theorem st113 : Tst Try.prog 113 = some ([.bool false, .slice none 0 0], [(0, 1), (1, 1)]) := by kernel_rfl
theorem st132 : Tst Try.prog 132 = some ([.int .i64 0, .int .i64 0, .int .i64 0, .int .i64 0], [(0, 1), (1, 1), (2, 1), (3, 1)]) := by kernel_rfl
theorem st134 : Tst Try.prog 134 = some ([.int .i64 0, .int .i64 0, .int .i64 0, .int .i64 0, .int .i64 0], [(0, 1), (1, 4)]) := by kernel_rfl
theorem st144 : Tst Try.prog 144 = some ([.slice none 0 0, .int .i64 0, .int .i64 0], [(0, 1), (1, 1), (2, 1)]) := by kernel_rfl
theorem st158 : Tst Try.prog 158 = some ([.int .i64 0, .int .i64 0, .int .i64 0, .int .i64 0, .int .i64 0], [(0, 1), (1, 4)]) := by kernel_rfl
theorem st27 : Tst Try.prog 27 = some ([.slice none 0 0, .slice none 0 0, .int .i64 0, .bool false], [(0, 1), (1, 1), (2, 1), (3, 1)]) := by kernel_rfl
theorem st47 : Tst Try.prog 47 = some ([.bool false, .slice none 0 0], [(0, 1), (1, 1)]) := by kernel_rfl
theorem st49 : Tst Try.prog 49 = some ([.int .i64 0, .bool false, .slice none 0 0], [(0, 1), (1, 2)]) := by kernel_rfl
theorem st57 : Tst Try.prog 57 = some ([.int .i64 0, .int .i64 0, .int .i64 0, .slice none 0 0], [(0, 1), (1, 1), (2, 1), (3, 1)]) := by kernel_rfl
theorem sz110 : Tsz Try.prog 110 = some 2 := by kernel_rfl
theorem sz113 : Tsz Try.prog 113 = some 2 := by kernel_rfl
theorem sz132 : Tsz Try.prog 132 = some 4 := by kernel_rfl
theorem sz134 : Tsz Try.prog 134 = some 5 := by kernel_rfl
theorem sz158 : Tsz Try.prog 158 = some 5 := by kernel_rfl
theorem sz22 : Tsz Try.prog 22 = some 1 := by kernel_rfl
theorem sz24 : Tsz Try.prog 24 = some 1 := by kernel_rfl
theorem sz25 : Tsz Try.prog 25 = some 1 := by kernel_rfl
theorem sz27 : Tsz Try.prog 27 = some 4 := by kernel_rfl
theorem sz3 : Tsz Try.prog 3 = some 1 := by kernel_rfl
theorem sz4 : Tsz Try.prog 4 = some 1 := by kernel_rfl
theorem sz45 : Tsz Try.prog 45 = some 1 := by kernel_rfl
theorem sz47 : Tsz Try.prog 47 = some 2 := by kernel_rfl
theorem sz49 : Tsz Try.prog 49 = some 3 := by kernel_rfl
theorem sz5 : Tsz Try.prog 5 = some 1 := by kernel_rfl
theorem sz55 : Tsz Try.prog 55 = some 1 := by kernel_rfl
theorem sz57 : Tsz Try.prog 57 = some 4 := by kernel_rfl
theorem tz3 : Tz Try.prog 3 = some (.int .i64 0) := by kernel_rfl
theorem ul129 : Try.prog.underlying 129 = some (.map 3 3) := by kernel_rfl
theorem ul153 : Try.prog.underlying 153 = some (.slice 158) := by kernel_rfl
theorem ul22 : Try.prog.underlying 22 = some (.slice 5) := by kernel_rfl
theorem ul24 : Try.prog.underlying 24 = some (.slice 113) := by kernel_rfl
theorem ul25 : Try.prog.underlying 25 = some (.slice 110) := by kernel_rfl
theorem ul3 : Try.prog.underlying 3 = some (.int .i64) := by kernel_rfl
theorem ul33 : Try.prog.underlying 33 = some (.slice 3) := by kernel_rfl
theorem ul4 : Try.prog.underlying 4 = some (.bool) := by kernel_rfl
theorem ul45 : Try.prog.underlying 45 = some (.slice 134) := by kernel_rfl
theorem ul5 : Try.prog.underlying 5 = some (.int .u8) := by kernel_rfl
theorem ul55 : Try.prog.underlying 55 = some (.slice 49) := by kernel_rfl
theorem ul80 : Try.prog.underlying 80 = some (.slice 57) := by kernel_rfl
theorem ul9 : Try.prog.underlying 9 = some .string := by kernel_rfl
theorem ul91 : Try.prog.underlying 91 = some (.slice 22) := by kernel_rfl
theorem zc110 : Tzc Try.prog 110 = some [.int .i64 0, .slice none 0 0] := by kernel_rfl
theorem zc113 : Tzc Try.prog 113 = some [.bool false, .slice none 0 0] := by kernel_rfl
theorem zc132 : Tzc Try.prog 132 = some [.int .i64 0, .int .i64 0, .int .i64 0, .int .i64 0] := by kernel_rfl
theorem zc134 : Tzc Try.prog 134 = some [.int .i64 0, .int .i64 0, .int .i64 0, .int .i64 0, .int .i64 0] := by kernel_rfl
theorem zc158 : Tzc Try.prog 158 = some [.int .i64 0, .int .i64 0, .int .i64 0, .int .i64 0, .int .i64 0] := by kernel_rfl
theorem zc27 : Tzc Try.prog 27 = some [.slice none 0 0, .slice none 0 0, .int .i64 0, .bool false] := by kernel_rfl
theorem zc47 : Tzc Try.prog 47 = some [.bool false, .slice none 0 0] := by kernel_rfl
theorem zc49 : Tzc Try.prog 49 = some [.int .i64 0, .bool false, .slice none 0 0] := by kernel_rfl
theorem zc57 : Tzc Try.prog 57 = some [.int .i64 0, .int .i64 0, .int .i64 0, .slice none 0 0] := by kernel_rfl
theorem eqa132 (x y : TBox) : EqA Try.prog 132 2 (.agg #[.int .i64 x.X0, .int .i64 x.Y0, .int .i64 x.X1, .int .i64 x.Y1]) (.agg #[.int .i64 y.X0, .int .i64 y.Y0, .int .i64 y.X1, .int .i64 y.Y1]) (decide (x = y)) := by
  refine (EqA.struct ef132 (EqFs.sc sc3 rfl rfl ((EqA.int ul3).up (by decide)) (EqFs.sc sc3 rfl rfl ((EqA.int ul3).up (by decide)) (EqFs.sc sc3 rfl rfl ((EqA.int ul3).up (by decide)) (EqFs.sc sc3 rfl rfl ((EqA.int ul3).up (by decide)) EqFs.nil))))).cast ?_
  rw [Bool.eq_iff_iff]
  cases x; cases y
  simp

theorem eqa134 (x y : TEntry) : EqA Try.prog 134 3 (.agg #[.int .i64 x.N, .int .i64 x.R.X0, .int .i64 x.R.Y0, .int .i64 x.R.X1, .int .i64 x.R.Y1]) (.agg #[.int .i64 y.N, .int .i64 y.R.X0, .int .i64 y.R.Y0, .int .i64 y.R.X1, .int .i64 y.R.Y1]) (decide (x = y)) := by
  refine (EqA.struct ef134 (EqFs.sc sc3 rfl rfl ((EqA.int ul3).up (by decide)) (EqFs.ag ag132 sz132 rfl rfl ((eqa132 x.R y.R).up (by decide)) EqFs.nil))).cast ?_
  rw [Bool.eq_iff_iff]
  cases x; cases y
  simp
@[reducible] def vI (n : Int) : Value := .int .i64 n
@[reducible] def vS {α : Type} (a : Option Addr) (l : List α) (c : Nat) : Value := .slice a l.length c
theorem z1 {A0 : Type} {a0 : A0} : a0 = a0 ∧ True := ⟨rfl, trivial⟩
theorem z2 {A0 A1 : Type} {a0 : A0} {a1 : A1} : a0 = a0 ∧ a1 = a1 ∧ True := ⟨rfl, rfl, trivial⟩
theorem z3 {A0 A1 A2 : Type} {a0 : A0} {a1 : A1} {a2 : A2} : a0 = a0 ∧ a1 = a1 ∧ a2 = a2 ∧ True := ⟨rfl, rfl, rfl, trivial⟩
theorem z4 {A0 A1 A2 A3 : Type} {a0 : A0} {a1 : A1} {a2 : A2} {a3 : A3} : a0 = a0 ∧ a1 = a1 ∧ a2 = a2 ∧ a3 = a3 ∧ True := ⟨rfl, rfl, rfl, rfl, trivial⟩
theorem z5 {A0 A1 A2 A3 A4 : Type} {a0 : A0} {a1 : A1} {a2 : A2} {a3 : A3} {a4 : A4} : a0 = a0 ∧ a1 = a1 ∧ a2 = a2 ∧ a3 = a3 ∧ a4 = a4 ∧ True := ⟨rfl, rfl, rfl, rfl, rfl, trivial⟩
theorem z6 {A0 A1 A2 A3 A4 A5 : Type} {a0 : A0} {a1 : A1} {a2 : A2} {a3 : A3} {a4 : A4} {a5 : A5} : a0 = a0 ∧ a1 = a1 ∧ a2 = a2 ∧ a3 = a3 ∧ a4 = a4 ∧ a5 = a5 ∧ True := ⟨rfl, rfl, rfl, rfl, rfl, rfl, trivial⟩
theorem z7 {A0 A1 A2 A3 A4 A5 A6 : Type} {a0 : A0} {a1 : A1} {a2 : A2} {a3 : A3} {a4 : A4} {a5 : A5} {a6 : A6} : a0 = a0 ∧ a1 = a1 ∧ a2 = a2 ∧ a3 = a3 ∧ a4 = a4 ∧ a5 = a5 ∧ a6 = a6 ∧ True := ⟨rfl, rfl, rfl, rfl, rfl, rfl, rfl, trivial⟩
theorem z8 {A0 A1 A2 A3 A4 A5 A6 A7 : Type} {a0 : A0} {a1 : A1} {a2 : A2} {a3 : A3} {a4 : A4} {a5 : A5} {a6 : A6} {a7 : A7} : a0 = a0 ∧ a1 = a1 ∧ a2 = a2 ∧ a3 = a3 ∧ a4 = a4 ∧ a5 = a5 ∧ a6 = a6 ∧ a7 = a7 ∧ True := ⟨rfl, rfl, rfl, rfl, rfl, rfl, rfl, rfl, trivial⟩
theorem z9 {A0 A1 A2 A3 A4 A5 A6 A7 A8 : Type} {a0 : A0} {a1 : A1} {a2 : A2} {a3 : A3} {a4 : A4} {a5 : A5} {a6 : A6} {a7 : A7} {a8 : A8} : a0 = a0 ∧ a1 = a1 ∧ a2 = a2 ∧ a3 = a3 ∧ a4 = a4 ∧ a5 = a5 ∧ a6 = a6 ∧ a7 = a7 ∧ a8 = a8 ∧ True := ⟨rfl, rfl, rfl, rfl, rfl, rfl, rfl, rfl, rfl, trivial⟩
theorem z10 {A0 A1 A2 A3 A4 A5 A6 A7 A8 A9 : Type} {a0 : A0} {a1 : A1} {a2 : A2} {a3 : A3} {a4 : A4} {a5 : A5} {a6 : A6} {a7 : A7} {a8 : A8} {a9 : A9} : a0 = a0 ∧ a1 = a1 ∧ a2 = a2 ∧ a3 = a3 ∧ a4 = a4 ∧ a5 = a5 ∧ a6 = a6 ∧ a7 = a7 ∧ a8 = a8 ∧ a9 = a9 ∧ True := ⟨rfl, rfl, rfl, rfl, rfl, rfl, rfl, rfl, rfl, rfl, trivial⟩
theorem z11 {A0 A1 A2 A3 A4 A5 A6 A7 A8 A9 A10 : Type} {a0 : A0} {a1 : A1} {a2 : A2} {a3 : A3} {a4 : A4} {a5 : A5} {a6 : A6} {a7 : A7} {a8 : A8} {a9 : A9} {a10 : A10} : a0 = a0 ∧ a1 = a1 ∧ a2 = a2 ∧ a3 = a3 ∧ a4 = a4 ∧ a5 = a5 ∧ a6 = a6 ∧ a7 = a7 ∧ a8 = a8 ∧ a9 = a9 ∧ a10 = a10 ∧ True := ⟨rfl, rfl, rfl, rfl, rfl, rfl, rfl, rfl, rfl, rfl, rfl, trivial⟩
theorem z12 {A0 A1 A2 A3 A4 A5 A6 A7 A8 A9 A10 A11 : Type} {a0 : A0} {a1 : A1} {a2 : A2} {a3 : A3} {a4 : A4} {a5 : A5} {a6 : A6} {a7 : A7} {a8 : A8} {a9 : A9} {a10 : A10} {a11 : A11} : a0 = a0 ∧ a1 = a1 ∧ a2 = a2 ∧ a3 = a3 ∧ a4 = a4 ∧ a5 = a5 ∧ a6 = a6 ∧ a7 = a7 ∧ a8 = a8 ∧ a9 = a9 ∧ a10 = a10 ∧ a11 = a11 ∧ True := ⟨rfl, rfl, rfl, rfl, rfl, rfl, rfl, rfl, rfl, rfl, rfl, rfl, trivial⟩
theorem z13 {A0 A1 A2 A3 A4 A5 A6 A7 A8 A9 A10 A11 A12 : Type} {a0 : A0} {a1 : A1} {a2 : A2} {a3 : A3} {a4 : A4} {a5 : A5} {a6 : A6} {a7 : A7} {a8 : A8} {a9 : A9} {a10 : A10} {a11 : A11} {a12 : A12} : a0 = a0 ∧ a1 = a1 ∧ a2 = a2 ∧ a3 = a3 ∧ a4 = a4 ∧ a5 = a5 ∧ a6 = a6 ∧ a7 = a7 ∧ a8 = a8 ∧ a9 = a9 ∧ a10 = a10 ∧ a11 = a11 ∧ a12 = a12 ∧ True := ⟨rfl, rfl, rfl, rfl, rfl, rfl, rfl, rfl, rfl, rfl, rfl, rfl, rfl, trivial⟩
theorem z14 {A0 A1 A2 A3 A4 A5 A6 A7 A8 A9 A10 A11 A12 A13 : Type} {a0 : A0} {a1 : A1} {a2 : A2} {a3 : A3} {a4 : A4} {a5 : A5} {a6 : A6} {a7 : A7} {a8 : A8} {a9 : A9} {a10 : A10} {a11 : A11} {a12 : A12} {a13 : A13} : a0 = a0 ∧ a1 = a1 ∧ a2 = a2 ∧ a3 = a3 ∧ a4 = a4 ∧ a5 = a5 ∧ a6 = a6 ∧ a7 = a7 ∧ a8 = a8 ∧ a9 = a9 ∧ a10 = a10 ∧ a11 = a11 ∧ a12 = a12 ∧ a13 = a13 ∧ True := ⟨rfl, rfl, rfl, rfl, rfl, rfl, rfl, rfl, rfl, rfl, rfl, rfl, rfl, rfl, trivial⟩
theorem z15 {A0 A1 A2 A3 A4 A5 A6 A7 A8 A9 A10 A11 A12 A13 A14 : Type} {a0 : A0} {a1 : A1} {a2 : A2} {a3 : A3} {a4 : A4} {a5 : A5} {a6 : A6} {a7 : A7} {a8 : A8} {a9 : A9} {a10 : A10} {a11 : A11} {a12 : A12} {a13 : A13} {a14 : A14} : a0 = a0 ∧ a1 = a1 ∧ a2 = a2 ∧ a3 = a3 ∧ a4 = a4 ∧ a5 = a5 ∧ a6 = a6 ∧ a7 = a7 ∧ a8 = a8 ∧ a9 = a9 ∧ a10 = a10 ∧ a11 = a11 ∧ a12 = a12 ∧ a13 = a13 ∧ a14 = a14 ∧ True := ⟨rfl, rfl, rfl, rfl, rfl, rfl, rfl, rfl, rfl, rfl, rfl, rfl, rfl, rfl, rfl, trivial⟩
theorem z17 {A0 A1 A2 A3 A4 A5 A6 A7 A8 A9 A10 A11 A12 A13 A14 A15 A16 : Type} {a0 : A0} {a1 : A1} {a2 : A2} {a3 : A3} {a4 : A4} {a5 : A5} {a6 : A6} {a7 : A7} {a8 : A8} {a9 : A9} {a10 : A10} {a11 : A11} {a12 : A12} {a13 : A13} {a14 : A14} {a15 : A15} {a16 : A16} : a0 = a0 ∧ a1 = a1 ∧ a2 = a2 ∧ a3 = a3 ∧ a4 = a4 ∧ a5 = a5 ∧ a6 = a6 ∧ a7 = a7 ∧ a8 = a8 ∧ a9 = a9 ∧ a10 = a10 ∧ a11 = a11 ∧ a12 = a12 ∧ a13 = a13 ∧ a14 = a14 ∧ a15 = a15 ∧ a16 = a16 ∧ True := ⟨rfl, rfl, rfl, rfl, rfl, rfl, rfl, rfl, rfl, rfl, rfl, rfl, rfl, rfl, rfl, rfl, rfl, trivial⟩
theorem z22 {A0 A1 A2 A3 A4 A5 A6 A7 A8 A9 A10 A11 A12 A13 A14 A15 A16 A17 A18 A19 A20 A21 : Type} {a0 : A0} {a1 : A1} {a2 : A2} {a3 : A3} {a4 : A4} {a5 : A5} {a6 : A6} {a7 : A7} {a8 : A8} {a9 : A9} {a10 : A10} {a11 : A11} {a12 : A12} {a13 : A13} {a14 : A14} {a15 : A15} {a16 : A16} {a17 : A17} {a18 : A18} {a19 : A19} {a20 : A20} {a21 : A21} : a0 = a0 ∧ a1 = a1 ∧ a2 = a2 ∧ a3 = a3 ∧ a4 = a4 ∧ a5 = a5 ∧ a6 = a6 ∧ a7 = a7 ∧ a8 = a8 ∧ a9 = a9 ∧ a10 = a10 ∧ a11 = a11 ∧ a12 = a12 ∧ a13 = a13 ∧ a14 = a14 ∧ a15 = a15 ∧ a16 = a16 ∧ a17 = a17 ∧ a18 = a18 ∧ a19 = a19 ∧ a20 = a20 ∧ a21 = a21 ∧ True := ⟨rfl, rfl, rfl, rfl, rfl, rfl, rfl, rfl, rfl, rfl, rfl, rfl, rfl, rfl, rfl, rfl, rfl, rfl, rfl, rfl, rfl, rfl, trivial⟩

end Go.Proofs.Sx
