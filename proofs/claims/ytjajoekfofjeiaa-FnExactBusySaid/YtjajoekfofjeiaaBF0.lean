import Derived.Test.YtjajoekfofjeiaaProg
import Derived.Test.YtjajoekfofjeiaaLG
import Derived.Test.YtjajoekfofjeiaaBD
import Derived.KernelRfl
namespace Go.Proofs.Sx
open Go.RowKit
set_option linter.unusedVariables false
set_option linter.unusedSimpArgs false
set_option maxRecDepth 20000
set_option maxHeartbeats 1000000
def encTBox (x : TBox) : List Value := [.int .i64 x.X0, .int .i64 x.Y0, .int .i64 x.X1, .int .i64 x.Y1]
def kTBox : Kd TBox := .flat 4 encTBox fun _ => ⟨rfl, rfl⟩
def encTItem (x : TItem) : List Value := [.int .i64 x.Id, .int .i64 x.R.X0, .int .i64 x.R.Y0, .int .i64 x.R.X1, .int .i64 x.R.Y1]
def kTItem : Kd TItem := .flat 5 encTItem fun _ => ⟨rfl, rfl⟩
def encTEntry (x : TEntry) : List Value := [.int .i64 x.N, .int .i64 x.R.X0, .int .i64 x.R.Y0, .int .i64 x.R.X1, .int .i64 x.R.Y1]
def kTEntry : Kd TEntry := .flat 5 encTEntry fun _ => ⟨rfl, rfl⟩
theorem mixd : Try.prog.follows .mixedOrders = true := by kernel_rfl
theorem ag49 : Tag Try.prog 49 = true := by kernel_rfl
theorem ag55 : Tag Try.prog 55 = true := by kernel_rfl
theorem ag84 : Tag Try.prog 84 = true := by kernel_rfl
theorem ag86 : Tag Try.prog 86 = true := by kernel_rfl
theorem ag88 : Tag Try.prog 88 = true := by kernel_rfl
theorem ag90 : Tag Try.prog 90 = true := by kernel_rfl
theorem ag92 : Tag Try.prog 92 = true := by kernel_rfl
theorem ag95 : Tag Try.prog 95 = true := by kernel_rfl
theorem fo49_0 : Tfo Try.prog 49 0 = some 0 := by kernel_rfl
theorem fo49_1 : Tfo Try.prog 49 1 = some 1 := by kernel_rfl
theorem fo49_2 : Tfo Try.prog 49 2 = some 2 := by kernel_rfl
theorem fo49_3 : Tfo Try.prog 49 3 = some 3 := by kernel_rfl
theorem fo49_4 : Tfo Try.prog 49 4 = some 4 := by kernel_rfl
theorem fo49_5 : Tfo Try.prog 49 5 = some 5 := by kernel_rfl
theorem fo55_0 : Tfo Try.prog 55 0 = some 0 := by kernel_rfl
theorem fo55_1 : Tfo Try.prog 55 1 = some 1 := by kernel_rfl
theorem fo55_2 : Tfo Try.prog 55 2 = some 2 := by kernel_rfl
theorem fo55_3 : Tfo Try.prog 55 3 = some 3 := by kernel_rfl
theorem fo55_4 : Tfo Try.prog 55 4 = some 4 := by kernel_rfl
theorem fo55_5 : Tfo Try.prog 55 5 = some 5 := by kernel_rfl
theorem fo84_0 : Tfo Try.prog 84 0 = some 0 := by kernel_rfl
theorem fo84_1 : Tfo Try.prog 84 1 = some 1 := by kernel_rfl
theorem fo84_2 : Tfo Try.prog 84 2 = some 2 := by kernel_rfl
theorem fo84_3 : Tfo Try.prog 84 3 = some 3 := by kernel_rfl
theorem fo86_0 : Tfo Try.prog 86 0 = some 0 := by kernel_rfl
theorem fo86_1 : Tfo Try.prog 86 1 = some 1 := by kernel_rfl
theorem fo88_0 : Tfo Try.prog 88 0 = some 0 := by kernel_rfl
theorem fo88_1 : Tfo Try.prog 88 1 = some 1 := by kernel_rfl
theorem fo88_2 : Tfo Try.prog 88 2 = some 2 := by kernel_rfl
theorem fo88_3 : Tfo Try.prog 88 3 = some 3 := by kernel_rfl
theorem fo90_0 : Tfo Try.prog 90 0 = some 0 := by kernel_rfl
theorem fo90_1 : Tfo Try.prog 90 1 = some 1 := by kernel_rfl
theorem fo92_0 : Tfo Try.prog 92 0 = some 0 := by kernel_rfl
theorem fo92_1 : Tfo Try.prog 92 1 = some 1 := by kernel_rfl
theorem fo95_0 : Tfo Try.prog 95 0 = some 0 := by kernel_rfl
theorem fo95_1 : Tfo Try.prog 95 1 = some 1 := by kernel_rfl
theorem sc3 : Tsc Try.prog 3 = true := by kernel_rfl
theorem sc45 : Tsc Try.prog 45 = true := by kernel_rfl
theorem sc46 : Tsc Try.prog 46 = true := by kernel_rfl
theorem sc47 : Tsc Try.prog 47 = true := by kernel_rfl
theorem sc52 : Tsc Try.prog 52 = true := by kernel_rfl
theorem sc53 : Tsc Try.prog 53 = true := by kernel_rfl
theorem sl45 : SlT Try.prog 45 3 1 8 [.int .i64 0] := ⟨by kernel_rfl, by kernel_rfl, by kernel_rfl, rfl, by kernel_rfl, rfl⟩
theorem sl52 : SlT Try.prog 52 86 5 40 [.int .i64 0, .int .i64 0, .int .i64 0, .int .i64 0, .int .i64 0] := ⟨by kernel_rfl, by kernel_rfl, by kernel_rfl, rfl, by kernel_rfl, rfl⟩
theorem sl53 : SlT Try.prog 53 92 5 40 [.int .i64 0, .int .i64 0, .int .i64 0, .int .i64 0, .int .i64 0] := ⟨by kernel_rfl, by kernel_rfl, by kernel_rfl, rfl, by kernel_rfl, rfl⟩
theorem sz3 : Tsz Try.prog 3 = some 1 := by kernel_rfl
theorem sz45 : Tsz Try.prog 45 = some 1 := by kernel_rfl
theorem sz49 : Tsz Try.prog 49 = some 6 := by kernel_rfl
theorem sz52 : Tsz Try.prog 52 = some 1 := by kernel_rfl
theorem sz53 : Tsz Try.prog 53 = some 1 := by kernel_rfl
theorem sz55 : Tsz Try.prog 55 = some 6 := by kernel_rfl
theorem sz84 : Tsz Try.prog 84 = some 4 := by kernel_rfl
theorem sz86 : Tsz Try.prog 86 = some 5 := by kernel_rfl
theorem sz88 : Tsz Try.prog 88 = some 4 := by kernel_rfl
theorem sz90 : Tsz Try.prog 90 = some 5 := by kernel_rfl
theorem sz92 : Tsz Try.prog 92 = some 5 := by kernel_rfl
theorem sz95 : Tsz Try.prog 95 = some 5 := by kernel_rfl
theorem ul4 : Try.prog.underlying 4 = some (.bool) := by kernel_rfl
theorem ul45 : Try.prog.underlying 45 = some (.slice 3) := by kernel_rfl
theorem ul46 : Try.prog.underlying 46 = some (.slice 90) := by kernel_rfl
theorem ul47 : Try.prog.underlying 47 = some (.slice 95) := by kernel_rfl
theorem ul52 : Try.prog.underlying 52 = some (.slice 86) := by kernel_rfl
theorem ul53 : Try.prog.underlying 53 = some (.slice 92) := by kernel_rfl
theorem zc55 : Tzc Try.prog 55 = some [.int .i64 0, .slice none 0 0, .slice none 0 0, .slice none 0 0, .slice none 0 0, .slice none 0 0] := by kernel_rfl
theorem zc84 : Tzc Try.prog 84 = some [.int .i64 0, .int .i64 0, .int .i64 0, .int .i64 0] := by kernel_rfl
theorem zc86 : Tzc Try.prog 86 = some [.int .i64 0, .int .i64 0, .int .i64 0, .int .i64 0, .int .i64 0] := by kernel_rfl
theorem zc92 : Tzc Try.prog 92 = some [.int .i64 0, .int .i64 0, .int .i64 0, .int .i64 0, .int .i64 0] := by kernel_rfl

end Go.Proofs.Sx
