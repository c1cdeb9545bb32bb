import Derived.Test.YtjajoekfofjeiaaLH
import Derived.KernelRfl
namespace Go.Proofs.Sx
open Go.RowKit
set_option linter.unusedVariables false
set_option linter.unusedSimpArgs false
set_option maxRecDepth 20000
set_option maxHeartbeats 1000000
structure TCell where
  Bad : Bool
  B : (List Int)
  deriving DecidableEq, Inhabited
structure TWet where
  At : Int
  B : (List Int)
  deriving DecidableEq, Inhabited
structure TDisk where
  Cells : (List TCell)
  Wet : (List TWet)
  Fuse : Int
  Dead : Bool
  deriving DecidableEq, Inhabited

/-! spec.DiskNew -/
def spec_DiskNew : Option (TDisk) := some (⟨([] : (List TCell)), ([] : (List TWet)), (-1), false⟩ : TDisk)
/-! impl.DiskNew -/
def impl_DiskNew : Option (TDisk) := some (⟨([] : (List TCell)), ([] : (List TWet)), (-1), false⟩ : TDisk)
/-! laws.eqByteS -/
def laws_eqByteS_b0 (p0 : (List Int)) (p1 : (List Int)) : Int → Option (Nx (Int) (Bool))
  | i4 => (if (decide (i4 < ((List.length p0 : Nat) : Int))) = true then (if (0 : Int) ≤ i4 ∧ i4 < ((List.length p0 : Nat) : Int) then (if (0 : Int) ≤ i4 ∧ i4 < ((List.length p1 : Nat) : Int) then (if (!decide ((gt p0 i4) = (gt p1 i4))) = true then some (.ret false) else some (.next (wrap64 (i4 + 1)))) else none) else none) else some (.out i4))
def laws_eqByteS (k : Nat) (p0 : (List Int)) (p1 : (List Int)) : Option (Bool) := (if (!decide (((List.length p0 : Nat) : Int) = ((List.length p1 : Nat) : Int))) = true then some false else ((loopM (laws_eqByteS_b0 p0 p1) k 0).bind fun o11 => match o11 with | .out i12 => some true | .ret r => some r | .next _ => none))
/-! laws.eqCell -/
def laws_eqCell (k : Nat) (p0 : TCell) (p1 : TCell) : Option (Bool) := (if (!(p0.Bad == p1.Bad)) = true then some false else ((laws_eqByteS k p0.B p1.B).bind fun t3 => (if (!t3) = true then some false else some true)))
/-! laws.eqCellS -/
def laws_eqCellS_b0 (k : Nat) (p0 : (List TCell)) (p1 : (List TCell)) : Int → Option (Nx (Int) (Bool))
  | i14 => (if (decide (i14 < ((List.length p0 : Nat) : Int))) = true then (if (0 : Int) ≤ i14 ∧ i14 < ((List.length p0 : Nat) : Int) then (if (0 : Int) ≤ i14 ∧ i14 < ((List.length p1 : Nat) : Int) then ((laws_eqCell k (gt p0 i14) (gt p1 i14)).bind fun t39 => (if (!t39) = true then some (.ret false) else some (.next (wrap64 (i14 + 1))))) else none) else none) else some (.out i14))
def laws_eqCellS (k : Nat) (p0 : (List TCell)) (p1 : (List TCell)) : Option (Bool) := (if (!decide (((List.length p0 : Nat) : Int) = ((List.length p1 : Nat) : Int))) = true then some false else ((loopM (laws_eqCellS_b0 k p0 p1) k 0).bind fun o41 => match o41 with | .out i42 => some true | .ret r => some r | .next _ => none))
/-! laws.eqWet -/
def laws_eqWet (k : Nat) (p0 : TWet) (p1 : TWet) : Option (Bool) := (if (!decide (p0.At = p1.At)) = true then some false else ((laws_eqByteS k p0.B p1.B).bind fun t3 => (if (!t3) = true then some false else some true)))
/-! laws.eqWetS -/
def laws_eqWetS_b0 (k : Nat) (p0 : (List TWet)) (p1 : (List TWet)) : Int → Option (Nx (Int) (Bool))
  | i14 => (if (decide (i14 < ((List.length p0 : Nat) : Int))) = true then (if (0 : Int) ≤ i14 ∧ i14 < ((List.length p0 : Nat) : Int) then (if (0 : Int) ≤ i14 ∧ i14 < ((List.length p1 : Nat) : Int) then ((laws_eqWet k (gt p0 i14) (gt p1 i14)).bind fun t39 => (if (!t39) = true then some (.ret false) else some (.next (wrap64 (i14 + 1))))) else none) else none) else some (.out i14))
def laws_eqWetS (k : Nat) (p0 : (List TWet)) (p1 : (List TWet)) : Option (Bool) := (if (!decide (((List.length p0 : Nat) : Int) = ((List.length p1 : Nat) : Int))) = true then some false else ((loopM (laws_eqWetS_b0 k p0 p1) k 0).bind fun o41 => match o41 with | .out i42 => some true | .ret r => some r | .next _ => none))
/-! laws.eqDisk -/
def laws_eqDisk (k : Nat) (p0 : TDisk) (p1 : TDisk) : Option (Bool) := ((laws_eqCellS k p0.Cells p1.Cells).bind fun t3 => (if (!t3) = true then some false else ((laws_eqWetS k p0.Wet p1.Wet).bind fun t5 => (if (!t5) = true then some false else (if (!decide (p0.Fuse = p1.Fuse)) = true then some false else (if (!(p0.Dead == p1.Dead)) = true then some false else some true))))))
/-! laws.markByteS -/
def laws_markByteS_b0 : ((List Int) × Int × Int) → Option (Nx ((List Int) × Int × Int) (Int × (List Int)))
  | (l5, i6, i7) => (if (decide (i7 < ((List.length l5 : Nat) : Int))) = true then (if (0 : Int) ≤ i7 ∧ i7 < ((List.length l5 : Nat) : Int) then ((some (List.set l5 (Int.toNat i7) (IntKind.u8.wrap i6))).bind fun l13 => some (.next (l13, (wrap64 (i6 + 1)), (wrap64 (i7 + 1))))) else none) else some (.out (l5, i6, i7)))
def laws_markByteS (k : Nat) (p0 : (List Int)) (p1 : Int) : Option (Int × (List Int)) := ((loopM (laws_markByteS_b0) k (p0, p1, 0)).bind fun o16 => match o16 with | .out (l17, i18, i19) => some (i18, l17) | .ret r => some r | .next _ => none)
/-! laws.markCellS -/
def laws_markCellS_b0 (k : Nat) : ((List TCell) × Int × Int) → Option (Nx ((List TCell) × Int × Int) (Int × (List TCell)))
  | (l11, i12, i13) => (if (decide (i13 < ((List.length l11 : Nat) : Int))) = true then (if (0 : Int) ≤ i13 ∧ i13 < ((List.length l11 : Nat) : Int) then ((some (List.set l11 (Int.toNat i13) (⟨(decide ((Int.tmod i12 3) = 0)), (gt l11 i13).B⟩ : TCell))).bind fun l25 => (if (0 : Int) ≤ i13 ∧ i13 < ((List.length l25 : Nat) : Int) then ((laws_markByteS k ((gt l25 i13).B) (wrap64 (i12 + 1))).bind fun t31 => (if List.length t31.2 = List.length ((gt l25 i13).B) then some (.next ((List.set l25 (Int.toNat i13) (⟨(gt l25 i13).Bad, t31.2⟩ : TCell)), t31.1, (wrap64 (i13 + 1)))) else none)) else none)) else none) else some (.out (l11, i12, i13)))
def laws_markCellS (k : Nat) (p0 : (List TCell)) (p1 : Int) : Option (Int × (List TCell)) := ((loopM (laws_markCellS_b0 k) k (p0, p1, 0)).bind fun o34 => match o34 with | .out (l35, i36, i37) => some (i36, l35) | .ret r => some r | .next _ => none)
/-! laws.markWetS -/
def laws_markWetS_b0 (k : Nat) : ((List TWet) × Int × Int) → Option (Nx ((List TWet) × Int × Int) (Int × (List TWet)))
  | (l11, i12, i13) => (if (decide (i13 < ((List.length l11 : Nat) : Int))) = true then (if (0 : Int) ≤ i13 ∧ i13 < ((List.length l11 : Nat) : Int) then ((some (List.set l11 (Int.toNat i13) (⟨i12, (gt l11 i13).B⟩ : TWet))).bind fun l25 => (if (0 : Int) ≤ i13 ∧ i13 < ((List.length l25 : Nat) : Int) then ((laws_markByteS k ((gt l25 i13).B) (wrap64 (i12 + 1))).bind fun t31 => (if List.length t31.2 = List.length ((gt l25 i13).B) then some (.next ((List.set l25 (Int.toNat i13) (⟨(gt l25 i13).At, t31.2⟩ : TWet)), t31.1, (wrap64 (i13 + 1)))) else none)) else none)) else none) else some (.out (l11, i12, i13)))
def laws_markWetS (k : Nat) (p0 : (List TWet)) (p1 : Int) : Option (Int × (List TWet)) := ((loopM (laws_markWetS_b0 k) k (p0, p1, 0)).bind fun o34 => match o34 with | .out (l35, i36, i37) => some (i36, l35) | .ret r => some r | .next _ => none)
/-! laws.markDisk -/
def laws_markDisk (k : Nat) (p0 : TDisk) (p1 : Int) : Option (Int × (List TCell) × (List TWet)) := ((laws_markCellS k p0.Cells p1).bind fun t2 => (if List.length t2.2 = List.length p0.Cells then ((laws_markWetS k p0.Wet t2.1).bind fun t5 => (if List.length t5.2 = List.length p0.Wet then some (t5.1, t2.2, t5.2) else none)) else none))
/-! laws.heldByteS -/
def laws_heldByteS_b0 (p0 : (List Int)) : (Int × Int) → Option (Nx (Int × Int) (Int))
  | (i2, i3) => (if (decide (i3 < ((List.length p0 : Nat) : Int))) = true then (if (0 : Int) ≤ i3 ∧ i3 < ((List.length p0 : Nat) : Int) then (if (!decide ((gt p0 i3) = (IntKind.u8.wrap i2))) = true then some (.ret (-1)) else some (.next ((wrap64 (i2 + 1)), (wrap64 (i3 + 1))))) else none) else some (.out (i2, i3)))
def laws_heldByteS (k : Nat) (p0 : (List Int)) (p1 : Int) : Option (Int) := ((loopM (laws_heldByteS_b0 p0) k (p1, 0)).bind fun o6 => match o6 with | .out (i7, i8) => some i7 | .ret r => some r | .next _ => none)
/-! laws.heldCellS -/
def laws_heldCellS_b0 (k : Nat) (p0 : (List TCell)) : (Int × Int) → Option (Nx (Int × Int) (Int))
  | (i13, i14) => (if (decide (i14 < ((List.length p0 : Nat) : Int))) = true then (if (0 : Int) ≤ i14 ∧ i14 < ((List.length p0 : Nat) : Int) then (if (!(((gt p0 i14).Bad) == (decide ((Int.tmod i13 3) = 0)))) = true then some (.ret (-1)) else (if (0 : Int) ≤ i14 ∧ i14 < ((List.length p0 : Nat) : Int) then ((laws_heldByteS k ((gt p0 i14).B) (wrap64 (i13 + 1))).bind fun t37 => (if (decide (t37 < 0)) = true then some (.ret (-1)) else some (.next (t37, (wrap64 (i14 + 1)))))) else none)) else none) else some (.out (i13, i14)))
def laws_heldCellS (k : Nat) (p0 : (List TCell)) (p1 : Int) : Option (Int) := ((loopM (laws_heldCellS_b0 k p0) k (p1, 0)).bind fun o39 => match o39 with | .out (i40, i41) => some i40 | .ret r => some r | .next _ => none)
/-! laws.heldWetS -/
def laws_heldWetS_b0 (k : Nat) (p0 : (List TWet)) : (Int × Int) → Option (Nx (Int × Int) (Int))
  | (i13, i14) => (if (decide (i14 < ((List.length p0 : Nat) : Int))) = true then (if (0 : Int) ≤ i14 ∧ i14 < ((List.length p0 : Nat) : Int) then (if (!decide (((gt p0 i14).At) = i13)) = true then some (.ret (-1)) else (if (0 : Int) ≤ i14 ∧ i14 < ((List.length p0 : Nat) : Int) then ((laws_heldByteS k ((gt p0 i14).B) (wrap64 (i13 + 1))).bind fun t37 => (if (decide (t37 < 0)) = true then some (.ret (-1)) else some (.next (t37, (wrap64 (i14 + 1)))))) else none)) else none) else some (.out (i13, i14)))
def laws_heldWetS (k : Nat) (p0 : (List TWet)) (p1 : Int) : Option (Int) := ((loopM (laws_heldWetS_b0 k p0) k (p1, 0)).bind fun o39 => match o39 with | .out (i40, i41) => some i40 | .ret r => some r | .next _ => none)
/-! laws.heldDisk -/
def laws_heldDisk (k : Nat) (p0 : TDisk) (p1 : Int) : Option (Int) := ((laws_heldCellS k p0.Cells p1).bind fun t2 => (if (decide (t2 < 0)) = true then some (-1) else ((laws_heldWetS k p0.Wet t2).bind fun t4 => (if (decide (t4 < 0)) = true then some (-1) else some t4))))
/-! laws.FnExactDiskNew -/
def laws_FnExactDiskNew (k : Nat) : Option (Bool) := ((spec_DiskNew).bind fun t1 => ((impl_DiskNew).bind fun t8 => ((laws_eqDisk k t8 t1).bind fun t15 => (if (!t15) = true then some false else ((laws_markDisk k t8 1).bind fun t17 => (if List.length t17.2.1 = List.length t8.Cells then (if List.length t17.2.2 = List.length t8.Wet then ((laws_heldDisk k (⟨t17.2.1, t17.2.2, t8.Fuse, t8.Dead⟩ : TDisk) 1).bind fun t21 => (if (decide (t21 < 0)) = true then some false else (if (!decide (t21 = t17.1)) = true then some false else ((impl_DiskNew).bind fun t23 => ((laws_eqDisk k t23 t1).bind fun t30 => (if (!t30) = true then some false else ((laws_heldDisk k (⟨t17.2.1, t17.2.2, t8.Fuse, t8.Dead⟩ : TDisk) 1).bind fun t32 => (if (decide (t32 < 0)) = true then some false else (if (!decide (t32 = t17.1)) = true then some false else some true))))))))) else none) else none))))))
end Go.Proofs.Sx
