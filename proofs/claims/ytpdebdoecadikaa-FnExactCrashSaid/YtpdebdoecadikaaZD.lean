import Derived.Test.YtpdebdoecadikaaLK
import Derived.Test.YtpdebdoecadikaaLM
import Derived.KernelRfl
namespace Go.Proofs.Sx
open Go.RowKit
set_option linter.unusedVariables false
set_option linter.unusedSimpArgs false
set_option maxRecDepth 20000
set_option maxHeartbeats 1000000
structure TCell where
  Bad : Bool
  B : (List Int)
  deriving DecidableEq, Inhabited
structure TWet where
  At : Int
  B : (List Int)
  deriving DecidableEq, Inhabited
structure TDisk where
  Cells : (List TCell)
  Wet : (List TWet)
  Fuse : Int
  Dead : Bool
  deriving DecidableEq, Inhabited
def wfTCell (x : TCell) : Prop := wfB x.Bad ∧ (wfL wfU8) x.B
def wfTWet (x : TWet) : Prop := wfI x.At ∧ (wfL wfU8) x.B
def wfTDisk (x : TDisk) : Prop := (wfL wfTCell) x.Cells ∧ (wfL wfTWet) x.Wet ∧ wfI x.Fuse ∧ wfB x.Dead
/-! laws.szByteS -/
def laws_szByteS (p0 : (List Int)) (p1 : Int) : Option (Int) := (if (decide ((wrap64 (p1 - ((List.length p0 : Nat) : Int))) < 0)) = true then some (-1) else some (wrap64 (p1 - ((List.length p0 : Nat) : Int))))
/-! laws.szCell -/
def laws_szCell (p0 : TCell) (p1 : Int) : Option (Int) := ((laws_szByteS p0.B p1).bind fun t2 => (if (decide (t2 < 0)) = true then some (-1) else some t2))
/-! laws.szCellS -/
def laws_szCellS_b0 (p0 : (List TCell)) : (Int × Int) → Option (Nx (Int × Int) (Int))
  | (i8, i9) => (if (decide (i9 < ((List.length p0 : Nat) : Int))) = true then (if (0 : Int) ≤ i9 ∧ i9 < ((List.length p0 : Nat) : Int) then ((laws_szCell (gt p0 i9) i8).bind fun t22 => (if (decide (t22 < 0)) = true then some (.ret (-1)) else some (.next (t22, (wrap64 (i9 + 1)))))) else none) else some (.out (i8, i9)))
def laws_szCellS (k : Nat) (p0 : (List TCell)) (p1 : Int) : Option (Int) := (if (decide ((wrap64 (p1 - ((List.length p0 : Nat) : Int))) < 0)) = true then some (-1) else ((loopM (laws_szCellS_b0 p0) k ((wrap64 (p1 - ((List.length p0 : Nat) : Int))), 0)).bind fun o24 => match o24 with | .out (i25, i26) => some i25 | .ret r => some r | .next _ => none))
/-! laws.szWet -/
def laws_szWet (p0 : TWet) (p1 : Int) : Option (Int) := ((laws_szByteS p0.B p1).bind fun t2 => (if (decide (t2 < 0)) = true then some (-1) else some t2))
/-! laws.szWetS -/
def laws_szWetS_b0 (p0 : (List TWet)) : (Int × Int) → Option (Nx (Int × Int) (Int))
  | (i8, i9) => (if (decide (i9 < ((List.length p0 : Nat) : Int))) = true then (if (0 : Int) ≤ i9 ∧ i9 < ((List.length p0 : Nat) : Int) then ((laws_szWet (gt p0 i9) i8).bind fun t22 => (if (decide (t22 < 0)) = true then some (.ret (-1)) else some (.next (t22, (wrap64 (i9 + 1)))))) else none) else some (.out (i8, i9)))
def laws_szWetS (k : Nat) (p0 : (List TWet)) (p1 : Int) : Option (Int) := (if (decide ((wrap64 (p1 - ((List.length p0 : Nat) : Int))) < 0)) = true then some (-1) else ((loopM (laws_szWetS_b0 p0) k ((wrap64 (p1 - ((List.length p0 : Nat) : Int))), 0)).bind fun o24 => match o24 with | .out (i25, i26) => some i25 | .ret r => some r | .next _ => none))
/-! laws.szDisk -/
def laws_szDisk (k : Nat) (p0 : TDisk) (p1 : Int) : Option (Int) := ((laws_szCellS k p0.Cells p1).bind fun t2 => (if (decide (t2 < 0)) = true then some (-1) else ((laws_szWetS k p0.Wet t2).bind fun t4 => (if (decide (t4 < 0)) = true then some (-1) else some t4))))
/-! laws.toByteS -/
def laws_toByteS_b0 (p0 : (List Int)) : ((List Int) × Int) → Option (Nx ((List Int) × Int) ((List Int)))
  | (l9, i10) => (if (decide (i10 < ((List.length p0 : Nat) : Int))) = true then (if (0 : Int) ≤ i10 ∧ i10 < ((List.length p0 : Nat) : Int) then (if (0 : Int) ≤ i10 ∧ i10 < ((List.length l9 : Nat) : Int) then ((some (List.set l9 (Int.toNat i10) (gt p0 i10))).bind fun l18 => some (.next (l18, (wrap64 (i10 + 1))))) else none) else none) else some (.out (l9, i10)))
def laws_toByteS (k : Nat) (p0 : (List Int)) : Option ((List Int)) := (if (0 : Int) ≤ ((List.length p0 : Nat) : Int) ∧ okLen (Int.toNat ((List.length p0 : Nat) : Int)) = true then ((loopM (laws_toByteS_b0 p0) k ((List.replicate (Int.toNat ((List.length p0 : Nat) : Int)) (0 : Int)), 0)).bind fun o21 => match o21 with | .out (l22, i23) => some l22 | .ret r => some r | .next _ => none) else none)
/-! laws.toCell -/
def laws_toCell (k : Nat) (p0 : TCell) : Option (TCell) := ((laws_toByteS k p0.B).bind fun t4 => some (⟨p0.Bad, t4⟩ : TCell))
/-! laws.toCellS -/
def laws_toCellS_b0 (k : Nat) (p0 : (List TCell)) : ((List TCell) × Int) → Option (Nx ((List TCell) × Int) ((List TCell)))
  | (l17, i18) => (if (decide (i18 < ((List.length p0 : Nat) : Int))) = true then (if (0 : Int) ≤ i18 ∧ i18 < ((List.length p0 : Nat) : Int) then ((laws_toCell k (gt p0 i18)).bind fun t37 => (if (0 : Int) ≤ i18 ∧ i18 < ((List.length l17 : Nat) : Int) then ((some (List.set l17 (Int.toNat i18) t37)).bind fun l42 => some (.next (l42, (wrap64 (i18 + 1))))) else none)) else none) else some (.out (l17, i18)))
def laws_toCellS (k : Nat) (p0 : (List TCell)) : Option ((List TCell)) := (if (0 : Int) ≤ ((List.length p0 : Nat) : Int) ∧ okLen (Int.toNat ((List.length p0 : Nat) : Int)) = true then ((loopM (laws_toCellS_b0 k p0) k ((List.replicate (Int.toNat ((List.length p0 : Nat) : Int)) (⟨false, ([] : (List Int))⟩ : TCell)), 0)).bind fun o45 => match o45 with | .out (l46, i47) => some l46 | .ret r => some r | .next _ => none) else none)
/-! laws.toWet -/
def laws_toWet (k : Nat) (p0 : TWet) : Option (TWet) := ((laws_toByteS k p0.B).bind fun t4 => some (⟨p0.At, t4⟩ : TWet))
/-! laws.toWetS -/
def laws_toWetS_b0 (k : Nat) (p0 : (List TWet)) : ((List TWet) × Int) → Option (Nx ((List TWet) × Int) ((List TWet)))
  | (l17, i18) => (if (decide (i18 < ((List.length p0 : Nat) : Int))) = true then (if (0 : Int) ≤ i18 ∧ i18 < ((List.length p0 : Nat) : Int) then ((laws_toWet k (gt p0 i18)).bind fun t37 => (if (0 : Int) ≤ i18 ∧ i18 < ((List.length l17 : Nat) : Int) then ((some (List.set l17 (Int.toNat i18) t37)).bind fun l42 => some (.next (l42, (wrap64 (i18 + 1))))) else none)) else none) else some (.out (l17, i18)))
def laws_toWetS (k : Nat) (p0 : (List TWet)) : Option ((List TWet)) := (if (0 : Int) ≤ ((List.length p0 : Nat) : Int) ∧ okLen (Int.toNat ((List.length p0 : Nat) : Int)) = true then ((loopM (laws_toWetS_b0 k p0) k ((List.replicate (Int.toNat ((List.length p0 : Nat) : Int)) (⟨(0 : Int), ([] : (List Int))⟩ : TWet)), 0)).bind fun o45 => match o45 with | .out (l46, i47) => some l46 | .ret r => some r | .next _ => none) else none)
/-! laws.toDisk -/
def laws_toDisk (k : Nat) (p0 : TDisk) : Option (TDisk) := ((laws_toCellS k p0.Cells).bind fun t4 => ((laws_toWetS k p0.Wet).bind fun t8 => some (⟨t4, t8, p0.Fuse, p0.Dead⟩ : TDisk)))
/-! laws.toIntS -/
def laws_toIntS_b0 (p0 : (List Int)) : ((List Int) × Int) → Option (Nx ((List Int) × Int) ((List Int)))
  | (l9, i10) => (if (decide (i10 < ((List.length p0 : Nat) : Int))) = true then (if (0 : Int) ≤ i10 ∧ i10 < ((List.length p0 : Nat) : Int) then (if (0 : Int) ≤ i10 ∧ i10 < ((List.length l9 : Nat) : Int) then ((some (List.set l9 (Int.toNat i10) (gt p0 i10))).bind fun l18 => some (.next (l18, (wrap64 (i10 + 1))))) else none) else none) else some (.out (l9, i10)))
def laws_toIntS (k : Nat) (p0 : (List Int)) : Option ((List Int)) := (if (0 : Int) ≤ ((List.length p0 : Nat) : Int) ∧ okLen (Int.toNat ((List.length p0 : Nat) : Int)) = true then ((loopM (laws_toIntS_b0 p0) k ((List.replicate (Int.toNat ((List.length p0 : Nat) : Int)) (0 : Int)), 0)).bind fun o21 => match o21 with | .out (l22, i23) => some l22 | .ret r => some r | .next _ => none) else none)
/-! spec.l18Copy -/
def spec_l18Copy_b0 (p0 : TDisk) : (Int × (List TCell)) → Option (Nx (Int × (List TCell)) (TDisk))
  | (i25, l26) => (if (decide (i25 < ((List.length p0.Cells : Nat) : Int))) = true then (if (0 : Int) ≤ i25 ∧ i25 < ((List.length p0.Cells : Nat) : Int) then (if (0 : Int) ≤ i25 ∧ i25 < ((List.length p0.Cells : Nat) : Int) then (if okLen (List.length ([] : (List Int)) + List.length ((gt p0.Cells i25).B)) = true then (if okLen (List.length l26 + List.length ([(⟨(gt p0.Cells i25).Bad, (([] : (List Int)) ++ ((gt p0.Cells i25).B))⟩ : TCell)] : (List TCell))) = true then some (.next ((wrap64 (i25 + 1)), (l26 ++ ([(⟨(gt p0.Cells i25).Bad, (([] : (List Int)) ++ ((gt p0.Cells i25).B))⟩ : TCell)] : (List TCell))))) else none) else none) else none) else none) else some (.out (i25, l26)))
def spec_l18Copy_b1 (p0 : TDisk) : (Int × (List TWet)) → Option (Nx (Int × (List TWet)) (TDisk))
  | (i97, l98) => (if (decide (i97 < ((List.length p0.Wet : Nat) : Int))) = true then (if (0 : Int) ≤ i97 ∧ i97 < ((List.length p0.Wet : Nat) : Int) then (if (0 : Int) ≤ i97 ∧ i97 < ((List.length p0.Wet : Nat) : Int) then (if okLen (List.length ([] : (List Int)) + List.length ((gt p0.Wet i97).B)) = true then (if okLen (List.length l98 + List.length ([(⟨(gt p0.Wet i97).At, (([] : (List Int)) ++ ((gt p0.Wet i97).B))⟩ : TWet)] : (List TWet))) = true then some (.next ((wrap64 (i97 + 1)), (l98 ++ ([(⟨(gt p0.Wet i97).At, (([] : (List Int)) ++ ((gt p0.Wet i97).B))⟩ : TWet)] : (List TWet))))) else none) else none) else none) else none) else some (.out (i97, l98)))
def spec_l18Copy (k : Nat) (p0 : TDisk) : Option (TDisk) := ((loopM (spec_l18Copy_b0 p0) k (0, ([] : List TCell))).bind fun o71 => match o71 with | .out (i72, l73) => ((loopM (spec_l18Copy_b1 p0) k (0, ([] : List TWet))).bind fun o143 => match o143 with | .out (i144, l145) => some (⟨l73, l145, p0.Fuse, p0.Dead⟩ : TDisk) | .ret r => some r | .next _ => none) | .ret r => some r | .next _ => none)
/-! spec.l1In -/
def spec_l1In (p0 : Int) (p1 : Int) (p2 : Int) : Option (Bool) := some ((decide (p0 ≥ p1)) && (decide (p0 ≤ p2)))
/-! spec.l18Room -/
def spec_l18Room_b0 (p1 : Int) : (List TCell) → Option (Nx ((List TCell)) (TDisk))
  | l6 => (if (decide (((List.length l6 : Nat) : Int) ≤ p1)) = true then (if okLen (List.length l6 + List.length ([(⟨false, ([] : (List Int))⟩ : TCell)] : (List TCell))) = true then some (.next (l6 ++ ([(⟨false, ([] : (List Int))⟩ : TCell)] : (List TCell)))) else none) else some (.out l6))
def spec_l18Room (k : Nat) (p0 : TDisk) (p1 : Int) : Option (TDisk) := ((loopM (spec_l18Room_b0 p1) k p0.Cells).bind fun o19 => match o19 with | .out l20 => some (⟨l20, p0.Wet, p0.Fuse, p0.Dead⟩ : TDisk) | .ret r => some r | .next _ => none)
/-! spec.Most -/
def spec_Most (p0 : Int) (p1 : Int) : Option (Int) := (if (decide (p1 > p0)) = true then some p1 else some p0)
/-! spec.Crash -/
def spec_Crash_b0 (k : Nat) (p1 : (List Int)) (t3 : TDisk) : (Int × (List TCell) × Int × Bool × Int) → Option (Nx (Int × (List TCell) × Int × Bool × Int) (TDisk))
  | (i37, l38, i41, q42, i43) => (if ((decide (i37 < ((List.length t3.Wet : Nat) : Int))) && (decide (i37 < ((List.length p1 : Nat) : Int)))) = true then (if (0 : Int) ≤ i37 ∧ i37 < ((List.length t3.Wet : Nat) : Int) then (if i43 ≤ i37 then ((spec_l1In ((gt t3.Wet i37).At) 0 113).bind fun t74 => (if (!t74) = true then some (.next ((wrap64 (i37 + 1)), l38, i41, q42, i43)) else (if (0 : Int) ≤ i37 ∧ i37 < ((List.length p1 : Nat) : Int) then (if (decide ((gt p1 i37) = 1)) = true then ((spec_l18Room k (⟨l38, t3.Wet, i41, q42⟩ : TDisk) ((gt t3.Wet i37).At)).bind fun t77 => (if (0 : Int) ≤ i37 ∧ i37 < ((List.length t3.Wet : Nat) : Int) then (if i43 ≤ i37 then (if (0 : Int) ≤ ((gt t3.Wet i37).At) ∧ ((gt t3.Wet i37).At) < ((List.length t77.Cells : Nat) : Int) then ((some (List.set t77.Cells (Int.toNat ((gt t3.Wet i37).At)) (⟨false, (gt t3.Wet i37).B⟩ : TCell))).bind fun l87 => some (.next ((wrap64 (i37 + 1)), l87, t77.Fuse, t77.Dead, (i37 + 1)))) else none) else none) else none)) else (if (decide ((gt p1 i37) = 2)) = true then ((spec_l18Room k (⟨l38, t3.Wet, i41, q42⟩ : TDisk) ((gt t3.Wet i37).At)).bind fun t90 => (if (0 : Int) ≤ ((gt t3.Wet i37).At) ∧ ((gt t3.Wet i37).At) < ((List.length t90.Cells : Nat) : Int) then ((some (List.set t90.Cells (Int.toNat ((gt t3.Wet i37).At)) (⟨true, ([] : (List Int))⟩ : TCell))).bind fun l95 => some (.next ((wrap64 (i37 + 1)), l95, t90.Fuse, t90.Dead, i43))) else none)) else some (.next ((wrap64 (i37 + 1)), l38, i41, q42, i43)))) else none))) else none) else none) else some (.out (i37, l38, i41, q42, i43)))
def spec_Crash (k : Nat) (p0 : TDisk) (p1 : (List Int)) (p2 : Int) : Option (TDisk) := ((spec_l18Copy k p0).bind fun t3 => ((loopM (spec_Crash_b0 k p1 t3) k (0, t3.Cells, t3.Fuse, t3.Dead, 0)).bind fun o98 => match o98 with | .out (i99, l100, i103, q104, i105) => ((spec_Most (-1) p2).bind fun t108 => some (⟨l100, ([] : (List TWet)), t108, false⟩ : TDisk)) | .ret r => some r | .next _ => none))
/-! slices.Clone(()byte,byte) -/
def slices_Clone_byte_byte (p0 : (List Int)) : Option ((List Int)) := (if okLen (List.length p0) = true then some p0 else none)
/-! impl.copyDisk -/
def impl_copyDisk_b0 (p0 : TDisk) : (Int × (List TCell)) → Option (Nx (Int × (List TCell)) (TDisk))
  | (i20, l21) => (if (decide (i20 < ((List.length p0.Cells : Nat) : Int))) = true then (if (0 : Int) ≤ i20 ∧ i20 < ((List.length p0.Cells : Nat) : Int) then ((slices_Clone_byte_byte ((gt p0.Cells i20).B)).bind fun t47 => (if okLen (List.length l21 + List.length ([(⟨(gt p0.Cells i20).Bad, t47⟩ : TCell)] : (List TCell))) = true then some (.next ((wrap64 (i20 + 1)), (l21 ++ ([(⟨(gt p0.Cells i20).Bad, t47⟩ : TCell)] : (List TCell))))) else none)) else none) else some (.out (i20, l21)))
def impl_copyDisk_b1 (p0 : TDisk) : (Int × (List TWet)) → Option (Nx (Int × (List TWet)) (TDisk))
  | (i77, l78) => (if (decide (i77 < ((List.length p0.Wet : Nat) : Int))) = true then (if (0 : Int) ≤ i77 ∧ i77 < ((List.length p0.Wet : Nat) : Int) then ((slices_Clone_byte_byte ((gt p0.Wet i77).B)).bind fun t104 => (if okLen (List.length l78 + List.length ([(⟨(gt p0.Wet i77).At, t104⟩ : TWet)] : (List TWet))) = true then some (.next ((wrap64 (i77 + 1)), (l78 ++ ([(⟨(gt p0.Wet i77).At, t104⟩ : TWet)] : (List TWet))))) else none)) else none) else some (.out (i77, l78)))
def impl_copyDisk (k : Nat) (p0 : TDisk) : Option (TDisk) := ((loopM (impl_copyDisk_b0 p0) k (0, ([] : List TCell))).bind fun o56 => match o56 with | .out (i57, l58) => ((loopM (impl_copyDisk_b1 p0) k (0, ([] : List TWet))).bind fun o113 => match o113 with | .out (i114, l115) => some (⟨l58, l115, p0.Fuse, p0.Dead⟩ : TDisk) | .ret r => some r | .next _ => none) | .ret r => some r | .next _ => none)
/-! impl.in -/
def impl_in (p0 : Int) (p1 : Int) (p2 : Int) : Option (Bool) := some ((decide (p1 ≤ p0)) && (decide (p0 ≤ p2)))
/-! (*impl.Disk).store -/
def impl_Disk_store_b0 (p1 : Int) : (List TCell) → Option (Nx ((List TCell)) (TDisk))
  | l9 => (if (decide (((List.length l9 : Nat) : Int) ≤ p1)) = true then (if okLen (List.length l9 + List.length ([(⟨false, ([] : (List Int))⟩ : TCell)] : (List TCell))) = true then some (.next (l9 ++ ([(⟨false, ([] : (List Int))⟩ : TCell)] : (List TCell)))) else none) else some (.out l9))
def impl_Disk_store (k : Nat) (p0 : TDisk) (p1 : Int) (p2 : TCell) : Option (TDisk) := ((impl_in p1 0 113).bind fun t2 => (if (!t2) = true then some p0 else ((loopM (impl_Disk_store_b0 p1) k p0.Cells).bind fun o22 => match o22 with | .out l23 => (if (0 : Int) ≤ p1 ∧ p1 < ((List.length l23 : Nat) : Int) then ((some (List.set l23 (Int.toNat p1) p2)).bind fun l28 => some (⟨l28, p0.Wet, p0.Fuse, p0.Dead⟩ : TDisk)) else none) | .ret r => some r | .next _ => none)))
/-! impl.Crash -/
def impl_Crash_b0 (k : Nat) (p1 : (List Int)) (t3 : TDisk) : (Int × Int × (List TCell) × Int × Bool) → Option (Nx (Int × Int × (List TCell) × Int × Bool) (TDisk))
  | (i24, i25, l26, i29, q30) => (if (decide (i25 < ((List.length t3.Wet : Nat) : Int))) = true then (if (0 : Int) ≤ i25 ∧ i25 < ((List.length t3.Wet : Nat) : Int) then (if i24 ≤ i25 then (if (decide (i25 ≥ ((List.length p1 : Nat) : Int))) = true then some (.out ((i25 + 1), i25, l26, i29, q30)) else (if (0 : Int) ≤ i25 ∧ i25 < ((List.length p1 : Nat) : Int) then (if (decide ((gt p1 i25) = 1)) = true then ((impl_Disk_store k (⟨l26, t3.Wet, i29, q30⟩ : TDisk) ((gt t3.Wet i25).At) (⟨false, (gt t3.Wet i25).B⟩ : TCell)).bind fun t51 => some (.next ((i25 + 1), (wrap64 (i25 + 1)), t51.Cells, t51.Fuse, t51.Dead))) else (if (decide ((gt p1 i25) = 2)) = true then ((impl_Disk_store k (⟨l26, t3.Wet, i29, q30⟩ : TDisk) ((gt t3.Wet i25).At) (⟨true, ([] : (List Int))⟩ : TCell)).bind fun t55 => some (.next ((i25 + 1), (wrap64 (i25 + 1)), t55.Cells, t55.Fuse, t55.Dead))) else some (.next ((i25 + 1), (wrap64 (i25 + 1)), l26, i29, q30)))) else none)) else none) else none) else some (.out (i24, i25, l26, i29, q30)))
def impl_Crash (k : Nat) (p0 : TDisk) (p1 : (List Int)) (p2 : Int) : Option (TDisk) := ((impl_copyDisk k p0).bind fun t3 => ((loopM (impl_Crash_b0 k p1 t3) k (0, 0, t3.Cells, t3.Fuse, t3.Dead)).bind fun o59 => match o59 with | .out (i60, i61, l62, i65, q66) => some (⟨l62, ([] : (List TWet)), (if (-1) > p2 then (-1) else p2), false⟩ : TDisk) | .ret r => some r | .next _ => none))
/-! laws.eqByteS -/
def laws_eqByteS_b0 (p0 : (List Int)) (p1 : (List Int)) : Int → Option (Nx (Int) (Bool))
  | i4 => (if (decide (i4 < ((List.length p0 : Nat) : Int))) = true then (if (0 : Int) ≤ i4 ∧ i4 < ((List.length p0 : Nat) : Int) then (if (0 : Int) ≤ i4 ∧ i4 < ((List.length p1 : Nat) : Int) then (if (!decide ((gt p0 i4) = (gt p1 i4))) = true then some (.ret false) else some (.next (wrap64 (i4 + 1)))) else none) else none) else some (.out i4))
def laws_eqByteS (k : Nat) (p0 : (List Int)) (p1 : (List Int)) : Option (Bool) := (if (!decide (((List.length p0 : Nat) : Int) = ((List.length p1 : Nat) : Int))) = true then some false else ((loopM (laws_eqByteS_b0 p0 p1) k 0).bind fun o11 => match o11 with | .out i12 => some true | .ret r => some r | .next _ => none))
/-! laws.eqCell -/
def laws_eqCell (k : Nat) (p0 : TCell) (p1 : TCell) : Option (Bool) := (if (!(p0.Bad == p1.Bad)) = true then some false else ((laws_eqByteS k p0.B p1.B).bind fun t3 => (if (!t3) = true then some false else some true)))
/-! laws.eqCellS -/
def laws_eqCellS_b0 (k : Nat) (p0 : (List TCell)) (p1 : (List TCell)) : Int → Option (Nx (Int) (Bool))
  | i14 => (if (decide (i14 < ((List.length p0 : Nat) : Int))) = true then (if (0 : Int) ≤ i14 ∧ i14 < ((List.length p0 : Nat) : Int) then (if (0 : Int) ≤ i14 ∧ i14 < ((List.length p1 : Nat) : Int) then ((laws_eqCell k (gt p0 i14) (gt p1 i14)).bind fun t39 => (if (!t39) = true then some (.ret false) else some (.next (wrap64 (i14 + 1))))) else none) else none) else some (.out i14))
def laws_eqCellS (k : Nat) (p0 : (List TCell)) (p1 : (List TCell)) : Option (Bool) := (if (!decide (((List.length p0 : Nat) : Int) = ((List.length p1 : Nat) : Int))) = true then some false else ((loopM (laws_eqCellS_b0 k p0 p1) k 0).bind fun o41 => match o41 with | .out i42 => some true | .ret r => some r | .next _ => none))
/-! laws.eqWet -/
def laws_eqWet (k : Nat) (p0 : TWet) (p1 : TWet) : Option (Bool) := (if (!decide (p0.At = p1.At)) = true then some false else ((laws_eqByteS k p0.B p1.B).bind fun t3 => (if (!t3) = true then some false else some true)))
/-! laws.eqWetS -/
def laws_eqWetS_b0 (k : Nat) (p0 : (List TWet)) (p1 : (List TWet)) : Int → Option (Nx (Int) (Bool))
  | i14 => (if (decide (i14 < ((List.length p0 : Nat) : Int))) = true then (if (0 : Int) ≤ i14 ∧ i14 < ((List.length p0 : Nat) : Int) then (if (0 : Int) ≤ i14 ∧ i14 < ((List.length p1 : Nat) : Int) then ((laws_eqWet k (gt p0 i14) (gt p1 i14)).bind fun t39 => (if (!t39) = true then some (.ret false) else some (.next (wrap64 (i14 + 1))))) else none) else none) else some (.out i14))
def laws_eqWetS (k : Nat) (p0 : (List TWet)) (p1 : (List TWet)) : Option (Bool) := (if (!decide (((List.length p0 : Nat) : Int) = ((List.length p1 : Nat) : Int))) = true then some false else ((loopM (laws_eqWetS_b0 k p0 p1) k 0).bind fun o41 => match o41 with | .out i42 => some true | .ret r => some r | .next _ => none))
/-! laws.eqDisk -/
def laws_eqDisk (k : Nat) (p0 : TDisk) (p1 : TDisk) : Option (Bool) := ((laws_eqCellS k p0.Cells p1.Cells).bind fun t3 => (if (!t3) = true then some false else ((laws_eqWetS k p0.Wet p1.Wet).bind fun t5 => (if (!t5) = true then some false else (if (!decide (p0.Fuse = p1.Fuse)) = true then some false else (if (!(p0.Dead == p1.Dead)) = true then some false else some true))))))
/-! laws.eqIntS -/
def laws_eqIntS_b0 (p0 : (List Int)) (p1 : (List Int)) : Int → Option (Nx (Int) (Bool))
  | i4 => (if (decide (i4 < ((List.length p0 : Nat) : Int))) = true then (if (0 : Int) ≤ i4 ∧ i4 < ((List.length p0 : Nat) : Int) then (if (0 : Int) ≤ i4 ∧ i4 < ((List.length p1 : Nat) : Int) then (if (!decide ((gt p0 i4) = (gt p1 i4))) = true then some (.ret false) else some (.next (wrap64 (i4 + 1)))) else none) else none) else some (.out i4))
def laws_eqIntS (k : Nat) (p0 : (List Int)) (p1 : (List Int)) : Option (Bool) := (if (!decide (((List.length p0 : Nat) : Int) = ((List.length p1 : Nat) : Int))) = true then some false else ((loopM (laws_eqIntS_b0 p0 p1) k 0).bind fun o11 => match o11 with | .out i12 => some true | .ret r => some r | .next _ => none))
/-! laws.markByteS -/
def laws_markByteS_b0 : ((List Int) × Int × Int) → Option (Nx ((List Int) × Int × Int) (Int × (List Int)))
  | (l5, i6, i7) => (if (decide (i7 < ((List.length l5 : Nat) : Int))) = true then (if (0 : Int) ≤ i7 ∧ i7 < ((List.length l5 : Nat) : Int) then ((some (List.set l5 (Int.toNat i7) (IntKind.u8.wrap i6))).bind fun l13 => some (.next (l13, (wrap64 (i6 + 1)), (wrap64 (i7 + 1))))) else none) else some (.out (l5, i6, i7)))
def laws_markByteS (k : Nat) (p0 : (List Int)) (p1 : Int) : Option (Int × (List Int)) := ((loopM (laws_markByteS_b0) k (p0, p1, 0)).bind fun o16 => match o16 with | .out (l17, i18, i19) => some (i18, l17) | .ret r => some r | .next _ => none)
/-! laws.markCellS -/
def laws_markCellS_b0 (k : Nat) : ((List TCell) × Int × Int) → Option (Nx ((List TCell) × Int × Int) (Int × (List TCell)))
  | (l11, i12, i13) => (if (decide (i13 < ((List.length l11 : Nat) : Int))) = true then (if (0 : Int) ≤ i13 ∧ i13 < ((List.length l11 : Nat) : Int) then ((some (List.set l11 (Int.toNat i13) (⟨(decide ((Int.tmod i12 3) = 0)), (gt l11 i13).B⟩ : TCell))).bind fun l25 => (if (0 : Int) ≤ i13 ∧ i13 < ((List.length l25 : Nat) : Int) then ((laws_markByteS k ((gt l25 i13).B) (wrap64 (i12 + 1))).bind fun t31 => (if List.length t31.2 = List.length ((gt l25 i13).B) then some (.next ((List.set l25 (Int.toNat i13) (⟨(gt l25 i13).Bad, t31.2⟩ : TCell)), t31.1, (wrap64 (i13 + 1)))) else none)) else none)) else none) else some (.out (l11, i12, i13)))
def laws_markCellS (k : Nat) (p0 : (List TCell)) (p1 : Int) : Option (Int × (List TCell)) := ((loopM (laws_markCellS_b0 k) k (p0, p1, 0)).bind fun o34 => match o34 with | .out (l35, i36, i37) => some (i36, l35) | .ret r => some r | .next _ => none)
/-! laws.markWetS -/
def laws_markWetS_b0 (k : Nat) : ((List TWet) × Int × Int) → Option (Nx ((List TWet) × Int × Int) (Int × (List TWet)))
  | (l11, i12, i13) => (if (decide (i13 < ((List.length l11 : Nat) : Int))) = true then (if (0 : Int) ≤ i13 ∧ i13 < ((List.length l11 : Nat) : Int) then ((some (List.set l11 (Int.toNat i13) (⟨i12, (gt l11 i13).B⟩ : TWet))).bind fun l25 => (if (0 : Int) ≤ i13 ∧ i13 < ((List.length l25 : Nat) : Int) then ((laws_markByteS k ((gt l25 i13).B) (wrap64 (i12 + 1))).bind fun t31 => (if List.length t31.2 = List.length ((gt l25 i13).B) then some (.next ((List.set l25 (Int.toNat i13) (⟨(gt l25 i13).At, t31.2⟩ : TWet)), t31.1, (wrap64 (i13 + 1)))) else none)) else none)) else none) else some (.out (l11, i12, i13)))
def laws_markWetS (k : Nat) (p0 : (List TWet)) (p1 : Int) : Option (Int × (List TWet)) := ((loopM (laws_markWetS_b0 k) k (p0, p1, 0)).bind fun o34 => match o34 with | .out (l35, i36, i37) => some (i36, l35) | .ret r => some r | .next _ => none)
/-! laws.markDisk -/
def laws_markDisk (k : Nat) (p0 : TDisk) (p1 : Int) : Option (Int × (List TCell) × (List TWet)) := ((laws_markCellS k p0.Cells p1).bind fun t2 => (if List.length t2.2 = List.length p0.Cells then ((laws_markWetS k p0.Wet t2.1).bind fun t5 => (if List.length t5.2 = List.length p0.Wet then some (t5.1, t2.2, t5.2) else none)) else none))
/-! laws.markIntS -/
def laws_markIntS_b0 : ((List Int) × Int × Int) → Option (Nx ((List Int) × Int × Int) (Int × (List Int)))
  | (l5, i6, i7) => (if (decide (i7 < ((List.length l5 : Nat) : Int))) = true then (if (0 : Int) ≤ i7 ∧ i7 < ((List.length l5 : Nat) : Int) then ((some (List.set l5 (Int.toNat i7) i6)).bind fun l13 => some (.next (l13, (wrap64 (i6 + 1)), (wrap64 (i7 + 1))))) else none) else some (.out (l5, i6, i7)))
def laws_markIntS (k : Nat) (p0 : (List Int)) (p1 : Int) : Option (Int × (List Int)) := ((loopM (laws_markIntS_b0) k (p0, p1, 0)).bind fun o16 => match o16 with | .out (l17, i18, i19) => some (i18, l17) | .ret r => some r | .next _ => none)
/-! laws.heldByteS -/
def laws_heldByteS_b0 (p0 : (List Int)) : (Int × Int) → Option (Nx (Int × Int) (Int))
  | (i2, i3) => (if (decide (i3 < ((List.length p0 : Nat) : Int))) = true then (if (0 : Int) ≤ i3 ∧ i3 < ((List.length p0 : Nat) : Int) then (if (!decide ((gt p0 i3) = (IntKind.u8.wrap i2))) = true then some (.ret (-1)) else some (.next ((wrap64 (i2 + 1)), (wrap64 (i3 + 1))))) else none) else some (.out (i2, i3)))
def laws_heldByteS (k : Nat) (p0 : (List Int)) (p1 : Int) : Option (Int) := ((loopM (laws_heldByteS_b0 p0) k (p1, 0)).bind fun o6 => match o6 with | .out (i7, i8) => some i7 | .ret r => some r | .next _ => none)
/-! laws.heldCellS -/
def laws_heldCellS_b0 (k : Nat) (p0 : (List TCell)) : (Int × Int) → Option (Nx (Int × Int) (Int))
  | (i13, i14) => (if (decide (i14 < ((List.length p0 : Nat) : Int))) = true then (if (0 : Int) ≤ i14 ∧ i14 < ((List.length p0 : Nat) : Int) then (if (!(((gt p0 i14).Bad) == (decide ((Int.tmod i13 3) = 0)))) = true then some (.ret (-1)) else (if (0 : Int) ≤ i14 ∧ i14 < ((List.length p0 : Nat) : Int) then ((laws_heldByteS k ((gt p0 i14).B) (wrap64 (i13 + 1))).bind fun t37 => (if (decide (t37 < 0)) = true then some (.ret (-1)) else some (.next (t37, (wrap64 (i14 + 1)))))) else none)) else none) else some (.out (i13, i14)))
def laws_heldCellS (k : Nat) (p0 : (List TCell)) (p1 : Int) : Option (Int) := ((loopM (laws_heldCellS_b0 k p0) k (p1, 0)).bind fun o39 => match o39 with | .out (i40, i41) => some i40 | .ret r => some r | .next _ => none)
/-! laws.heldWetS -/
def laws_heldWetS_b0 (k : Nat) (p0 : (List TWet)) : (Int × Int) → Option (Nx (Int × Int) (Int))
  | (i13, i14) => (if (decide (i14 < ((List.length p0 : Nat) : Int))) = true then (if (0 : Int) ≤ i14 ∧ i14 < ((List.length p0 : Nat) : Int) then (if (!decide (((gt p0 i14).At) = i13)) = true then some (.ret (-1)) else (if (0 : Int) ≤ i14 ∧ i14 < ((List.length p0 : Nat) : Int) then ((laws_heldByteS k ((gt p0 i14).B) (wrap64 (i13 + 1))).bind fun t37 => (if (decide (t37 < 0)) = true then some (.ret (-1)) else some (.next (t37, (wrap64 (i14 + 1)))))) else none)) else none) else some (.out (i13, i14)))
def laws_heldWetS (k : Nat) (p0 : (List TWet)) (p1 : Int) : Option (Int) := ((loopM (laws_heldWetS_b0 k p0) k (p1, 0)).bind fun o39 => match o39 with | .out (i40, i41) => some i40 | .ret r => some r | .next _ => none)
/-! laws.heldDisk -/
def laws_heldDisk (k : Nat) (p0 : TDisk) (p1 : Int) : Option (Int) := ((laws_heldCellS k p0.Cells p1).bind fun t2 => (if (decide (t2 < 0)) = true then some (-1) else ((laws_heldWetS k p0.Wet t2).bind fun t4 => (if (decide (t4 < 0)) = true then some (-1) else some t4))))
/-! laws.FnExactCrash -/
def laws_FnExactCrash (k : Nat) (p0 : TDisk) (p1 : (List Int)) (p2 : Int) : Option (Bool) := (if (decide (((List.length p1 : Nat) : Int) > 1048576)) = true then some true else ((laws_szDisk k p0 1048576).bind fun t2 => (if (decide (t2 < 0)) = true then some true else ((laws_toDisk k p0).bind fun t4 => ((laws_toIntS k p1).bind fun t10 => ((spec_Crash k t4 t10 p2).bind fun t14 => ((laws_toDisk k p0).bind fun t21 => ((laws_toIntS k p1).bind fun t28 => ((impl_Crash k t21 t28 p2).bind fun t32 => ((laws_eqDisk k t32 t14).bind fun t39 => (if (!t39) = true then some false else ((laws_toDisk k p0).bind fun t42 => ((laws_eqDisk k t21 t42).bind fun t48 => (if (!t48) = true then some false else ((laws_toIntS k p1).bind fun t50 => ((laws_eqIntS k t28 t50).bind fun t54 => (if (!t54) = true then some false else ((laws_markDisk k t21 1).bind fun t56 => (if List.length t56.2.1 = List.length t21.Cells then (if List.length t56.2.2 = List.length t21.Wet then ((laws_markIntS k t28 t56.1).bind fun t60 => (if List.length t60.2 = List.length t28 then (((if (decide (t60.1 < 0)) = true then some true else ((laws_eqDisk k t32 t14).bind fun t64 => some (!t64)))).bind fun c66 => (if c66 = true then some false else ((laws_markDisk k t32 1).bind fun t68 => (if List.length t68.2.1 = List.length t32.Cells then (if List.length t68.2.2 = List.length t32.Wet then ((laws_heldDisk k (⟨t68.2.1, t68.2.2, t32.Fuse, t32.Dead⟩ : TDisk) 1).bind fun t72 => (if (decide (t72 < 0)) = true then some false else (if (!decide (t72 = t68.1)) = true then some false else ((laws_toDisk k p0).bind fun t74 => ((laws_toIntS k p1).bind fun t80 => ((impl_Crash k t74 t80 p2).bind fun t84 => ((laws_eqDisk k t84 t14).bind fun t91 => (if (!t91) = true then some false else ((laws_heldDisk k (⟨t68.2.1, t68.2.2, t32.Fuse, t32.Dead⟩ : TDisk) 1).bind fun t93 => (if (decide (t93 < 0)) = true then some false else (if (!decide (t93 = t68.1)) = true then some false else some true))))))))))) else none) else none)))) else none)) else none) else none)))))))))))))))))))
end Go.Proofs.Sx
