import Derived.Test.YtgfhnepkpbmbcaaLK
import Derived.Test.YtgfhnepkpbmbcaaLM
import Derived.KernelRfl
namespace Go.Proofs.Sx
open Go.RowKit
set_option linter.unusedVariables false
set_option linter.unusedSimpArgs false
set_option maxRecDepth 20000
set_option maxHeartbeats 1000000
structure TCell where
  Bad : Bool
  B : (List Int)
  deriving DecidableEq, Inhabited
structure TWet where
  At : Int
  B : (List Int)
  deriving DecidableEq, Inhabited
structure TDisk where
  Cells : (List TCell)
  Wet : (List TWet)
  Fuse : Int
  Dead : Bool
  deriving DecidableEq, Inhabited
structure THead where
  Epoch : Int
  Seq : Int
  Root : Int
  Size : Int
  deriving DecidableEq, Inhabited
def wfTCell (x : TCell) : Prop := wfB x.Bad ∧ (wfL wfU8) x.B
def wfTWet (x : TWet) : Prop := wfI x.At ∧ (wfL wfU8) x.B
def wfTDisk (x : TDisk) : Prop := (wfL wfTCell) x.Cells ∧ (wfL wfTWet) x.Wet ∧ wfI x.Fuse ∧ wfB x.Dead
/-! laws.szByteS -/
def laws_szByteS (p0 : (List Int)) (p1 : Int) : Option (Int) := (if (decide ((wrap64 (p1 - ((List.length p0 : Nat) : Int))) < 0)) = true then some (-1) else some (wrap64 (p1 - ((List.length p0 : Nat) : Int))))
/-! laws.szCell -/
def laws_szCell (p0 : TCell) (p1 : Int) : Option (Int) := ((laws_szByteS p0.B p1).bind fun t2 => (if (decide (t2 < 0)) = true then some (-1) else some t2))
/-! laws.szCellS -/
def laws_szCellS_b0 (p0 : (List TCell)) : (Int × Int) → Option (Nx (Int × Int) (Int))
  | (i8, i9) => (if (decide (i9 < ((List.length p0 : Nat) : Int))) = true then (if (0 : Int) ≤ i9 ∧ i9 < ((List.length p0 : Nat) : Int) then ((laws_szCell (gt p0 i9) i8).bind fun t22 => (if (decide (t22 < 0)) = true then some (.ret (-1)) else some (.next (t22, (wrap64 (i9 + 1)))))) else none) else some (.out (i8, i9)))
def laws_szCellS (k : Nat) (p0 : (List TCell)) (p1 : Int) : Option (Int) := (if (decide ((wrap64 (p1 - ((List.length p0 : Nat) : Int))) < 0)) = true then some (-1) else ((loopM (laws_szCellS_b0 p0) k ((wrap64 (p1 - ((List.length p0 : Nat) : Int))), 0)).bind fun o24 => match o24 with | .out (i25, i26) => some i25 | .ret r => some r | .next _ => none))
/-! laws.szWet -/
def laws_szWet (p0 : TWet) (p1 : Int) : Option (Int) := ((laws_szByteS p0.B p1).bind fun t2 => (if (decide (t2 < 0)) = true then some (-1) else some t2))
/-! laws.szWetS -/
def laws_szWetS_b0 (p0 : (List TWet)) : (Int × Int) → Option (Nx (Int × Int) (Int))
  | (i8, i9) => (if (decide (i9 < ((List.length p0 : Nat) : Int))) = true then (if (0 : Int) ≤ i9 ∧ i9 < ((List.length p0 : Nat) : Int) then ((laws_szWet (gt p0 i9) i8).bind fun t22 => (if (decide (t22 < 0)) = true then some (.ret (-1)) else some (.next (t22, (wrap64 (i9 + 1)))))) else none) else some (.out (i8, i9)))
def laws_szWetS (k : Nat) (p0 : (List TWet)) (p1 : Int) : Option (Int) := (if (decide ((wrap64 (p1 - ((List.length p0 : Nat) : Int))) < 0)) = true then some (-1) else ((loopM (laws_szWetS_b0 p0) k ((wrap64 (p1 - ((List.length p0 : Nat) : Int))), 0)).bind fun o24 => match o24 with | .out (i25, i26) => some i25 | .ret r => some r | .next _ => none))
/-! laws.szDisk -/
def laws_szDisk (k : Nat) (p0 : TDisk) (p1 : Int) : Option (Int) := ((laws_szCellS k p0.Cells p1).bind fun t2 => (if (decide (t2 < 0)) = true then some (-1) else ((laws_szWetS k p0.Wet t2).bind fun t4 => (if (decide (t4 < 0)) = true then some (-1) else some t4))))
/-! laws.toByteS -/
def laws_toByteS_b0 (p0 : (List Int)) : ((List Int) × Int) → Option (Nx ((List Int) × Int) ((List Int)))
  | (l9, i10) => (if (decide (i10 < ((List.length p0 : Nat) : Int))) = true then (if (0 : Int) ≤ i10 ∧ i10 < ((List.length p0 : Nat) : Int) then (if (0 : Int) ≤ i10 ∧ i10 < ((List.length l9 : Nat) : Int) then ((some (List.set l9 (Int.toNat i10) (gt p0 i10))).bind fun l18 => some (.next (l18, (wrap64 (i10 + 1))))) else none) else none) else some (.out (l9, i10)))
def laws_toByteS (k : Nat) (p0 : (List Int)) : Option ((List Int)) := (if (0 : Int) ≤ ((List.length p0 : Nat) : Int) ∧ okLen (Int.toNat ((List.length p0 : Nat) : Int)) = true then ((loopM (laws_toByteS_b0 p0) k ((List.replicate (Int.toNat ((List.length p0 : Nat) : Int)) (0 : Int)), 0)).bind fun o21 => match o21 with | .out (l22, i23) => some l22 | .ret r => some r | .next _ => none) else none)
/-! laws.toCell -/
def laws_toCell (k : Nat) (p0 : TCell) : Option (TCell) := ((laws_toByteS k p0.B).bind fun t4 => some (⟨p0.Bad, t4⟩ : TCell))
/-! laws.toCellS -/
def laws_toCellS_b0 (k : Nat) (p0 : (List TCell)) : ((List TCell) × Int) → Option (Nx ((List TCell) × Int) ((List TCell)))
  | (l17, i18) => (if (decide (i18 < ((List.length p0 : Nat) : Int))) = true then (if (0 : Int) ≤ i18 ∧ i18 < ((List.length p0 : Nat) : Int) then ((laws_toCell k (gt p0 i18)).bind fun t37 => (if (0 : Int) ≤ i18 ∧ i18 < ((List.length l17 : Nat) : Int) then ((some (List.set l17 (Int.toNat i18) t37)).bind fun l42 => some (.next (l42, (wrap64 (i18 + 1))))) else none)) else none) else some (.out (l17, i18)))
def laws_toCellS (k : Nat) (p0 : (List TCell)) : Option ((List TCell)) := (if (0 : Int) ≤ ((List.length p0 : Nat) : Int) ∧ okLen (Int.toNat ((List.length p0 : Nat) : Int)) = true then ((loopM (laws_toCellS_b0 k p0) k ((List.replicate (Int.toNat ((List.length p0 : Nat) : Int)) (⟨false, ([] : (List Int))⟩ : TCell)), 0)).bind fun o45 => match o45 with | .out (l46, i47) => some l46 | .ret r => some r | .next _ => none) else none)
/-! laws.toWet -/
def laws_toWet (k : Nat) (p0 : TWet) : Option (TWet) := ((laws_toByteS k p0.B).bind fun t4 => some (⟨p0.At, t4⟩ : TWet))
/-! laws.toWetS -/
def laws_toWetS_b0 (k : Nat) (p0 : (List TWet)) : ((List TWet) × Int) → Option (Nx ((List TWet) × Int) ((List TWet)))
  | (l17, i18) => (if (decide (i18 < ((List.length p0 : Nat) : Int))) = true then (if (0 : Int) ≤ i18 ∧ i18 < ((List.length p0 : Nat) : Int) then ((laws_toWet k (gt p0 i18)).bind fun t37 => (if (0 : Int) ≤ i18 ∧ i18 < ((List.length l17 : Nat) : Int) then ((some (List.set l17 (Int.toNat i18) t37)).bind fun l42 => some (.next (l42, (wrap64 (i18 + 1))))) else none)) else none) else some (.out (l17, i18)))
def laws_toWetS (k : Nat) (p0 : (List TWet)) : Option ((List TWet)) := (if (0 : Int) ≤ ((List.length p0 : Nat) : Int) ∧ okLen (Int.toNat ((List.length p0 : Nat) : Int)) = true then ((loopM (laws_toWetS_b0 k p0) k ((List.replicate (Int.toNat ((List.length p0 : Nat) : Int)) (⟨(0 : Int), ([] : (List Int))⟩ : TWet)), 0)).bind fun o45 => match o45 with | .out (l46, i47) => some l46 | .ret r => some r | .next _ => none) else none)
/-! laws.toDisk -/
def laws_toDisk (k : Nat) (p0 : TDisk) : Option (TDisk) := ((laws_toCellS k p0.Cells).bind fun t4 => ((laws_toWetS k p0.Wet).bind fun t8 => some (⟨t4, t8, p0.Fuse, p0.Dead⟩ : TDisk)))
/-! spec.l1In -/
def spec_l1In (p0 : Int) (p1 : Int) (p2 : Int) : Option (Bool) := some ((decide (p0 ≥ p1)) && (decide (p0 ≤ p2)))
/-! spec.Read -/
def spec_Read_b0 (p0 : TDisk) (p1 : Int) : Int → Option (Nx (Int) ((List Int) × Bool))
  | i17 => (if (decide (i17 ≥ 0)) = true then (if (0 : Int) ≤ i17 ∧ i17 < ((List.length p0.Wet : Nat) : Int) then (if (decide (((gt p0.Wet i17).At) = p1)) = true then (if (0 : Int) ≤ i17 ∧ i17 < ((List.length p0.Wet : Nat) : Int) then (if okLen (List.length ([] : (List Int)) + List.length ((gt p0.Wet i17).B)) = true then some (.ret ((([] : (List Int)) ++ ((gt p0.Wet i17).B)), true)) else none) else none) else some (.next (wrap64 (i17 - 1)))) else none) else some (.out i17))
def spec_Read (k : Nat) (p0 : TDisk) (p1 : Int) : Option ((List Int) × Bool) := ((loopM (spec_Read_b0 p0 p1) k (wrap64 (((List.length p0.Wet : Nat) : Int) - 1))).bind fun o48 => match o48 with | .out i49 => ((spec_l1In p1 0 (wrap64 (((List.length p0.Cells : Nat) : Int) - 1))).bind fun t50 => (((if (!t50) = true then some true else (if (0 : Int) ≤ p1 ∧ p1 < ((List.length p0.Cells : Nat) : Int) then some ((gt p0.Cells p1).Bad) else none))).bind fun c58 => (((if c58 = true then some true else (if (0 : Int) ≤ p1 ∧ p1 < ((List.length p0.Cells : Nat) : Int) then some (decide (((List.length ((gt p0.Cells p1).B) : Nat) : Int) = 0)) else none))).bind fun c66 => (if c66 = true then some (([] : (List Int)), false) else (if (0 : Int) ≤ p1 ∧ p1 < ((List.length p0.Cells : Nat) : Int) then (if okLen (List.length ([] : (List Int)) + List.length ((gt p0.Cells p1).B)) = true then some ((([] : (List Int)) ++ ((gt p0.Cells p1).B)), true) else none) else none))))) | .ret r => some r | .next _ => none)
/-! spec.Get2 -/
def spec_Get2 (p0 : (List Int)) (p1 : Int) : Option (Int × Bool) := (if ((decide (p1 < 0)) || (decide (p1 > (wrap64 (((List.length p0 : Nat) : Int) - 2))))) = true then some (0, false) else (if (0 : Int) ≤ p1 ∧ p1 < ((List.length p0 : Nat) : Int) then (if (0 : Int) ≤ (wrap64 (p1 + 1)) ∧ (wrap64 (p1 + 1)) < ((List.length p0 : Nat) : Int) then some ((wrap64 ((wrap64 (256 * (IntKind.i64.wrap (gt p0 p1)))) + (IntKind.i64.wrap (gt p0 (wrap64 (p1 + 1)))))), true) else none) else none))
/-! spec.HeadOk -/
def spec_HeadOk (p0 : THead) : Option (Bool) := ((spec_l1In p0.Epoch 1 60000).bind fun t2 => (((if t2 = true then ((spec_l1In p0.Seq 0 65535).bind fun t5 => some t5) else some false)).bind fun c7 => (((if c7 = true then ((spec_l1In p0.Size 1 48).bind fun t10 => some t10) else some false)).bind fun c12 => (((if c12 = true then ((spec_l1In p0.Root 0 (wrap64 (p0.Size - 1))).bind fun t15 => some t15) else some false)).bind fun c17 => some c17))))
/-! spec.Put2 -/
def spec_Put2 (p0 : (List Int)) (p1 : Int) : Option ((List Int)) := (if okLen (List.length ([] : (List Int)) + List.length p0) = true then ((spec_l1In p1 0 65535).bind fun t6 => (if (!t6) = true then some (([] : (List Int)) ++ p0) else (if okLen (List.length (([] : (List Int)) ++ p0) + List.length ([(IntKind.u8.wrap (wrap64 (Int.tdiv p1 256))), (IntKind.u8.wrap (Int.tmod p1 256))] : (List Int))) = true then some ((([] : (List Int)) ++ p0) ++ ([(IntKind.u8.wrap (wrap64 (Int.tdiv p1 256))), (IntKind.u8.wrap (Int.tmod p1 256))] : (List Int))) else none))) else none)
/-! spec.HeadCell -/
def spec_HeadCell (p0 : THead) : Option ((List Int)) := ((spec_HeadOk p0).bind fun t2 => (if (!t2) = true then some ([] : (List Int)) else ((spec_Put2 ([3] : (List Int)) p0.Epoch).bind fun t9 => ((spec_Put2 t9 p0.Seq).bind fun t13 => (if okLen (List.length t13 + List.length ([(IntKind.u8.wrap p0.Root), (IntKind.u8.wrap p0.Size)] : (List Int))) = true then some (t13 ++ ([(IntKind.u8.wrap p0.Root), (IntKind.u8.wrap p0.Size)] : (List Int))) else none)))))
/-! spec.Pad -/
def spec_Pad_b0 (p1 : Int) : (List Int) → Option (Nx ((List Int)) ((List Int)))
  | l12 => (if ((decide (((List.length l12 : Nat) : Int) < p1)) && (decide (p1 ≤ 64))) = true then (if okLen (List.length l12 + List.length ([0] : (List Int))) = true then some (.next (l12 ++ ([0] : (List Int)))) else none) else some (.out l12))
def spec_Pad (k : Nat) (p0 : (List Int)) (p1 : Int) : Option ((List Int)) := (if okLen (List.length ([] : (List Int)) + List.length p0) = true then ((loopM (spec_Pad_b0 p1) k (([] : (List Int)) ++ p0)).bind fun o27 => match o27 with | .out l28 => some l28 | .ret r => some r | .next _ => none) else none)
/-! spec.l6Same -/
def spec_l6Same_b0 (p0 : (List Int)) (p1 : (List Int)) : Int → Option (Nx (Int) (Bool))
  | i4 => (if (decide (i4 < ((List.length p0 : Nat) : Int))) = true then (if (0 : Int) ≤ i4 ∧ i4 < ((List.length p0 : Nat) : Int) then (if (0 : Int) ≤ i4 ∧ i4 < ((List.length p1 : Nat) : Int) then (if (!decide ((gt p0 i4) = (gt p1 i4))) = true then some (.ret false) else some (.next (wrap64 (i4 + 1)))) else none) else none) else some (.out i4))
def spec_l6Same (k : Nat) (p0 : (List Int)) (p1 : (List Int)) : Option (Bool) := (if (!decide (((List.length p0 : Nat) : Int) = ((List.length p1 : Nat) : Int))) = true then some false else ((loopM (spec_l6Same_b0 p0 p1) k 0).bind fun o11 => match o11 with | .out i12 => some true | .ret r => some r | .next _ => none))
/-! spec.GetHead -/
def spec_GetHead (k : Nat) (p0 : (List Int)) : Option (THead × Bool) := (if (!decide (((List.length p0 : Nat) : Int) = 32)) = true then some ((⟨0, 0, 0, 0⟩ : THead), false) else ((spec_Get2 p0 1).bind fun t2 => ((spec_Get2 p0 3).bind fun t4 => (if (0 : Int) ≤ 5 ∧ 5 < ((List.length p0 : Nat) : Int) then (if (0 : Int) ≤ 6 ∧ 6 < ((List.length p0 : Nat) : Int) then ((spec_HeadOk (⟨t2.1, t4.1, (IntKind.i64.wrap (gt p0 5)), (IntKind.i64.wrap (gt p0 6))⟩ : THead)).bind fun t10 => (((if (!t10) = true then some true else ((spec_HeadCell (⟨t2.1, t4.1, (IntKind.i64.wrap (gt p0 5)), (IntKind.i64.wrap (gt p0 6))⟩ : THead)).bind fun t13 => ((spec_Pad k t13 32).bind fun t17 => ((spec_l6Same k t17 p0).bind fun t21 => some (!t21)))))).bind fun c23 => (if c23 = true then some ((⟨0, 0, 0, 0⟩ : THead), false) else some ((⟨t2.1, t4.1, (IntKind.i64.wrap (gt p0 5)), (IntKind.i64.wrap (gt p0 6))⟩ : THead), true)))) else none) else none))))
/-! spec.BestHead -/
def spec_BestHead_b0 (k : Nat) (p0 : TDisk) : (Bool × Int × Int × Int × Int × Int) → Option (Nx (Bool × Int × Int × Int × Int × Int) (THead × Bool))
  | (q14, i15, i16, i17, i18, i19) => (if (decide (i15 < 2)) = true then ((spec_Read k p0 i15).bind fun t30 => ((spec_GetHead k t30.1).bind fun t34 => (if ((t34.2 && (decide ((Int.tmod t34.1.Epoch 2) = i15))) && ((!q14) || (decide (t34.1.Epoch > i16)))) = true then some (.next (true, (wrap64 (i15 + 1)), t34.1.Epoch, t34.1.Seq, t34.1.Root, t34.1.Size)) else some (.next (q14, (wrap64 (i15 + 1)), i16, i17, i18, i19))))) else some (.out (q14, i15, i16, i17, i18, i19)))
def spec_BestHead (k : Nat) (p0 : TDisk) : Option (THead × Bool) := ((loopM (spec_BestHead_b0 k p0) k (false, 0, 0, 0, 0, 0)).bind fun o40 => match o40 with | .out (q41, i42, i43, i44, i45, i46) => some ((⟨i43, i44, i45, i46⟩ : THead), q41) | .ret r => some r | .next _ => none)
/-! slices.Clone(()byte,byte) -/
def slices_Clone_byte_byte (p0 : (List Int)) : Option ((List Int)) := (if okLen (List.length p0) = true then some p0 else none)
/-! impl.Read -/
def impl_Read_b0 (p0 : TDisk) (p1 : Int) : Int → Option (Nx (Int) ((List Int) × Bool))
  | i16 => (if (decide (i16 ≥ 0)) = true then (if (0 : Int) ≤ i16 ∧ i16 < ((List.length p0.Wet : Nat) : Int) then (if (decide (((gt p0.Wet i16).At) = p1)) = true then (if (0 : Int) ≤ i16 ∧ i16 < ((List.length p0.Wet : Nat) : Int) then ((slices_Clone_byte_byte ((gt p0.Wet i16).B)).bind fun t41 => some (.ret (t41, true))) else none) else some (.next (wrap64 (i16 - 1)))) else none) else some (.out i16))
def impl_Read (k : Nat) (p0 : TDisk) (p1 : Int) : Option ((List Int) × Bool) := ((loopM (impl_Read_b0 p0 p1) k (wrap64 (((List.length p0.Wet : Nat) : Int) - 1))).bind fun o45 => match o45 with | .out i46 => (((if ((decide (p1 < 0)) || (decide (p1 ≥ ((List.length p0.Cells : Nat) : Int)))) = true then some true else (if (0 : Int) ≤ p1 ∧ p1 < ((List.length p0.Cells : Nat) : Int) then some ((gt p0.Cells p1).Bad) else none))).bind fun c54 => (((if c54 = true then some true else (if (0 : Int) ≤ p1 ∧ p1 < ((List.length p0.Cells : Nat) : Int) then some (decide (((List.length ((gt p0.Cells p1).B) : Nat) : Int) = 0)) else none))).bind fun c62 => (if c62 = true then some (([] : (List Int)), false) else (if (0 : Int) ≤ p1 ∧ p1 < ((List.length p0.Cells : Nat) : Int) then ((slices_Clone_byte_byte ((gt p0.Cells p1).B)).bind fun t69 => some (t69, true)) else none)))) | .ret r => some r | .next _ => none)
/-! impl.Get2 -/
def impl_Get2 (p0 : (List Int)) (p1 : Int) : Option (Int × Bool) := (if ((decide (p1 < 0)) || (decide (p1 > (wrap64 (((List.length p0 : Nat) : Int) - 2))))) = true then some (0, false) else (if (0 : Int) ≤ p1 ∧ p1 < ((List.length p0 : Nat) : Int) then (if (0 : Int) ≤ (wrap64 (p1 + 1)) ∧ (wrap64 (p1 + 1)) < ((List.length p0 : Nat) : Int) then some ((bits2 (· ||| ·) (wrap64 ((IntKind.i64.wrap (gt p0 p1)) * 2 ^ (min (Int.toNat 8) 64))) (IntKind.i64.wrap (gt p0 (wrap64 (p1 + 1))))), true) else none) else none))
/-! impl.in -/
def impl_in (p0 : Int) (p1 : Int) (p2 : Int) : Option (Bool) := some ((decide (p1 ≤ p0)) && (decide (p0 ≤ p2)))
/-! impl.HeadOk -/
def impl_HeadOk (p0 : THead) : Option (Bool) := ((impl_in p0.Epoch 1 60000).bind fun t2 => (((if t2 = true then ((impl_in p0.Seq 0 65535).bind fun t5 => some t5) else some false)).bind fun c7 => (((if c7 = true then ((impl_in p0.Size 1 48).bind fun t10 => some t10) else some false)).bind fun c12 => (((if c12 = true then ((impl_in p0.Root 0 (wrap64 (p0.Size - 1))).bind fun t15 => some t15) else some false)).bind fun c17 => some c17))))
/-! impl.Put2 -/
def impl_Put2 (p0 : (List Int)) (p1 : Int) : Option ((List Int)) := ((slices_Clone_byte_byte p0).bind fun t1 => ((impl_in p1 0 65535).bind fun t5 => (if (!t5) = true then some t1 else (if okLen (List.length t1 + List.length ([(IntKind.u8.wrap (Int.fdiv p1 (2 ^ (min (Int.toNat 8) 64)))), (IntKind.u8.wrap p1)] : (List Int))) = true then some (t1 ++ ([(IntKind.u8.wrap (Int.fdiv p1 (2 ^ (min (Int.toNat 8) 64)))), (IntKind.u8.wrap p1)] : (List Int))) else none))))
/-! impl.HeadCell -/
def impl_HeadCell (p0 : THead) : Option ((List Int)) := ((impl_HeadOk p0).bind fun t2 => (if (!t2) = true then some ([] : (List Int)) else ((impl_Put2 ([3] : (List Int)) p0.Epoch).bind fun t7 => ((impl_Put2 t7 p0.Seq).bind fun t11 => (if okLen (List.length t11 + List.length ([(IntKind.u8.wrap p0.Root), (IntKind.u8.wrap p0.Size)] : (List Int))) = true then some (t11 ++ ([(IntKind.u8.wrap p0.Root), (IntKind.u8.wrap p0.Size)] : (List Int))) else none)))))
/-! impl.Pad -/
def impl_Pad_b0 (p1 : Int) : (List Int) → Option (Nx ((List Int)) ((List Int)))
  | l10 => (if (decide (((List.length l10 : Nat) : Int) < p1)) = true then (if okLen (List.length l10 + List.length ([0] : (List Int))) = true then some (.next (l10 ++ ([0] : (List Int)))) else none) else some (.out l10))
def impl_Pad (k : Nat) (p0 : (List Int)) (p1 : Int) : Option ((List Int)) := ((slices_Clone_byte_byte p0).bind fun t1 => (if (decide (p1 > 64)) = true then some t1 else ((loopM (impl_Pad_b0 p1) k t1).bind fun o23 => match o23 with | .out l24 => some l24 | .ret r => some r | .next _ => none)))
/-! bytes.Equal -/
def bytes_Equal (p0 : (List Int)) (p1 : (List Int)) : Option (Bool) := some (strOfNums p0 == strOfNums p1)
/-! impl.GetHead -/
def impl_GetHead (k : Nat) (p0 : (List Int)) : Option (THead × Bool) := (if (!decide (((List.length p0 : Nat) : Int) = 32)) = true then some ((⟨0, 0, 0, 0⟩ : THead), false) else ((impl_Get2 p0 1).bind fun t2 => ((impl_Get2 p0 3).bind fun t4 => (if (0 : Int) ≤ 5 ∧ 5 < ((List.length p0 : Nat) : Int) then (if (0 : Int) ≤ 6 ∧ 6 < ((List.length p0 : Nat) : Int) then ((impl_HeadOk (⟨t2.1, t4.1, (IntKind.i64.wrap (gt p0 5)), (IntKind.i64.wrap (gt p0 6))⟩ : THead)).bind fun t10 => (((if (!t10) = true then some true else ((impl_HeadCell (⟨t2.1, t4.1, (IntKind.i64.wrap (gt p0 5)), (IntKind.i64.wrap (gt p0 6))⟩ : THead)).bind fun t13 => ((impl_Pad k t13 32).bind fun t17 => ((bytes_Equal t17 p0).bind fun t21 => some (!t21)))))).bind fun c23 => (if c23 = true then some ((⟨0, 0, 0, 0⟩ : THead), false) else some ((⟨t2.1, t4.1, (IntKind.i64.wrap (gt p0 5)), (IntKind.i64.wrap (gt p0 6))⟩ : THead), true)))) else none) else none))))
/-! impl.BestHead -/
def impl_BestHead_b0 (k : Nat) (p0 : TDisk) : (Bool × Int × Int × Int × Int × Int) → Option (Nx (Bool × Int × Int × Int × Int × Int) (THead × Bool))
  | (q14, i15, i16, i17, i18, i19) => (if (decide (i15 < 2)) = true then ((impl_Read k p0 i15).bind fun t30 => ((impl_GetHead k t30.1).bind fun t34 => (if ((t34.2 && (decide ((Int.tmod t34.1.Epoch 2) = i15))) && ((!q14) || (decide (t34.1.Epoch > i16)))) = true then some (.next (true, (wrap64 (i15 + 1)), t34.1.Epoch, t34.1.Seq, t34.1.Root, t34.1.Size)) else some (.next (q14, (wrap64 (i15 + 1)), i16, i17, i18, i19))))) else some (.out (q14, i15, i16, i17, i18, i19)))
def impl_BestHead (k : Nat) (p0 : TDisk) : Option (THead × Bool) := ((loopM (impl_BestHead_b0 k p0) k (false, 0, 0, 0, 0, 0)).bind fun o40 => match o40 with | .out (q41, i42, i43, i44, i45, i46) => some ((⟨i43, i44, i45, i46⟩ : THead), q41) | .ret r => some r | .next _ => none)
/-! laws.eqHead -/
def laws_eqHead (p0 : THead) (p1 : THead) : Option (Bool) := (if (!decide (p0.Epoch = p1.Epoch)) = true then some false else (if (!decide (p0.Seq = p1.Seq)) = true then some false else (if (!decide (p0.Root = p1.Root)) = true then some false else (if (!decide (p0.Size = p1.Size)) = true then some false else some true))))
/-! laws.eqByteS -/
def laws_eqByteS_b0 (p0 : (List Int)) (p1 : (List Int)) : Int → Option (Nx (Int) (Bool))
  | i4 => (if (decide (i4 < ((List.length p0 : Nat) : Int))) = true then (if (0 : Int) ≤ i4 ∧ i4 < ((List.length p0 : Nat) : Int) then (if (0 : Int) ≤ i4 ∧ i4 < ((List.length p1 : Nat) : Int) then (if (!decide ((gt p0 i4) = (gt p1 i4))) = true then some (.ret false) else some (.next (wrap64 (i4 + 1)))) else none) else none) else some (.out i4))
def laws_eqByteS (k : Nat) (p0 : (List Int)) (p1 : (List Int)) : Option (Bool) := (if (!decide (((List.length p0 : Nat) : Int) = ((List.length p1 : Nat) : Int))) = true then some false else ((loopM (laws_eqByteS_b0 p0 p1) k 0).bind fun o11 => match o11 with | .out i12 => some true | .ret r => some r | .next _ => none))
/-! laws.eqCell -/
def laws_eqCell (k : Nat) (p0 : TCell) (p1 : TCell) : Option (Bool) := (if (!(p0.Bad == p1.Bad)) = true then some false else ((laws_eqByteS k p0.B p1.B).bind fun t3 => (if (!t3) = true then some false else some true)))
/-! laws.eqCellS -/
def laws_eqCellS_b0 (k : Nat) (p0 : (List TCell)) (p1 : (List TCell)) : Int → Option (Nx (Int) (Bool))
  | i14 => (if (decide (i14 < ((List.length p0 : Nat) : Int))) = true then (if (0 : Int) ≤ i14 ∧ i14 < ((List.length p0 : Nat) : Int) then (if (0 : Int) ≤ i14 ∧ i14 < ((List.length p1 : Nat) : Int) then ((laws_eqCell k (gt p0 i14) (gt p1 i14)).bind fun t39 => (if (!t39) = true then some (.ret false) else some (.next (wrap64 (i14 + 1))))) else none) else none) else some (.out i14))
def laws_eqCellS (k : Nat) (p0 : (List TCell)) (p1 : (List TCell)) : Option (Bool) := (if (!decide (((List.length p0 : Nat) : Int) = ((List.length p1 : Nat) : Int))) = true then some false else ((loopM (laws_eqCellS_b0 k p0 p1) k 0).bind fun o41 => match o41 with | .out i42 => some true | .ret r => some r | .next _ => none))
/-! laws.eqWet -/
def laws_eqWet (k : Nat) (p0 : TWet) (p1 : TWet) : Option (Bool) := (if (!decide (p0.At = p1.At)) = true then some false else ((laws_eqByteS k p0.B p1.B).bind fun t3 => (if (!t3) = true then some false else some true)))
/-! laws.eqWetS -/
def laws_eqWetS_b0 (k : Nat) (p0 : (List TWet)) (p1 : (List TWet)) : Int → Option (Nx (Int) (Bool))
  | i14 => (if (decide (i14 < ((List.length p0 : Nat) : Int))) = true then (if (0 : Int) ≤ i14 ∧ i14 < ((List.length p0 : Nat) : Int) then (if (0 : Int) ≤ i14 ∧ i14 < ((List.length p1 : Nat) : Int) then ((laws_eqWet k (gt p0 i14) (gt p1 i14)).bind fun t39 => (if (!t39) = true then some (.ret false) else some (.next (wrap64 (i14 + 1))))) else none) else none) else some (.out i14))
def laws_eqWetS (k : Nat) (p0 : (List TWet)) (p1 : (List TWet)) : Option (Bool) := (if (!decide (((List.length p0 : Nat) : Int) = ((List.length p1 : Nat) : Int))) = true then some false else ((loopM (laws_eqWetS_b0 k p0 p1) k 0).bind fun o41 => match o41 with | .out i42 => some true | .ret r => some r | .next _ => none))
/-! laws.eqDisk -/
def laws_eqDisk (k : Nat) (p0 : TDisk) (p1 : TDisk) : Option (Bool) := ((laws_eqCellS k p0.Cells p1.Cells).bind fun t3 => (if (!t3) = true then some false else ((laws_eqWetS k p0.Wet p1.Wet).bind fun t5 => (if (!t5) = true then some false else (if (!decide (p0.Fuse = p1.Fuse)) = true then some false else (if (!(p0.Dead == p1.Dead)) = true then some false else some true))))))
/-! laws.FnExactBestHead -/
def laws_FnExactBestHead (k : Nat) (p0 : TDisk) : Option (Bool) := ((laws_szDisk k p0 1048576).bind fun t2 => (if (decide (t2 < 0)) = true then some true else ((laws_toDisk k p0).bind fun t4 => ((spec_BestHead k t4).bind fun t10 => ((laws_toDisk k p0).bind fun t13 => ((impl_BestHead k t13).bind fun t20 => ((laws_eqHead t20.1 t10.1).bind fun t23 => (if ((!t23) || (!(t20.2 == t10.2))) = true then some false else ((laws_toDisk k p0).bind fun t27 => ((laws_eqDisk k t13 t27).bind fun t33 => (if (!t33) = true then some false else some true)))))))))))
end Go.Proofs.Sx
