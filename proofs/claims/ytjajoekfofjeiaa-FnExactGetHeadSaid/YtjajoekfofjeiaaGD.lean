import Derived.Test.YtjajoekfofjeiaaLK
import Derived.KernelRfl
namespace Go.Proofs.Sx
open Go.RowKit
set_option linter.unusedVariables false
set_option linter.unusedSimpArgs false
set_option maxRecDepth 20000
set_option maxHeartbeats 1000000
structure THead where
  Epoch : Int
  Seq : Int
  Root : Int
  Size : Int
  deriving DecidableEq, Inhabited

/-! laws.toByteS -/
def laws_toByteS_b0 (p0 : (List Int)) : ((List Int) × Int) → Option (Nx ((List Int) × Int) ((List Int)))
  | (l9, i10) => (if (decide (i10 < ((List.length p0 : Nat) : Int))) = true then (if (0 : Int) ≤ i10 ∧ i10 < ((List.length p0 : Nat) : Int) then (if (0 : Int) ≤ i10 ∧ i10 < ((List.length l9 : Nat) : Int) then ((some (List.set l9 (Int.toNat i10) (gt p0 i10))).bind fun l18 => some (.next (l18, (wrap64 (i10 + 1))))) else none) else none) else some (.out (l9, i10)))
def laws_toByteS (k : Nat) (p0 : (List Int)) : Option ((List Int)) := (if (0 : Int) ≤ ((List.length p0 : Nat) : Int) ∧ okLen (Int.toNat ((List.length p0 : Nat) : Int)) = true then ((loopM (laws_toByteS_b0 p0) k ((List.replicate (Int.toNat ((List.length p0 : Nat) : Int)) (0 : Int)), 0)).bind fun o21 => match o21 with | .out (l22, i23) => some l22 | .ret r => some r | .next _ => none) else none)
/-! spec.Get2 -/
def spec_Get2 (p0 : (List Int)) (p1 : Int) : Option (Int × Bool) := (if ((decide (p1 < 0)) || (decide (p1 > (wrap64 (((List.length p0 : Nat) : Int) - 2))))) = true then some (0, false) else (if (0 : Int) ≤ p1 ∧ p1 < ((List.length p0 : Nat) : Int) then (if (0 : Int) ≤ (wrap64 (p1 + 1)) ∧ (wrap64 (p1 + 1)) < ((List.length p0 : Nat) : Int) then some ((wrap64 ((wrap64 (256 * (IntKind.i64.wrap (gt p0 p1)))) + (IntKind.i64.wrap (gt p0 (wrap64 (p1 + 1)))))), true) else none) else none))
/-! spec.l1In -/
def spec_l1In (p0 : Int) (p1 : Int) (p2 : Int) : Option (Bool) := some ((decide (p0 ≥ p1)) && (decide (p0 ≤ p2)))
/-! spec.HeadOk -/
def spec_HeadOk (p0 : THead) : Option (Bool) := ((spec_l1In p0.Epoch 1 60000).bind fun t2 => (((if t2 = true then ((spec_l1In p0.Seq 0 65535).bind fun t4 => some t4) else some false)).bind fun c6 => (((if c6 = true then ((spec_l1In p0.Size 1 48).bind fun t8 => some t8) else some false)).bind fun c10 => (((if c10 = true then ((spec_l1In p0.Root 0 (wrap64 (p0.Size - 1))).bind fun t12 => some t12) else some false)).bind fun c14 => some c14))))
/-! spec.Put2 -/
def spec_Put2 (p0 : (List Int)) (p1 : Int) : Option ((List Int)) := (if okLen (List.length ([] : (List Int)) + List.length p0) = true then ((spec_l1In p1 0 65535).bind fun t6 => (if (!t6) = true then some (([] : (List Int)) ++ p0) else (if okLen (List.length (([] : (List Int)) ++ p0) + List.length ([(IntKind.u8.wrap (wrap64 (Int.tdiv p1 256))), (IntKind.u8.wrap (Int.tmod p1 256))] : (List Int))) = true then some ((([] : (List Int)) ++ p0) ++ ([(IntKind.u8.wrap (wrap64 (Int.tdiv p1 256))), (IntKind.u8.wrap (Int.tmod p1 256))] : (List Int))) else none))) else none)
/-! spec.HeadCell -/
def spec_HeadCell (p0 : THead) : Option ((List Int)) := ((spec_HeadOk p0).bind fun t2 => (if (!t2) = true then some ([] : (List Int)) else ((spec_Put2 ([3] : (List Int)) p0.Epoch).bind fun t9 => ((spec_Put2 t9 p0.Seq).bind fun t13 => (if okLen (List.length t13 + List.length ([(IntKind.u8.wrap p0.Root), (IntKind.u8.wrap p0.Size)] : (List Int))) = true then some (t13 ++ ([(IntKind.u8.wrap p0.Root), (IntKind.u8.wrap p0.Size)] : (List Int))) else none)))))
/-! spec.Pad -/
def spec_Pad_b0 (p1 : Int) : (List Int) → Option (Nx ((List Int)) ((List Int)))
  | l11 => (if ((decide (((List.length l11 : Nat) : Int) < p1)) && (decide (p1 ≤ 64))) = true then (if okLen (List.length l11 + List.length ([0] : (List Int))) = true then some (.next (l11 ++ ([0] : (List Int)))) else none) else some (.out l11))
def spec_Pad (k : Nat) (p0 : (List Int)) (p1 : Int) : Option ((List Int)) := (if okLen (List.length ([] : (List Int)) + List.length p0) = true then ((loopM (spec_Pad_b0 p1) k (([] : (List Int)) ++ p0)).bind fun o24 => match o24 with | .out l25 => some l25 | .ret r => some r | .next _ => none) else none)
/-! spec.l6Same -/
def spec_l6Same_b0 (p0 : (List Int)) (p1 : (List Int)) : Int → Option (Nx (Int) (Bool))
  | i4 => (if (decide (i4 < ((List.length p0 : Nat) : Int))) = true then (if (0 : Int) ≤ i4 ∧ i4 < ((List.length p0 : Nat) : Int) then (if (0 : Int) ≤ i4 ∧ i4 < ((List.length p1 : Nat) : Int) then (if (!decide ((gt p0 i4) = (gt p1 i4))) = true then some (.ret false) else some (.next (wrap64 (i4 + 1)))) else none) else none) else some (.out i4))
def spec_l6Same (k : Nat) (p0 : (List Int)) (p1 : (List Int)) : Option (Bool) := (if (!decide (((List.length p0 : Nat) : Int) = ((List.length p1 : Nat) : Int))) = true then some false else ((loopM (spec_l6Same_b0 p0 p1) k 0).bind fun o11 => match o11 with | .out i12 => some true | .ret r => some r | .next _ => none))
/-! spec.GetHead -/
def spec_GetHead (k : Nat) (p0 : (List Int)) : Option (THead × Bool) := (if (!decide (((List.length p0 : Nat) : Int) = 32)) = true then some ((⟨0, 0, 0, 0⟩ : THead), false) else ((spec_Get2 p0 1).bind fun t2 => ((spec_Get2 p0 3).bind fun t4 => (if (0 : Int) ≤ 5 ∧ 5 < ((List.length p0 : Nat) : Int) then (if (0 : Int) ≤ 6 ∧ 6 < ((List.length p0 : Nat) : Int) then ((spec_HeadOk (⟨t2.1, t4.1, (IntKind.i64.wrap (gt p0 5)), (IntKind.i64.wrap (gt p0 6))⟩ : THead)).bind fun t10 => (((if (!t10) = true then some true else ((spec_HeadCell (⟨t2.1, t4.1, (IntKind.i64.wrap (gt p0 5)), (IntKind.i64.wrap (gt p0 6))⟩ : THead)).bind fun t12 => ((spec_Pad k t12 32).bind fun t16 => ((spec_l6Same k t16 p0).bind fun t20 => some (!t20)))))).bind fun c22 => (if c22 = true then some ((⟨0, 0, 0, 0⟩ : THead), false) else some ((⟨t2.1, t4.1, (IntKind.i64.wrap (gt p0 5)), (IntKind.i64.wrap (gt p0 6))⟩ : THead), true)))) else none) else none))))
/-! impl.Get2 -/
def impl_Get2 (p0 : (List Int)) (p1 : Int) : Option (Int × Bool) := (if ((decide (p1 < 0)) || (decide (p1 > (wrap64 (((List.length p0 : Nat) : Int) - 2))))) = true then some (0, false) else (if (0 : Int) ≤ p1 ∧ p1 < ((List.length p0 : Nat) : Int) then (if (0 : Int) ≤ (wrap64 (p1 + 1)) ∧ (wrap64 (p1 + 1)) < ((List.length p0 : Nat) : Int) then some ((bits2 (· ||| ·) (wrap64 ((IntKind.i64.wrap (gt p0 p1)) * 2 ^ (min (Int.toNat 8) 64))) (IntKind.i64.wrap (gt p0 (wrap64 (p1 + 1))))), true) else none) else none))
/-! impl.in -/
def impl_in (p0 : Int) (p1 : Int) (p2 : Int) : Option (Bool) := some ((decide (p1 ≤ p0)) && (decide (p0 ≤ p2)))
/-! impl.HeadOk -/
def impl_HeadOk (p0 : THead) : Option (Bool) := ((impl_in p0.Epoch 1 60000).bind fun t2 => (((if t2 = true then ((impl_in p0.Seq 0 65535).bind fun t4 => some t4) else some false)).bind fun c6 => (((if c6 = true then ((impl_in p0.Size 1 48).bind fun t8 => some t8) else some false)).bind fun c10 => (((if c10 = true then ((impl_in p0.Root 0 (wrap64 (p0.Size - 1))).bind fun t12 => some t12) else some false)).bind fun c14 => some c14))))
/-! slices.Clone(()byte,byte) -/
def slices_Clone_byte_byte (p0 : (List Int)) : Option ((List Int)) := (if okLen (List.length p0) = true then some p0 else none)
/-! impl.Put2 -/
def impl_Put2 (p0 : (List Int)) (p1 : Int) : Option ((List Int)) := ((slices_Clone_byte_byte p0).bind fun t1 => ((impl_in p1 0 65535).bind fun t5 => (if (!t5) = true then some t1 else (if okLen (List.length t1 + List.length ([(IntKind.u8.wrap (Int.fdiv p1 (2 ^ (min (Int.toNat 8) 64)))), (IntKind.u8.wrap p1)] : (List Int))) = true then some (t1 ++ ([(IntKind.u8.wrap (Int.fdiv p1 (2 ^ (min (Int.toNat 8) 64)))), (IntKind.u8.wrap p1)] : (List Int))) else none))))
/-! impl.HeadCell -/
def impl_HeadCell (p0 : THead) : Option ((List Int)) := ((impl_HeadOk p0).bind fun t2 => (if (!t2) = true then some ([] : (List Int)) else ((impl_Put2 ([3] : (List Int)) p0.Epoch).bind fun t7 => ((impl_Put2 t7 p0.Seq).bind fun t11 => (if okLen (List.length t11 + List.length ([(IntKind.u8.wrap p0.Root), (IntKind.u8.wrap p0.Size)] : (List Int))) = true then some (t11 ++ ([(IntKind.u8.wrap p0.Root), (IntKind.u8.wrap p0.Size)] : (List Int))) else none)))))
/-! impl.Pad -/
def impl_Pad_b0 (p1 : Int) : (List Int) → Option (Nx ((List Int)) ((List Int)))
  | l10 => (if (decide (((List.length l10 : Nat) : Int) < p1)) = true then (if okLen (List.length l10 + List.length ([0] : (List Int))) = true then some (.next (l10 ++ ([0] : (List Int)))) else none) else some (.out l10))
def impl_Pad (k : Nat) (p0 : (List Int)) (p1 : Int) : Option ((List Int)) := ((slices_Clone_byte_byte p0).bind fun t1 => (if (decide (p1 > 64)) = true then some t1 else ((loopM (impl_Pad_b0 p1) k t1).bind fun o23 => match o23 with | .out l24 => some l24 | .ret r => some r | .next _ => none)))
/-! bytes.Equal -/
def bytes_Equal (p0 : (List Int)) (p1 : (List Int)) : Option (Bool) := some (strOfNums p0 == strOfNums p1)
/-! impl.GetHead -/
def impl_GetHead (k : Nat) (p0 : (List Int)) : Option (THead × Bool) := (if (!decide (((List.length p0 : Nat) : Int) = 32)) = true then some ((⟨0, 0, 0, 0⟩ : THead), false) else ((impl_Get2 p0 1).bind fun t2 => ((impl_Get2 p0 3).bind fun t4 => (if (0 : Int) ≤ 5 ∧ 5 < ((List.length p0 : Nat) : Int) then (if (0 : Int) ≤ 6 ∧ 6 < ((List.length p0 : Nat) : Int) then ((impl_HeadOk (⟨t2.1, t4.1, (IntKind.i64.wrap (gt p0 5)), (IntKind.i64.wrap (gt p0 6))⟩ : THead)).bind fun t10 => (((if (!t10) = true then some true else ((impl_HeadCell (⟨t2.1, t4.1, (IntKind.i64.wrap (gt p0 5)), (IntKind.i64.wrap (gt p0 6))⟩ : THead)).bind fun t12 => ((impl_Pad k t12 32).bind fun t16 => ((bytes_Equal t16 p0).bind fun t20 => some (!t20)))))).bind fun c22 => (if c22 = true then some ((⟨0, 0, 0, 0⟩ : THead), false) else some ((⟨t2.1, t4.1, (IntKind.i64.wrap (gt p0 5)), (IntKind.i64.wrap (gt p0 6))⟩ : THead), true)))) else none) else none))))
/-! laws.eqHead -/
def laws_eqHead (p0 : THead) (p1 : THead) : Option (Bool) := (if (!decide (p0.Epoch = p1.Epoch)) = true then some false else (if (!decide (p0.Seq = p1.Seq)) = true then some false else (if (!decide (p0.Root = p1.Root)) = true then some false else (if (!decide (p0.Size = p1.Size)) = true then some false else some true))))
/-! laws.eqByteS -/
def laws_eqByteS_b0 (p0 : (List Int)) (p1 : (List Int)) : Int → Option (Nx (Int) (Bool))
  | i4 => (if (decide (i4 < ((List.length p0 : Nat) : Int))) = true then (if (0 : Int) ≤ i4 ∧ i4 < ((List.length p0 : Nat) : Int) then (if (0 : Int) ≤ i4 ∧ i4 < ((List.length p1 : Nat) : Int) then (if (!decide ((gt p0 i4) = (gt p1 i4))) = true then some (.ret false) else some (.next (wrap64 (i4 + 1)))) else none) else none) else some (.out i4))
def laws_eqByteS (k : Nat) (p0 : (List Int)) (p1 : (List Int)) : Option (Bool) := (if (!decide (((List.length p0 : Nat) : Int) = ((List.length p1 : Nat) : Int))) = true then some false else ((loopM (laws_eqByteS_b0 p0 p1) k 0).bind fun o11 => match o11 with | .out i12 => some true | .ret r => some r | .next _ => none))
/-! laws.FnExactGetHead -/
def laws_FnExactGetHead (k : Nat) (p0 : (List Int)) : Option (Bool) := (if (decide (((List.length p0 : Nat) : Int) > 1048576)) = true then some true else ((laws_toByteS k p0).bind fun t1 => ((spec_GetHead k t1).bind fun t5 => ((laws_toByteS k p0).bind fun t8 => ((impl_GetHead k t8).bind fun t12 => ((laws_eqHead t12.1 t5.1).bind fun t15 => (if ((!t15) || (!(t12.2 == t5.2))) = true then some false else ((laws_toByteS k p0).bind fun t17 => ((laws_eqByteS k t8 t17).bind fun t21 => (if (!t21) = true then some false else some true))))))))))
end Go.Proofs.Sx
