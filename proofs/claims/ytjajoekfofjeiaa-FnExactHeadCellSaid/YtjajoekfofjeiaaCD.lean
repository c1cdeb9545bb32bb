import Derived.Test.YtjajoekfofjeiaaLH
import Derived.KernelRfl
namespace Go.Proofs.Sx
open Go.RowKit
set_option linter.unusedVariables false
set_option linter.unusedSimpArgs false
set_option maxRecDepth 20000
set_option maxHeartbeats 1000000
structure THead where
  Epoch : Int
  Seq : Int
  Root : Int
  Size : Int
  deriving DecidableEq, Inhabited
def wfTHead (x : THead) : Prop := wfI x.Epoch ∧ wfI x.Seq ∧ wfI x.Root ∧ wfI x.Size
/-! laws.toHead -/
def laws_toHead (p0 : THead) : Option (THead) := some p0
/-! spec.l1In -/
def spec_l1In (p0 : Int) (p1 : Int) (p2 : Int) : Option (Bool) := some ((decide (p0 ≥ p1)) && (decide (p0 ≤ p2)))
/-! spec.HeadOk -/
def spec_HeadOk (p0 : THead) : Option (Bool) := ((spec_l1In p0.Epoch 1 60000).bind fun t2 => (((if t2 = true then ((spec_l1In p0.Seq 0 65535).bind fun t4 => some t4) else some false)).bind fun c6 => (((if c6 = true then ((spec_l1In p0.Size 1 48).bind fun t8 => some t8) else some false)).bind fun c10 => (((if c10 = true then ((spec_l1In p0.Root 0 (wrap64 (p0.Size - 1))).bind fun t12 => some t12) else some false)).bind fun c14 => some c14))))
/-! spec.Put2 -/
def spec_Put2 (p0 : (List Int)) (p1 : Int) : Option ((List Int)) := (if okLen (List.length ([] : (List Int)) + List.length p0) = true then ((spec_l1In p1 0 65535).bind fun t6 => (if (!t6) = true then some (([] : (List Int)) ++ p0) else (if okLen (List.length (([] : (List Int)) ++ p0) + List.length ([(IntKind.u8.wrap (wrap64 (Int.tdiv p1 256))), (IntKind.u8.wrap (Int.tmod p1 256))] : (List Int))) = true then some ((([] : (List Int)) ++ p0) ++ ([(IntKind.u8.wrap (wrap64 (Int.tdiv p1 256))), (IntKind.u8.wrap (Int.tmod p1 256))] : (List Int))) else none))) else none)
/-! spec.HeadCell -/
def spec_HeadCell (p0 : THead) : Option ((List Int)) := ((spec_HeadOk p0).bind fun t2 => (if (!t2) = true then some ([] : (List Int)) else ((spec_Put2 ([3] : (List Int)) p0.Epoch).bind fun t9 => ((spec_Put2 t9 p0.Seq).bind fun t13 => (if okLen (List.length t13 + List.length ([(IntKind.u8.wrap p0.Root), (IntKind.u8.wrap p0.Size)] : (List Int))) = true then some (t13 ++ ([(IntKind.u8.wrap p0.Root), (IntKind.u8.wrap p0.Size)] : (List Int))) else none)))))
/-! impl.in -/
def impl_in (p0 : Int) (p1 : Int) (p2 : Int) : Option (Bool) := some ((decide (p1 ≤ p0)) && (decide (p0 ≤ p2)))
/-! impl.HeadOk -/
def impl_HeadOk (p0 : THead) : Option (Bool) := ((impl_in p0.Epoch 1 60000).bind fun t2 => (((if t2 = true then ((impl_in p0.Seq 0 65535).bind fun t4 => some t4) else some false)).bind fun c6 => (((if c6 = true then ((impl_in p0.Size 1 48).bind fun t8 => some t8) else some false)).bind fun c10 => (((if c10 = true then ((impl_in p0.Root 0 (wrap64 (p0.Size - 1))).bind fun t12 => some t12) else some false)).bind fun c14 => some c14))))
/-! slices.Clone(()byte,byte) -/
def slices_Clone_byte_byte (p0 : (List Int)) : Option ((List Int)) := (if okLen (List.length p0) = true then some p0 else none)
/-! impl.Put2 -/
def impl_Put2 (p0 : (List Int)) (p1 : Int) : Option ((List Int)) := ((slices_Clone_byte_byte p0).bind fun t1 => ((impl_in p1 0 65535).bind fun t5 => (if (!t5) = true then some t1 else (if okLen (List.length t1 + List.length ([(IntKind.u8.wrap (Int.fdiv p1 (2 ^ (min (Int.toNat 8) 64)))), (IntKind.u8.wrap p1)] : (List Int))) = true then some (t1 ++ ([(IntKind.u8.wrap (Int.fdiv p1 (2 ^ (min (Int.toNat 8) 64)))), (IntKind.u8.wrap p1)] : (List Int))) else none))))
/-! impl.HeadCell -/
def impl_HeadCell (p0 : THead) : Option ((List Int)) := ((impl_HeadOk p0).bind fun t2 => (if (!t2) = true then some ([] : (List Int)) else ((impl_Put2 ([3] : (List Int)) p0.Epoch).bind fun t7 => ((impl_Put2 t7 p0.Seq).bind fun t11 => (if okLen (List.length t11 + List.length ([(IntKind.u8.wrap p0.Root), (IntKind.u8.wrap p0.Size)] : (List Int))) = true then some (t11 ++ ([(IntKind.u8.wrap p0.Root), (IntKind.u8.wrap p0.Size)] : (List Int))) else none)))))
/-! laws.eqByteS -/
def laws_eqByteS_b0 (p0 : (List Int)) (p1 : (List Int)) : Int → Option (Nx (Int) (Bool))
  | i4 => (if (decide (i4 < ((List.length p0 : Nat) : Int))) = true then (if (0 : Int) ≤ i4 ∧ i4 < ((List.length p0 : Nat) : Int) then (if (0 : Int) ≤ i4 ∧ i4 < ((List.length p1 : Nat) : Int) then (if (!decide ((gt p0 i4) = (gt p1 i4))) = true then some (.ret false) else some (.next (wrap64 (i4 + 1)))) else none) else none) else some (.out i4))
def laws_eqByteS (k : Nat) (p0 : (List Int)) (p1 : (List Int)) : Option (Bool) := (if (!decide (((List.length p0 : Nat) : Int) = ((List.length p1 : Nat) : Int))) = true then some false else ((loopM (laws_eqByteS_b0 p0 p1) k 0).bind fun o11 => match o11 with | .out i12 => some true | .ret r => some r | .next _ => none))
/-! laws.markByteS -/
def laws_markByteS_b0 : ((List Int) × Int × Int) → Option (Nx ((List Int) × Int × Int) (Int × (List Int)))
  | (l5, i6, i7) => (if (decide (i7 < ((List.length l5 : Nat) : Int))) = true then (if (0 : Int) ≤ i7 ∧ i7 < ((List.length l5 : Nat) : Int) then ((some (List.set l5 (Int.toNat i7) (IntKind.u8.wrap i6))).bind fun l13 => some (.next (l13, (wrap64 (i6 + 1)), (wrap64 (i7 + 1))))) else none) else some (.out (l5, i6, i7)))
def laws_markByteS (k : Nat) (p0 : (List Int)) (p1 : Int) : Option (Int × (List Int)) := ((loopM (laws_markByteS_b0) k (p0, p1, 0)).bind fun o16 => match o16 with | .out (l17, i18, i19) => some (i18, l17) | .ret r => some r | .next _ => none)
/-! laws.heldByteS -/
def laws_heldByteS_b0 (p0 : (List Int)) : (Int × Int) → Option (Nx (Int × Int) (Int))
  | (i2, i3) => (if (decide (i3 < ((List.length p0 : Nat) : Int))) = true then (if (0 : Int) ≤ i3 ∧ i3 < ((List.length p0 : Nat) : Int) then (if (!decide ((gt p0 i3) = (IntKind.u8.wrap i2))) = true then some (.ret (-1)) else some (.next ((wrap64 (i2 + 1)), (wrap64 (i3 + 1))))) else none) else some (.out (i2, i3)))
def laws_heldByteS (k : Nat) (p0 : (List Int)) (p1 : Int) : Option (Int) := ((loopM (laws_heldByteS_b0 p0) k (p1, 0)).bind fun o6 => match o6 with | .out (i7, i8) => some i7 | .ret r => some r | .next _ => none)
/-! laws.FnExactHeadCell -/
def laws_FnExactHeadCell (k : Nat) (p0 : THead) : Option (Bool) := ((laws_toHead p0).bind fun t2 => ((spec_HeadCell t2).bind fun t4 => ((laws_toHead p0).bind fun t8 => ((impl_HeadCell t8).bind fun t10 => ((laws_eqByteS k t10 t4).bind fun t14 => (if (!t14) = true then some false else ((laws_markByteS k t10 1).bind fun t16 => (if List.length t16.2 = List.length t10 then ((laws_heldByteS k t16.2 1).bind fun t19 => (if (decide (t19 < 0)) = true then some false else (if (!decide (t19 = t16.1)) = true then some false else ((laws_toHead p0).bind fun t21 => ((impl_HeadCell t21).bind fun t23 => ((laws_eqByteS k t23 t4).bind fun t27 => (if (!t27) = true then some false else ((laws_heldByteS k t16.2 1).bind fun t29 => (if (decide (t29 < 0)) = true then some false else (if (!decide (t29 = t16.1)) = true then some false else some true)))))))))) else none))))))))
end Go.Proofs.Sx
