import Derived.Test.YtjajoekfofjeiaaLH
import Derived.KernelRfl
namespace Go.Proofs.Sx
open Go.RowKit
set_option linter.unusedVariables false
set_option linter.unusedSimpArgs false
set_option maxRecDepth 20000
set_option maxHeartbeats 1000000
structure TBox where
  X0 : Int
  Y0 : Int
  X1 : Int
  Y1 : Int
  deriving DecidableEq, Inhabited
structure TItem where
  Id : Int
  R : TBox
  deriving DecidableEq, Inhabited
structure TEntry where
  N : Int
  R : TBox
  deriving DecidableEq, Inhabited
structure TVac where
  Phase : Int
  Todo : (List Int)
  Run : (List TItem)
  Row : (List TEntry)
  Next : (List TEntry)
  Made : (List Int)
  deriving DecidableEq, Inhabited
def wfTBox (x : TBox) : Prop := wfI x.X0 ∧ wfI x.Y0 ∧ wfI x.X1 ∧ wfI x.Y1
def wfTItem (x : TItem) : Prop := wfI x.Id ∧ wfTBox x.R
def wfTEntry (x : TEntry) : Prop := wfI x.N ∧ wfTBox x.R
def wfTVac (x : TVac) : Prop := wfI x.Phase ∧ (wfL wfI) x.Todo ∧ (wfL wfTItem) x.Run ∧ (wfL wfTEntry) x.Row ∧ (wfL wfTEntry) x.Next ∧ (wfL wfI) x.Made
/-! laws.szIntS -/
def laws_szIntS (p0 : (List Int)) (p1 : Int) : Option (Int) := (if (decide ((wrap64 (p1 - ((List.length p0 : Nat) : Int))) < 0)) = true then some (-1) else some (wrap64 (p1 - ((List.length p0 : Nat) : Int))))
/-! laws.szItemS -/
def laws_szItemS (p0 : (List TItem)) (p1 : Int) : Option (Int) := (if (decide ((wrap64 (p1 - ((List.length p0 : Nat) : Int))) < 0)) = true then some (-1) else some (wrap64 (p1 - ((List.length p0 : Nat) : Int))))
/-! laws.szEntryS -/
def laws_szEntryS (p0 : (List TEntry)) (p1 : Int) : Option (Int) := (if (decide ((wrap64 (p1 - ((List.length p0 : Nat) : Int))) < 0)) = true then some (-1) else some (wrap64 (p1 - ((List.length p0 : Nat) : Int))))
/-! laws.szVac -/
def laws_szVac (p0 : TVac) (p1 : Int) : Option (Int) := ((laws_szIntS p0.Todo p1).bind fun t2 => (if (decide (t2 < 0)) = true then some (-1) else ((laws_szItemS p0.Run t2).bind fun t4 => (if (decide (t4 < 0)) = true then some (-1) else ((laws_szEntryS p0.Row t4).bind fun t6 => (if (decide (t6 < 0)) = true then some (-1) else ((laws_szEntryS p0.Next t6).bind fun t8 => (if (decide (t8 < 0)) = true then some (-1) else ((laws_szIntS p0.Made t8).bind fun t10 => (if (decide (t10 < 0)) = true then some (-1) else some t10))))))))))
/-! laws.toIntS -/
def laws_toIntS_b0 (p0 : (List Int)) : ((List Int) × Int) → Option (Nx ((List Int) × Int) ((List Int)))
  | (l6, i9) => (if (decide (i9 < ((List.length p0 : Nat) : Int))) = true then (if (0 : Int) ≤ i9 ∧ i9 < ((List.length p0 : Nat) : Int) then (if (0 : Int) ≤ i9 ∧ i9 < ((List.length l6 : Nat) : Int) then some (.next ((List.set l6 (Int.toNat i9) (gt p0 i9)), (wrap64 (i9 + 1)))) else none) else none) else some (.out (l6, i9)))
def laws_toIntS (k : Nat) (p0 : (List Int)) : Option ((List Int)) := (if (0 : Int) ≤ ((List.length p0 : Nat) : Int) ∧ okLen (Int.toNat ((List.length p0 : Nat) : Int)) = true then ((loopM (laws_toIntS_b0 p0) k ((List.replicate (Int.toNat ((List.length p0 : Nat) : Int)) (0 : Int)), 0)).bind fun o14 => match o14 with | .out (l15, i18) => some l15 | .ret r => some r | .next _ => none) else none)
/-! laws.toBox -/
def laws_toBox (p0 : TBox) : Option (TBox) := some p0
/-! laws.toItem -/
def laws_toItem (p0 : TItem) : Option (TItem) := ((laws_toBox p0.R).bind fun t4 => some (⟨p0.Id, t4⟩ : TItem))
/-! laws.toItemS -/
def laws_toItemS_b0 (p0 : (List TItem)) : ((List TItem) × Int) → Option (Nx ((List TItem) × Int) ((List TItem)))
  | (l8, i11) => (if (decide (i11 < ((List.length p0 : Nat) : Int))) = true then (if (0 : Int) ≤ i11 ∧ i11 < ((List.length p0 : Nat) : Int) then ((laws_toItem (gt p0 i11)).bind fun t17 => (if (0 : Int) ≤ i11 ∧ i11 < ((List.length l8 : Nat) : Int) then some (.next ((List.set l8 (Int.toNat i11) t17), (wrap64 (i11 + 1)))) else none)) else none) else some (.out (l8, i11)))
def laws_toItemS (k : Nat) (p0 : (List TItem)) : Option ((List TItem)) := (if (0 : Int) ≤ ((List.length p0 : Nat) : Int) ∧ okLen (Int.toNat ((List.length p0 : Nat) : Int)) = true then ((loopM (laws_toItemS_b0 p0) k ((List.replicate (Int.toNat ((List.length p0 : Nat) : Int)) (⟨(0 : Int), (⟨(0 : Int), (0 : Int), (0 : Int), (0 : Int)⟩ : TBox)⟩ : TItem)), 0)).bind fun o20 => match o20 with | .out (l21, i24) => some l21 | .ret r => some r | .next _ => none) else none)
/-! laws.toEntry -/
def laws_toEntry (p0 : TEntry) : Option (TEntry) := ((laws_toBox p0.R).bind fun t4 => some (⟨p0.N, t4⟩ : TEntry))
/-! laws.toEntryS -/
def laws_toEntryS_b0 (p0 : (List TEntry)) : ((List TEntry) × Int) → Option (Nx ((List TEntry) × Int) ((List TEntry)))
  | (l8, i11) => (if (decide (i11 < ((List.length p0 : Nat) : Int))) = true then (if (0 : Int) ≤ i11 ∧ i11 < ((List.length p0 : Nat) : Int) then ((laws_toEntry (gt p0 i11)).bind fun t17 => (if (0 : Int) ≤ i11 ∧ i11 < ((List.length l8 : Nat) : Int) then some (.next ((List.set l8 (Int.toNat i11) t17), (wrap64 (i11 + 1)))) else none)) else none) else some (.out (l8, i11)))
def laws_toEntryS (k : Nat) (p0 : (List TEntry)) : Option ((List TEntry)) := (if (0 : Int) ≤ ((List.length p0 : Nat) : Int) ∧ okLen (Int.toNat ((List.length p0 : Nat) : Int)) = true then ((loopM (laws_toEntryS_b0 p0) k ((List.replicate (Int.toNat ((List.length p0 : Nat) : Int)) (⟨(0 : Int), (⟨(0 : Int), (0 : Int), (0 : Int), (0 : Int)⟩ : TBox)⟩ : TEntry)), 0)).bind fun o20 => match o20 with | .out (l21, i24) => some l21 | .ret r => some r | .next _ => none) else none)
/-! laws.toVac -/
def laws_toVac (k : Nat) (p0 : TVac) : Option (TVac) := ((laws_toIntS k p0.Todo).bind fun t4 => ((laws_toItemS k p0.Run).bind fun t8 => ((laws_toEntryS k p0.Row).bind fun t12 => ((laws_toEntryS k p0.Next).bind fun t16 => ((laws_toIntS k p0.Made).bind fun t20 => some (⟨p0.Phase, t4, t8, t12, t16, t20⟩ : TVac))))))
/-! spec.l1In -/
def spec_l1In (p0 : Int) (p1 : Int) (p2 : Int) : Option (Bool) := some ((decide (p0 ≥ p1)) && (decide (p0 ≤ p2)))
/-! spec.Busy -/
def spec_Busy (p0 : TVac) : Option (Bool) := ((spec_l1In p0.Phase 1 6).bind fun t2 => some t2)
/-! impl.in -/
def impl_in (p0 : Int) (p1 : Int) (p2 : Int) : Option (Bool) := some ((decide (p1 ≤ p0)) && (decide (p0 ≤ p2)))
/-! impl.Busy -/
def impl_Busy (p0 : TVac) : Option (Bool) := ((impl_in p0.Phase 1 6).bind fun t2 => some t2)
/-! laws.eqIntS -/
def laws_eqIntS_b0 (p0 : (List Int)) (p1 : (List Int)) : Int → Option (Nx (Int) (Bool))
  | i4 => (if (decide (i4 < ((List.length p0 : Nat) : Int))) = true then (if (0 : Int) ≤ i4 ∧ i4 < ((List.length p0 : Nat) : Int) then (if (0 : Int) ≤ i4 ∧ i4 < ((List.length p1 : Nat) : Int) then (if (!decide ((gt p0 i4) = (gt p1 i4))) = true then some (.ret false) else some (.next (wrap64 (i4 + 1)))) else none) else none) else some (.out i4))
def laws_eqIntS (k : Nat) (p0 : (List Int)) (p1 : (List Int)) : Option (Bool) := (if (!decide (((List.length p0 : Nat) : Int) = ((List.length p1 : Nat) : Int))) = true then some false else ((loopM (laws_eqIntS_b0 p0 p1) k 0).bind fun o11 => match o11 with | .out i12 => some true | .ret r => some r | .next _ => none))
/-! laws.eqBox -/
def laws_eqBox (p0 : TBox) (p1 : TBox) : Option (Bool) := (if (!decide (p0.X0 = p1.X0)) = true then some false else (if (!decide (p0.Y0 = p1.Y0)) = true then some false else (if (!decide (p0.X1 = p1.X1)) = true then some false else (if (!decide (p0.Y1 = p1.Y1)) = true then some false else some true))))
/-! laws.eqItem -/
def laws_eqItem (p0 : TItem) (p1 : TItem) : Option (Bool) := (if (!decide (p0.Id = p1.Id)) = true then some false else ((laws_eqBox p0.R p1.R).bind fun t3 => (if (!t3) = true then some false else some true)))
/-! laws.eqItemS -/
def laws_eqItemS_b0 (p0 : (List TItem)) (p1 : (List TItem)) : Int → Option (Nx (Int) (Bool))
  | i6 => (if (decide (i6 < ((List.length p0 : Nat) : Int))) = true then (if (0 : Int) ≤ i6 ∧ i6 < ((List.length p0 : Nat) : Int) then (if (0 : Int) ≤ i6 ∧ i6 < ((List.length p1 : Nat) : Int) then ((laws_eqItem (gt p0 i6) (gt p1 i6)).bind fun t15 => (if (!t15) = true then some (.ret false) else some (.next (wrap64 (i6 + 1))))) else none) else none) else some (.out i6))
def laws_eqItemS (k : Nat) (p0 : (List TItem)) (p1 : (List TItem)) : Option (Bool) := (if (!decide (((List.length p0 : Nat) : Int) = ((List.length p1 : Nat) : Int))) = true then some false else ((loopM (laws_eqItemS_b0 p0 p1) k 0).bind fun o17 => match o17 with | .out i18 => some true | .ret r => some r | .next _ => none))
/-! laws.eqEntry -/
def laws_eqEntry (p0 : TEntry) (p1 : TEntry) : Option (Bool) := (if (!decide (p0.N = p1.N)) = true then some false else ((laws_eqBox p0.R p1.R).bind fun t3 => (if (!t3) = true then some false else some true)))
/-! laws.eqEntryS -/
def laws_eqEntryS_b0 (p0 : (List TEntry)) (p1 : (List TEntry)) : Int → Option (Nx (Int) (Bool))
  | i6 => (if (decide (i6 < ((List.length p0 : Nat) : Int))) = true then (if (0 : Int) ≤ i6 ∧ i6 < ((List.length p0 : Nat) : Int) then (if (0 : Int) ≤ i6 ∧ i6 < ((List.length p1 : Nat) : Int) then ((laws_eqEntry (gt p0 i6) (gt p1 i6)).bind fun t15 => (if (!t15) = true then some (.ret false) else some (.next (wrap64 (i6 + 1))))) else none) else none) else some (.out i6))
def laws_eqEntryS (k : Nat) (p0 : (List TEntry)) (p1 : (List TEntry)) : Option (Bool) := (if (!decide (((List.length p0 : Nat) : Int) = ((List.length p1 : Nat) : Int))) = true then some false else ((loopM (laws_eqEntryS_b0 p0 p1) k 0).bind fun o17 => match o17 with | .out i18 => some true | .ret r => some r | .next _ => none))
/-! laws.eqVac -/
def laws_eqVac (k : Nat) (p0 : TVac) (p1 : TVac) : Option (Bool) := (if (!decide (p0.Phase = p1.Phase)) = true then some false else ((laws_eqIntS k p0.Todo p1.Todo).bind fun t3 => (if (!t3) = true then some false else ((laws_eqItemS k p0.Run p1.Run).bind fun t5 => (if (!t5) = true then some false else ((laws_eqEntryS k p0.Row p1.Row).bind fun t7 => (if (!t7) = true then some false else ((laws_eqEntryS k p0.Next p1.Next).bind fun t9 => (if (!t9) = true then some false else ((laws_eqIntS k p0.Made p1.Made).bind fun t11 => (if (!t11) = true then some false else some true)))))))))))
/-! laws.FnExactBusy -/
def laws_FnExactBusy (k : Nat) (p0 : TVac) : Option (Bool) := ((laws_szVac p0 1048576).bind fun t2 => (if (decide (t2 < 0)) = true then some true else ((laws_toVac k p0).bind fun t4 => ((spec_Busy t4).bind fun t16 => ((laws_toVac k p0).bind fun t18 => ((impl_Busy t18).bind fun t31 => (if (!(t31 == t16)) = true then some false else ((laws_toVac k p0).bind fun t34 => ((laws_eqVac k t18 t34).bind fun t46 => (if (!t46) = true then some false else some true))))))))))
end Go.Proofs.Sx
