import Derived.Test.YteeiibdkpdaniaaLK
import Derived.Test.YteeiibdkpdaniaaLM
import Derived.KernelRfl
namespace Go.Proofs.Sx
open Go.RowKit
set_option linter.unusedVariables false
set_option linter.unusedSimpArgs false
set_option maxRecDepth 20000
set_option maxHeartbeats 1000000
structure TBox where
  X0 : Int
  Y0 : Int
  X1 : Int
  Y1 : Int
  deriving DecidableEq, Inhabited
structure TEntry where
  N : Int
  R : TBox
  deriving DecidableEq, Inhabited
structure TNode where
  Leaf : Bool
  L : (List TEntry)
  deriving DecidableEq, Inhabited
structure TChange where
  Page : Int
  N : TNode
  deriving DecidableEq, Inhabited
structure TTx where
  Seq : Int
  Root : Int
  Size : Int
  Puts : (List TChange)
  deriving DecidableEq, Inhabited

/-! laws.toByteS -/
def laws_toByteS_b0 (p0 : (List Int)) : ((List Int) × Int) → Option (Nx ((List Int) × Int) ((List Int)))
  | (l9, i10) => (if (decide (i10 < ((List.length p0 : Nat) : Int))) = true then (if (0 : Int) ≤ i10 ∧ i10 < ((List.length p0 : Nat) : Int) then (if (0 : Int) ≤ i10 ∧ i10 < ((List.length l9 : Nat) : Int) then ((some (List.set l9 (Int.toNat i10) (gt p0 i10))).bind fun l18 => some (.next (l18, (wrap64 (i10 + 1))))) else none) else none) else some (.out (l9, i10)))
def laws_toByteS (k : Nat) (p0 : (List Int)) : Option ((List Int)) := (if (0 : Int) ≤ ((List.length p0 : Nat) : Int) ∧ okLen (Int.toNat ((List.length p0 : Nat) : Int)) = true then ((loopM (laws_toByteS_b0 p0) k ((List.replicate (Int.toNat ((List.length p0 : Nat) : Int)) (0 : Int)), 0)).bind fun o21 => match o21 with | .out (l22, i23) => some l22 | .ret r => some r | .next _ => none) else none)
/-! spec.Get2 -/
def spec_Get2 (p0 : (List Int)) (p1 : Int) : Option (Int × Bool) := (if ((decide (p1 < 0)) || (decide (p1 > (wrap64 (((List.length p0 : Nat) : Int) - 2))))) = true then some (0, false) else (if (0 : Int) ≤ p1 ∧ p1 < ((List.length p0 : Nat) : Int) then (if (0 : Int) ≤ (wrap64 (p1 + 1)) ∧ (wrap64 (p1 + 1)) < ((List.length p0 : Nat) : Int) then some ((wrap64 ((wrap64 (256 * (IntKind.i64.wrap (gt p0 p1)))) + (IntKind.i64.wrap (gt p0 (wrap64 (p1 + 1)))))), true) else none) else none))
/-! spec.l1In -/
def spec_l1In (p0 : Int) (p1 : Int) (p2 : Int) : Option (Bool) := some ((decide (p0 ≥ p1)) && (decide (p0 ≤ p2)))
/-! spec.BoxOk -/
def spec_BoxOk (p0 : TBox) : Option (Bool) := ((spec_l1In p0.X0 0 255).bind fun t2 => (((if t2 = true then ((spec_l1In p0.Y0 0 255).bind fun t5 => some t5) else some false)).bind fun c7 => (((if c7 = true then ((spec_l1In p0.X1 p0.X0 255).bind fun t10 => some t10) else some false)).bind fun c12 => (((if c12 = true then ((spec_l1In p0.Y1 p0.Y0 255).bind fun t15 => some t15) else some false)).bind fun c17 => some c17))))
/-! spec.EntryAt -/
def spec_EntryAt_b0 (p0 : (List TEntry)) (p1 : Int) : Int → Option (Nx (Int) (Int))
  | i2 => (if (decide (i2 < ((List.length p0 : Nat) : Int))) = true then (if (0 : Int) ≤ i2 ∧ i2 < ((List.length p0 : Nat) : Int) then (if (decide (((gt p0 i2).N) = p1)) = true then some (.ret i2) else some (.next (wrap64 (i2 + 1)))) else none) else some (.out i2))
def spec_EntryAt (k : Nat) (p0 : (List TEntry)) (p1 : Int) : Option (Int) := ((loopM (spec_EntryAt_b0 p0 p1) k 0).bind fun o5 => match o5 with | .out i6 => some (-1) | .ret r => some r | .next _ => none)
/-! spec.NodeOk -/
def spec_NodeOk_b0 (k : Nat) (p0 : TNode) : Int → Option (Nx (Int) (Bool))
  | i27 => (if (decide (i27 < ((List.length p0.L : Nat) : Int))) = true then (if (0 : Int) ≤ i27 ∧ i27 < ((List.length p0.L : Nat) : Int) then ((spec_BoxOk ((gt p0.L i27).R)).bind fun t55 => (((if (!t55) = true then some true else ((spec_EntryAt k p0.L ((gt p0.L i27).N)).bind fun t58 => some (!decide (t58 = i27))))).bind fun c60 => (((if c60 = true then some true else (((if p0.Leaf = true then ((spec_l1In ((gt p0.L i27).N) 1 999).bind fun t64 => some (!t64)) else some false)).bind fun c66 => some c66))).bind fun c68 => (((if c68 = true then some true else (((if (!p0.Leaf) = true then ((spec_l1In ((gt p0.L i27).N) 0 47).bind fun t72 => some (!t72)) else some false)).bind fun c74 => some c74))).bind fun c76 => (if c76 = true then some (.ret false) else some (.next (wrap64 (i27 + 1)))))))) else none) else some (.out i27))
def spec_NodeOk (k : Nat) (p0 : TNode) : Option (Bool) := ((loopM (spec_NodeOk_b0 k p0) k 0).bind fun o78 => match o78 with | .out i79 => some ((decide (((List.length p0.L : Nat) : Int) ≤ 4)) && (p0.Leaf || (decide (((List.length p0.L : Nat) : Int) > 0)))) | .ret r => some r | .next _ => none)
/-! spec.TxOk -/
def spec_TxOk_b0 (p0 : TTx) : Int → Option (Nx (Int) (Bool))
  | i33 => (if (decide (i33 < 0)) = true then (if (0 : Int) ≤ i33 ∧ i33 < ((List.length p0.Puts : Nat) : Int) then (if (0 : Int) ≤ 0 ∧ 0 < ((List.length p0.Puts : Nat) : Int) then (if (decide (((gt p0.Puts i33).Page) = ((gt p0.Puts 0).Page))) = true then some (.ret false) else some (.next (wrap64 (i33 + 1)))) else none) else none) else some (.out i33))
def spec_TxOk_b1 (p0 : TTx) (i59 : Int) : Int → Option (Nx (Int) (Bool))
  | i91 => (if (decide (i91 < i59)) = true then (if (0 : Int) ≤ i91 ∧ i91 < ((List.length p0.Puts : Nat) : Int) then (if (0 : Int) ≤ i59 ∧ i59 < ((List.length p0.Puts : Nat) : Int) then (if (decide (((gt p0.Puts i91).Page) = ((gt p0.Puts i59).Page))) = true then some (.ret false) else some (.next (wrap64 (i91 + 1)))) else none) else none) else some (.out i91))
def spec_TxOk_b3 (p0 : TTx) (i59 : Int) : Int → Option (Nx (Int) (Bool))
  | i148 => (if (decide (i148 < i59)) = true then (if (0 : Int) ≤ i148 ∧ i148 < ((List.length p0.Puts : Nat) : Int) then (if (0 : Int) ≤ i59 ∧ i59 < ((List.length p0.Puts : Nat) : Int) then (if (decide (((gt p0.Puts i148).Page) = ((gt p0.Puts i59).Page))) = true then some (.ret false) else some (.next (wrap64 (i148 + 1)))) else none) else none) else some (.out i148))
def spec_TxOk_b2 (k : Nat) (p0 : TTx) : Int → Option (Nx (Int) (Bool))
  | i59 => (if (decide (i59 < ((List.length p0.Puts : Nat) : Int))) = true then (if (0 : Int) ≤ i59 ∧ i59 < ((List.length p0.Puts : Nat) : Int) then ((spec_l1In ((gt p0.Puts i59).Page) 0 (wrap64 (p0.Size - 1))).bind fun t123 => (((if (!t123) = true then some true else (if (0 : Int) ≤ i59 ∧ i59 < ((List.length p0.Puts : Nat) : Int) then ((spec_NodeOk k ((gt p0.Puts i59).N)).bind fun t132 => some (!t132)) else none))).bind fun c135 => (if c135 = true then some (.ret false) else ((loopM (spec_TxOk_b3 p0 i59) k 0).bind fun o171 => match o171 with | .out i172 => some (.next (wrap64 (i59 + 1))) | .ret r => some (.ret r) | .next _ => none)))) else none) else some (.out i59))
def spec_TxOk (k : Nat) (p0 : TTx) : Option (Bool) := ((loopM (spec_TxOk_b2 k p0) k 0).bind fun o174 => match o174 with | .out i175 => ((spec_l1In p0.Seq 1 65535).bind fun t176 => (((if t176 = true then ((spec_l1In p0.Size 1 48).bind fun t179 => some t179) else some false)).bind fun c181 => (((if c181 = true then ((spec_l1In p0.Root 0 (wrap64 (p0.Size - 1))).bind fun t184 => some t184) else some false)).bind fun c186 => some c186))) | .ret r => some r | .next _ => none)
/-! spec.GetEnd -/
def spec_GetEnd_b0 (p1 : (List Int)) : Int → Option (Nx (Int) (TTx × Int × Bool))
  | i15 => (if (decide (i15 < ((List.length p1 : Nat) : Int))) = true then (if (0 : Int) ≤ i15 ∧ i15 < ((List.length p1 : Nat) : Int) then (if (!decide ((gt p1 i15) = 0)) = true then some (.ret ((⟨0, 0, 0, ([] : (List TChange))⟩ : TTx), 0, false)) else some (.next (wrap64 (i15 + 1)))) else none) else some (.out i15))
def spec_GetEnd (k : Nat) (p0 : Int) (p1 : (List Int)) : Option (TTx × Int × Bool) := (((if (!decide (((List.length p1 : Nat) : Int) = 32)) = true then some true else (if (0 : Int) ≤ 0 ∧ 0 < ((List.length p1 : Nat) : Int) then some (!decide ((gt p1 0) = 2)) else none))).bind fun c4 => (if c4 = true then some ((⟨0, 0, 0, ([] : (List TChange))⟩ : TTx), 0, false) else ((spec_Get2 p1 1).bind fun t6 => ((spec_Get2 p1 3).bind fun t8 => (if (0 : Int) ≤ 5 ∧ 5 < ((List.length p1 : Nat) : Int) then (if (0 : Int) ≤ 6 ∧ 6 < ((List.length p1 : Nat) : Int) then ((loopM (spec_GetEnd_b0 p1) k 8).bind fun o18 => match o18 with | .out i19 => (((if (!decide (t6.1 = p0)) = true then some true else ((spec_TxOk k (⟨t8.1, (IntKind.i64.wrap (gt p1 5)), (IntKind.i64.wrap (gt p1 6)), ([] : (List TChange))⟩ : TTx)).bind fun t22 => some (!t22)))).bind fun c24 => (((if c24 = true then some true else (if (0 : Int) ≤ 7 ∧ 7 < ((List.length p1 : Nat) : Int) then some (decide ((IntKind.i64.wrap (gt p1 7)) > (IntKind.i64.wrap (gt p1 6)))) else none))).bind fun c30 => (if c30 = true then some ((⟨0, 0, 0, ([] : (List TChange))⟩ : TTx), 0, false) else (if (0 : Int) ≤ 7 ∧ 7 < ((List.length p1 : Nat) : Int) then some ((⟨t8.1, (IntKind.i64.wrap (gt p1 5)), (IntKind.i64.wrap (gt p1 6)), ([] : (List TChange))⟩ : TTx), (IntKind.i64.wrap (gt p1 7)), true) else none)))) | .ret r => some r | .next _ => none) else none) else none)))))
/-! impl.in -/
def impl_in (p0 : Int) (p1 : Int) (p2 : Int) : Option (Bool) := some ((decide (p1 ≤ p0)) && (decide (p0 ≤ p2)))
/-! impl.Get2 -/
def impl_Get2 (p0 : (List Int)) (p1 : Int) : Option (Int × Bool) := (if ((decide (p1 < 0)) || (decide (p1 > (wrap64 (((List.length p0 : Nat) : Int) - 2))))) = true then some (0, false) else (if (0 : Int) ≤ p1 ∧ p1 < ((List.length p0 : Nat) : Int) then (if (0 : Int) ≤ (wrap64 (p1 + 1)) ∧ (wrap64 (p1 + 1)) < ((List.length p0 : Nat) : Int) then some ((bits2 (· ||| ·) (wrap64 ((IntKind.i64.wrap (gt p0 p1)) * 2 ^ (min (Int.toNat 8) 64))) (IntKind.i64.wrap (gt p0 (wrap64 (p1 + 1))))), true) else none) else none))
/-! (impl.Tx).numbersOk -/
def impl_Tx_numbersOk (p0 : TTx) : Option (Bool) := ((impl_in p0.Seq 1 65535).bind fun t2 => (((if t2 = true then ((impl_in p0.Size 1 48).bind fun t5 => some t5) else some false)).bind fun c7 => (((if c7 = true then ((impl_in p0.Root 0 (wrap64 (p0.Size - 1))).bind fun t10 => some t10) else some false)).bind fun c12 => some c12)))
/-! slices.Clone(()byte,byte) -/
def slices_Clone_byte_byte (p0 : (List Int)) : Option ((List Int)) := (if okLen (List.length p0) = true then some p0 else none)
/-! impl.Put2 -/
def impl_Put2 (p0 : (List Int)) (p1 : Int) : Option ((List Int)) := ((slices_Clone_byte_byte p0).bind fun t1 => ((impl_in p1 0 65535).bind fun t5 => (if (!t5) = true then some t1 else (if okLen (List.length t1 + List.length ([(IntKind.u8.wrap (Int.fdiv p1 (2 ^ (min (Int.toNat 8) 64)))), (IntKind.u8.wrap p1)] : (List Int))) = true then some (t1 ++ ([(IntKind.u8.wrap (Int.fdiv p1 (2 ^ (min (Int.toNat 8) 64)))), (IntKind.u8.wrap p1)] : (List Int))) else none))))
/-! impl.endCell -/
def impl_endCell (p0 : Int) (p1 : TTx) (p2 : Int) : Option ((List Int)) := ((impl_Put2 ([2] : (List Int)) p0).bind fun t5 => ((impl_Put2 t5 p1.Seq).bind fun t9 => (if okLen (List.length t9 + List.length ([(IntKind.u8.wrap p1.Root), (IntKind.u8.wrap p1.Size), (IntKind.u8.wrap p2)] : (List Int))) = true then some (t9 ++ ([(IntKind.u8.wrap p1.Root), (IntKind.u8.wrap p1.Size), (IntKind.u8.wrap p2)] : (List Int))) else none)))
/-! impl.Pad -/
def impl_Pad_b0 (p1 : Int) : (List Int) → Option (Nx ((List Int)) ((List Int)))
  | l10 => (if (decide (((List.length l10 : Nat) : Int) < p1)) = true then (if okLen (List.length l10 + List.length ([0] : (List Int))) = true then some (.next (l10 ++ ([0] : (List Int)))) else none) else some (.out l10))
def impl_Pad (k : Nat) (p0 : (List Int)) (p1 : Int) : Option ((List Int)) := ((slices_Clone_byte_byte p0).bind fun t1 => (if (decide (p1 > 64)) = true then some t1 else ((loopM (impl_Pad_b0 p1) k t1).bind fun o23 => match o23 with | .out l24 => some l24 | .ret r => some r | .next _ => none)))
/-! bytes.Equal -/
def bytes_Equal (p0 : (List Int)) (p1 : (List Int)) : Option (Bool) := some (strOfNums p0 == strOfNums p1)
/-! impl.GetEnd -/
def impl_GetEnd (k : Nat) (p0 : Int) (p1 : (List Int)) : Option (TTx × Int × Bool) := (((if (!decide (((List.length p1 : Nat) : Int) = 32)) = true then some true else ((impl_in p0 0 65535).bind fun t3 => some (!t3)))).bind fun c5 => (if c5 = true then some ((⟨0, 0, 0, ([] : (List TChange))⟩ : TTx), 0, false) else ((impl_Get2 p1 3).bind fun t7 => (if (0 : Int) ≤ 5 ∧ 5 < ((List.length p1 : Nat) : Int) then (if (0 : Int) ≤ 6 ∧ 6 < ((List.length p1 : Nat) : Int) then (if (0 : Int) ≤ 7 ∧ 7 < ((List.length p1 : Nat) : Int) then ((impl_Tx_numbersOk (⟨t7.1, (IntKind.i64.wrap (gt p1 5)), (IntKind.i64.wrap (gt p1 6)), ([] : (List TChange))⟩ : TTx)).bind fun t14 => (((if ((!t14) || (decide ((IntKind.i64.wrap (gt p1 7)) > (IntKind.i64.wrap (gt p1 6))))) = true then some true else ((impl_endCell p0 (⟨t7.1, (IntKind.i64.wrap (gt p1 5)), (IntKind.i64.wrap (gt p1 6)), ([] : (List TChange))⟩ : TTx) (IntKind.i64.wrap (gt p1 7))).bind fun t18 => ((impl_Pad k t18 32).bind fun t22 => ((bytes_Equal t22 p1).bind fun t26 => some (!t26)))))).bind fun c28 => (if c28 = true then some ((⟨0, 0, 0, ([] : (List TChange))⟩ : TTx), 0, false) else some ((⟨t7.1, (IntKind.i64.wrap (gt p1 5)), (IntKind.i64.wrap (gt p1 6)), ([] : (List TChange))⟩ : TTx), (IntKind.i64.wrap (gt p1 7)), true)))) else none) else none) else none))))
/-! laws.eqBox -/
def laws_eqBox (p0 : TBox) (p1 : TBox) : Option (Bool) := (if (!decide (p0.X0 = p1.X0)) = true then some false else (if (!decide (p0.Y0 = p1.Y0)) = true then some false else (if (!decide (p0.X1 = p1.X1)) = true then some false else (if (!decide (p0.Y1 = p1.Y1)) = true then some false else some true))))
/-! laws.eqEntry -/
def laws_eqEntry (p0 : TEntry) (p1 : TEntry) : Option (Bool) := (if (!decide (p0.N = p1.N)) = true then some false else ((laws_eqBox p0.R p1.R).bind fun t3 => (if (!t3) = true then some false else some true)))
/-! laws.eqEntryS -/
def laws_eqEntryS_b0 (p0 : (List TEntry)) (p1 : (List TEntry)) : Int → Option (Nx (Int) (Bool))
  | i6 => (if (decide (i6 < ((List.length p0 : Nat) : Int))) = true then (if (0 : Int) ≤ i6 ∧ i6 < ((List.length p0 : Nat) : Int) then (if (0 : Int) ≤ i6 ∧ i6 < ((List.length p1 : Nat) : Int) then ((laws_eqEntry (gt p0 i6) (gt p1 i6)).bind fun t15 => (if (!t15) = true then some (.ret false) else some (.next (wrap64 (i6 + 1))))) else none) else none) else some (.out i6))
def laws_eqEntryS (k : Nat) (p0 : (List TEntry)) (p1 : (List TEntry)) : Option (Bool) := (if (!decide (((List.length p0 : Nat) : Int) = ((List.length p1 : Nat) : Int))) = true then some false else ((loopM (laws_eqEntryS_b0 p0 p1) k 0).bind fun o17 => match o17 with | .out i18 => some true | .ret r => some r | .next _ => none))
/-! laws.eqNode -/
def laws_eqNode (k : Nat) (p0 : TNode) (p1 : TNode) : Option (Bool) := (if (!(p0.Leaf == p1.Leaf)) = true then some false else ((laws_eqEntryS k p0.L p1.L).bind fun t3 => (if (!t3) = true then some false else some true)))
/-! laws.eqChange -/
def laws_eqChange (k : Nat) (p0 : TChange) (p1 : TChange) : Option (Bool) := (if (!decide (p0.Page = p1.Page)) = true then some false else ((laws_eqNode k p0.N p1.N).bind fun t3 => (if (!t3) = true then some false else some true)))
/-! laws.eqChangeS -/
def laws_eqChangeS_b0 (k : Nat) (p0 : (List TChange)) (p1 : (List TChange)) : Int → Option (Nx (Int) (Bool))
  | i14 => (if (decide (i14 < ((List.length p0 : Nat) : Int))) = true then (if (0 : Int) ≤ i14 ∧ i14 < ((List.length p0 : Nat) : Int) then (if (0 : Int) ≤ i14 ∧ i14 < ((List.length p1 : Nat) : Int) then ((laws_eqChange k (gt p0 i14) (gt p1 i14)).bind fun t39 => (if (!t39) = true then some (.ret false) else some (.next (wrap64 (i14 + 1))))) else none) else none) else some (.out i14))
def laws_eqChangeS (k : Nat) (p0 : (List TChange)) (p1 : (List TChange)) : Option (Bool) := (if (!decide (((List.length p0 : Nat) : Int) = ((List.length p1 : Nat) : Int))) = true then some false else ((loopM (laws_eqChangeS_b0 k p0 p1) k 0).bind fun o41 => match o41 with | .out i42 => some true | .ret r => some r | .next _ => none))
/-! laws.eqTx -/
def laws_eqTx (k : Nat) (p0 : TTx) (p1 : TTx) : Option (Bool) := (if (!decide (p0.Seq = p1.Seq)) = true then some false else (if (!decide (p0.Root = p1.Root)) = true then some false else (if (!decide (p0.Size = p1.Size)) = true then some false else ((laws_eqChangeS k p0.Puts p1.Puts).bind fun t3 => (if (!t3) = true then some false else some true)))))
/-! laws.eqByteS -/
def laws_eqByteS_b0 (p0 : (List Int)) (p1 : (List Int)) : Int → Option (Nx (Int) (Bool))
  | i4 => (if (decide (i4 < ((List.length p0 : Nat) : Int))) = true then (if (0 : Int) ≤ i4 ∧ i4 < ((List.length p0 : Nat) : Int) then (if (0 : Int) ≤ i4 ∧ i4 < ((List.length p1 : Nat) : Int) then (if (!decide ((gt p0 i4) = (gt p1 i4))) = true then some (.ret false) else some (.next (wrap64 (i4 + 1)))) else none) else none) else some (.out i4))
def laws_eqByteS (k : Nat) (p0 : (List Int)) (p1 : (List Int)) : Option (Bool) := (if (!decide (((List.length p0 : Nat) : Int) = ((List.length p1 : Nat) : Int))) = true then some false else ((loopM (laws_eqByteS_b0 p0 p1) k 0).bind fun o11 => match o11 with | .out i12 => some true | .ret r => some r | .next _ => none))
/-! laws.markByteS -/
def laws_markByteS_b0 : ((List Int) × Int × Int) → Option (Nx ((List Int) × Int × Int) (Int × (List Int)))
  | (l5, i6, i7) => (if (decide (i7 < ((List.length l5 : Nat) : Int))) = true then (if (0 : Int) ≤ i7 ∧ i7 < ((List.length l5 : Nat) : Int) then ((some (List.set l5 (Int.toNat i7) (IntKind.u8.wrap i6))).bind fun l13 => some (.next (l13, (wrap64 (i6 + 1)), (wrap64 (i7 + 1))))) else none) else some (.out (l5, i6, i7)))
def laws_markByteS (k : Nat) (p0 : (List Int)) (p1 : Int) : Option (Int × (List Int)) := ((loopM (laws_markByteS_b0) k (p0, p1, 0)).bind fun o16 => match o16 with | .out (l17, i18, i19) => some (i18, l17) | .ret r => some r | .next _ => none)
/-! laws.markEntryS -/
def laws_markEntryS_b0 : ((List TEntry) × Int × Int) → Option (Nx ((List TEntry) × Int × Int) (Int × (List TEntry)))
  | (l21, i22, i23) => (if (decide (i23 < ((List.length l21 : Nat) : Int))) = true then (if (0 : Int) ≤ i23 ∧ i23 < ((List.length l21 : Nat) : Int) then ((some (List.set l21 (Int.toNat i23) (⟨i22, (gt l21 i23).R⟩ : TEntry))).bind fun l45 => (if (0 : Int) ≤ i23 ∧ i23 < ((List.length l45 : Nat) : Int) then ((some (List.set l45 (Int.toNat i23) (⟨(gt l45 i23).N, (⟨(wrap64 (i22 + 1)), (gt l45 i23).R.Y0, (gt l45 i23).R.X1, (gt l45 i23).R.Y1⟩ : TBox)⟩ : TEntry))).bind fun l49 => (if (0 : Int) ≤ i23 ∧ i23 < ((List.length l49 : Nat) : Int) then ((some (List.set l49 (Int.toNat i23) (⟨(gt l49 i23).N, (⟨(gt l49 i23).R.X0, (wrap64 ((wrap64 (i22 + 1)) + 1)), (gt l49 i23).R.X1, (gt l49 i23).R.Y1⟩ : TBox)⟩ : TEntry))).bind fun l53 => (if (0 : Int) ≤ i23 ∧ i23 < ((List.length l53 : Nat) : Int) then ((some (List.set l53 (Int.toNat i23) (⟨(gt l53 i23).N, (⟨(gt l53 i23).R.X0, (gt l53 i23).R.Y0, (wrap64 ((wrap64 ((wrap64 (i22 + 1)) + 1)) + 1)), (gt l53 i23).R.Y1⟩ : TBox)⟩ : TEntry))).bind fun l57 => (if (0 : Int) ≤ i23 ∧ i23 < ((List.length l57 : Nat) : Int) then ((some (List.set l57 (Int.toNat i23) (⟨(gt l57 i23).N, (⟨(gt l57 i23).R.X0, (gt l57 i23).R.Y0, (gt l57 i23).R.X1, (wrap64 ((wrap64 ((wrap64 ((wrap64 (i22 + 1)) + 1)) + 1)) + 1))⟩ : TBox)⟩ : TEntry))).bind fun l61 => some (.next (l61, (wrap64 ((wrap64 ((wrap64 ((wrap64 ((wrap64 (i22 + 1)) + 1)) + 1)) + 1)) + 1)), (wrap64 (i23 + 1))))) else none)) else none)) else none)) else none)) else none) else some (.out (l21, i22, i23)))
def laws_markEntryS (k : Nat) (p0 : (List TEntry)) (p1 : Int) : Option (Int × (List TEntry)) := ((loopM (laws_markEntryS_b0) k (p0, p1, 0)).bind fun o64 => match o64 with | .out (l65, i66, i67) => some (i66, l65) | .ret r => some r | .next _ => none)
/-! laws.markChangeS -/
def laws_markChangeS_b0 (k : Nat) : ((List TChange) × Int × Int) → Option (Nx ((List TChange) × Int × Int) (Int × (List TChange)))
  | (l15, i16, i17) => (if (decide (i17 < ((List.length l15 : Nat) : Int))) = true then (if (0 : Int) ≤ i17 ∧ i17 < ((List.length l15 : Nat) : Int) then ((some (List.set l15 (Int.toNat i17) (⟨i16, (gt l15 i17).N⟩ : TChange))).bind fun l33 => (if (0 : Int) ≤ i17 ∧ i17 < ((List.length l33 : Nat) : Int) then ((some (List.set l33 (Int.toNat i17) (⟨(gt l33 i17).Page, (⟨(decide ((Int.tmod (wrap64 (i16 + 1)) 3) = 0)), (gt l33 i17).N.L⟩ : TNode)⟩ : TChange))).bind fun l37 => (if (0 : Int) ≤ i17 ∧ i17 < ((List.length l37 : Nat) : Int) then ((laws_markEntryS k ((gt l37 i17).N.L) (wrap64 ((wrap64 (i16 + 1)) + 1))).bind fun t43 => (if List.length t43.2 = List.length ((gt l37 i17).N.L) then some (.next ((List.set l37 (Int.toNat i17) (⟨(gt l37 i17).Page, (⟨(gt l37 i17).N.Leaf, t43.2⟩ : TNode)⟩ : TChange)), t43.1, (wrap64 (i17 + 1)))) else none)) else none)) else none)) else none) else some (.out (l15, i16, i17)))
def laws_markChangeS (k : Nat) (p0 : (List TChange)) (p1 : Int) : Option (Int × (List TChange)) := ((loopM (laws_markChangeS_b0 k) k (p0, p1, 0)).bind fun o46 => match o46 with | .out (l47, i48, i49) => some (i48, l47) | .ret r => some r | .next _ => none)
/-! laws.markTx -/
def laws_markTx (k : Nat) (p0 : TTx) (p1 : Int) : Option (Int × (List TChange)) := ((laws_markChangeS k p0.Puts p1).bind fun t2 => (if List.length t2.2 = List.length p0.Puts then some (t2.1, t2.2) else none))
/-! laws.heldEntryS -/
def laws_heldEntryS_b0 (p0 : (List TEntry)) : (Int × Int) → Option (Nx (Int × Int) (Int))
  | (i6, i7) => (if (decide (i7 < ((List.length p0 : Nat) : Int))) = true then (if (0 : Int) ≤ i7 ∧ i7 < ((List.length p0 : Nat) : Int) then (if (!decide (((gt p0 i7).N) = i6)) = true then some (.ret (-1)) else (if (0 : Int) ≤ i7 ∧ i7 < ((List.length p0 : Nat) : Int) then (if (!decide (((gt p0 i7).R.X0) = (wrap64 (i6 + 1)))) = true then some (.ret (-1)) else (if (0 : Int) ≤ i7 ∧ i7 < ((List.length p0 : Nat) : Int) then (if (!decide (((gt p0 i7).R.Y0) = (wrap64 ((wrap64 (i6 + 1)) + 1)))) = true then some (.ret (-1)) else (if (0 : Int) ≤ i7 ∧ i7 < ((List.length p0 : Nat) : Int) then (if (!decide (((gt p0 i7).R.X1) = (wrap64 ((wrap64 ((wrap64 (i6 + 1)) + 1)) + 1)))) = true then some (.ret (-1)) else (if (0 : Int) ≤ i7 ∧ i7 < ((List.length p0 : Nat) : Int) then (if (!decide (((gt p0 i7).R.Y1) = (wrap64 ((wrap64 ((wrap64 ((wrap64 (i6 + 1)) + 1)) + 1)) + 1)))) = true then some (.ret (-1)) else some (.next ((wrap64 ((wrap64 ((wrap64 ((wrap64 ((wrap64 (i6 + 1)) + 1)) + 1)) + 1)) + 1)), (wrap64 (i7 + 1))))) else none)) else none)) else none)) else none)) else none) else some (.out (i6, i7)))
def laws_heldEntryS (k : Nat) (p0 : (List TEntry)) (p1 : Int) : Option (Int) := ((loopM (laws_heldEntryS_b0 p0) k (p1, 0)).bind fun o18 => match o18 with | .out (i19, i20) => some i19 | .ret r => some r | .next _ => none)
/-! laws.heldChangeS -/
def laws_heldChangeS_b0 (k : Nat) (p0 : (List TChange)) : (Int × Int) → Option (Nx (Int × Int) (Int))
  | (i18, i19) => (if (decide (i19 < ((List.length p0 : Nat) : Int))) = true then (if (0 : Int) ≤ i19 ∧ i19 < ((List.length p0 : Nat) : Int) then (if (!decide (((gt p0 i19).Page) = i18)) = true then some (.ret (-1)) else (if (0 : Int) ≤ i19 ∧ i19 < ((List.length p0 : Nat) : Int) then (if (!(((gt p0 i19).N.Leaf) == (decide ((Int.tmod (wrap64 (i18 + 1)) 3) = 0)))) = true then some (.ret (-1)) else (if (0 : Int) ≤ i19 ∧ i19 < ((List.length p0 : Nat) : Int) then ((laws_heldEntryS k ((gt p0 i19).N.L) (wrap64 ((wrap64 (i18 + 1)) + 1))).bind fun t52 => (if (decide (t52 < 0)) = true then some (.ret (-1)) else some (.next (t52, (wrap64 (i19 + 1)))))) else none)) else none)) else none) else some (.out (i18, i19)))
def laws_heldChangeS (k : Nat) (p0 : (List TChange)) (p1 : Int) : Option (Int) := ((loopM (laws_heldChangeS_b0 k p0) k (p1, 0)).bind fun o54 => match o54 with | .out (i55, i56) => some i55 | .ret r => some r | .next _ => none)
/-! laws.heldTx -/
def laws_heldTx (k : Nat) (p0 : TTx) (p1 : Int) : Option (Int) := ((laws_heldChangeS k p0.Puts p1).bind fun t2 => (if (decide (t2 < 0)) = true then some (-1) else some t2))
/-! laws.FnExactGetEnd -/
def laws_FnExactGetEnd (k : Nat) (p0 : Int) (p1 : (List Int)) : Option (Bool) := (if (decide (((List.length p1 : Nat) : Int) > 1048576)) = true then some true else ((laws_toByteS k p1).bind fun t1 => ((spec_GetEnd k p0 t1).bind fun t5 => ((laws_toByteS k p1).bind fun t10 => ((impl_GetEnd k p0 t10).bind fun t14 => ((laws_eqTx k t14.1 t5.1).bind fun t19 => (if (((!t19) || (!decide (t14.2.1 = t5.2.1))) || (!(t14.2.2 == t5.2.2))) = true then some false else ((laws_toByteS k p1).bind fun t23 => ((laws_eqByteS k t10 t23).bind fun t27 => (if (!t27) = true then some false else ((laws_markByteS k t10 1).bind fun t29 => (if List.length t29.2 = List.length t10 then (((if (decide (t29.1 < 0)) = true then some true else ((laws_eqTx k t14.1 t5.1).bind fun t33 => some (!t33)))).bind fun c35 => (if ((c35 || (!decide (t14.2.1 = t5.2.1))) || (!(t14.2.2 == t5.2.2))) = true then some false else ((laws_markTx k t14.1 1).bind fun t39 => (if List.length t39.2 = List.length t14.1.Puts then ((laws_heldTx k (⟨t14.1.Seq, t14.1.Root, t14.1.Size, t39.2⟩ : TTx) 1).bind fun t42 => (if (decide (t42 < 0)) = true then some false else (if (!decide (t42 = t39.1)) = true then some false else ((laws_toByteS k p1).bind fun t44 => ((impl_GetEnd k p0 t44).bind fun t48 => ((laws_eqTx k t48.1 t5.1).bind fun t53 => (if (((!t53) || (!decide (t48.2.1 = t5.2.1))) || (!(t48.2.2 == t5.2.2))) = true then some false else ((laws_heldTx k (⟨t14.1.Seq, t14.1.Root, t14.1.Size, t39.2⟩ : TTx) 1).bind fun t57 => (if (decide (t57 < 0)) = true then some false else (if (!decide (t57 = t39.1)) = true then some false else some true)))))))))) else none)))) else none))))))))))))
end Go.Proofs.Sx
