import Derived.Test.YtgfhnepkpbmbcaaLK
import Derived.Test.YtgfhnepkpbmbcaaLM
import Derived.KernelRfl
namespace Go.Proofs.Sx
open Go.RowKit
set_option linter.unusedVariables false
set_option linter.unusedSimpArgs false
set_option maxRecDepth 20000
set_option maxHeartbeats 1000000
structure TCell where
  Bad : Bool
  B : (List Int)
  deriving DecidableEq, Inhabited
structure TWet where
  At : Int
  B : (List Int)
  deriving DecidableEq, Inhabited
structure TDisk where
  Cells : (List TCell)
  Wet : (List TWet)
  Fuse : Int
  Dead : Bool
  deriving DecidableEq, Inhabited
structure TBox where
  X0 : Int
  Y0 : Int
  X1 : Int
  Y1 : Int
  deriving DecidableEq, Inhabited
structure TEntry where
  N : Int
  R : TBox
  deriving DecidableEq, Inhabited
structure TNode where
  Leaf : Bool
  L : (List TEntry)
  deriving DecidableEq, Inhabited
structure TChange where
  Page : Int
  N : TNode
  deriving DecidableEq, Inhabited
structure TTx where
  Seq : Int
  Root : Int
  Size : Int
  Puts : (List TChange)
  deriving DecidableEq, Inhabited
def wfTCell (x : TCell) : Prop := wfB x.Bad ∧ (wfL wfU8) x.B
def wfTWet (x : TWet) : Prop := wfI x.At ∧ (wfL wfU8) x.B
def wfTDisk (x : TDisk) : Prop := (wfL wfTCell) x.Cells ∧ (wfL wfTWet) x.Wet ∧ wfI x.Fuse ∧ wfB x.Dead
def wfTBox (x : TBox) : Prop := wfI x.X0 ∧ wfI x.Y0 ∧ wfI x.X1 ∧ wfI x.Y1
def wfTEntry (x : TEntry) : Prop := wfI x.N ∧ wfTBox x.R
def wfTNode (x : TNode) : Prop := wfB x.Leaf ∧ (wfL wfTEntry) x.L
def wfTChange (x : TChange) : Prop := wfI x.Page ∧ wfTNode x.N
def wfTTx (x : TTx) : Prop := wfI x.Seq ∧ wfI x.Root ∧ wfI x.Size ∧ (wfL wfTChange) x.Puts
/-! laws.szByteS -/
def laws_szByteS (p0 : (List Int)) (p1 : Int) : Option (Int) := (if (decide ((wrap64 (p1 - ((List.length p0 : Nat) : Int))) < 0)) = true then some (-1) else some (wrap64 (p1 - ((List.length p0 : Nat) : Int))))
/-! laws.szCell -/
def laws_szCell (p0 : TCell) (p1 : Int) : Option (Int) := ((laws_szByteS p0.B p1).bind fun t2 => (if (decide (t2 < 0)) = true then some (-1) else some t2))
/-! laws.szCellS -/
def laws_szCellS_b0 (p0 : (List TCell)) : (Int × Int) → Option (Nx (Int × Int) (Int))
  | (i8, i9) => (if (decide (i9 < ((List.length p0 : Nat) : Int))) = true then (if (0 : Int) ≤ i9 ∧ i9 < ((List.length p0 : Nat) : Int) then ((laws_szCell (gt p0 i9) i8).bind fun t22 => (if (decide (t22 < 0)) = true then some (.ret (-1)) else some (.next (t22, (wrap64 (i9 + 1)))))) else none) else some (.out (i8, i9)))
def laws_szCellS (k : Nat) (p0 : (List TCell)) (p1 : Int) : Option (Int) := (if (decide ((wrap64 (p1 - ((List.length p0 : Nat) : Int))) < 0)) = true then some (-1) else ((loopM (laws_szCellS_b0 p0) k ((wrap64 (p1 - ((List.length p0 : Nat) : Int))), 0)).bind fun o24 => match o24 with | .out (i25, i26) => some i25 | .ret r => some r | .next _ => none))
/-! laws.szWet -/
def laws_szWet (p0 : TWet) (p1 : Int) : Option (Int) := ((laws_szByteS p0.B p1).bind fun t2 => (if (decide (t2 < 0)) = true then some (-1) else some t2))
/-! laws.szWetS -/
def laws_szWetS_b0 (p0 : (List TWet)) : (Int × Int) → Option (Nx (Int × Int) (Int))
  | (i8, i9) => (if (decide (i9 < ((List.length p0 : Nat) : Int))) = true then (if (0 : Int) ≤ i9 ∧ i9 < ((List.length p0 : Nat) : Int) then ((laws_szWet (gt p0 i9) i8).bind fun t22 => (if (decide (t22 < 0)) = true then some (.ret (-1)) else some (.next (t22, (wrap64 (i9 + 1)))))) else none) else some (.out (i8, i9)))
def laws_szWetS (k : Nat) (p0 : (List TWet)) (p1 : Int) : Option (Int) := (if (decide ((wrap64 (p1 - ((List.length p0 : Nat) : Int))) < 0)) = true then some (-1) else ((loopM (laws_szWetS_b0 p0) k ((wrap64 (p1 - ((List.length p0 : Nat) : Int))), 0)).bind fun o24 => match o24 with | .out (i25, i26) => some i25 | .ret r => some r | .next _ => none))
/-! laws.szDisk -/
def laws_szDisk (k : Nat) (p0 : TDisk) (p1 : Int) : Option (Int) := ((laws_szCellS k p0.Cells p1).bind fun t2 => (if (decide (t2 < 0)) = true then some (-1) else ((laws_szWetS k p0.Wet t2).bind fun t4 => (if (decide (t4 < 0)) = true then some (-1) else some t4))))
/-! laws.szEntryS -/
def laws_szEntryS (p0 : (List TEntry)) (p1 : Int) : Option (Int) := (if (decide ((wrap64 (p1 - ((List.length p0 : Nat) : Int))) < 0)) = true then some (-1) else some (wrap64 (p1 - ((List.length p0 : Nat) : Int))))
/-! laws.szNode -/
def laws_szNode (p0 : TNode) (p1 : Int) : Option (Int) := ((laws_szEntryS p0.L p1).bind fun t2 => (if (decide (t2 < 0)) = true then some (-1) else some t2))
/-! laws.szChange -/
def laws_szChange (p0 : TChange) (p1 : Int) : Option (Int) := ((laws_szNode p0.N p1).bind fun t2 => (if (decide (t2 < 0)) = true then some (-1) else some t2))
/-! laws.szChangeS -/
def laws_szChangeS_b0 (p0 : (List TChange)) : (Int × Int) → Option (Nx (Int × Int) (Int))
  | (i8, i9) => (if (decide (i9 < ((List.length p0 : Nat) : Int))) = true then (if (0 : Int) ≤ i9 ∧ i9 < ((List.length p0 : Nat) : Int) then ((laws_szChange (gt p0 i9) i8).bind fun t22 => (if (decide (t22 < 0)) = true then some (.ret (-1)) else some (.next (t22, (wrap64 (i9 + 1)))))) else none) else some (.out (i8, i9)))
def laws_szChangeS (k : Nat) (p0 : (List TChange)) (p1 : Int) : Option (Int) := (if (decide ((wrap64 (p1 - ((List.length p0 : Nat) : Int))) < 0)) = true then some (-1) else ((loopM (laws_szChangeS_b0 p0) k ((wrap64 (p1 - ((List.length p0 : Nat) : Int))), 0)).bind fun o24 => match o24 with | .out (i25, i26) => some i25 | .ret r => some r | .next _ => none))
/-! laws.szTx -/
def laws_szTx (k : Nat) (p0 : TTx) (p1 : Int) : Option (Int) := ((laws_szChangeS k p0.Puts p1).bind fun t2 => (if (decide (t2 < 0)) = true then some (-1) else some t2))
/-! laws.toByteS -/
def laws_toByteS_b0 (p0 : (List Int)) : ((List Int) × Int) → Option (Nx ((List Int) × Int) ((List Int)))
  | (l9, i10) => (if (decide (i10 < ((List.length p0 : Nat) : Int))) = true then (if (0 : Int) ≤ i10 ∧ i10 < ((List.length p0 : Nat) : Int) then (if (0 : Int) ≤ i10 ∧ i10 < ((List.length l9 : Nat) : Int) then ((some (List.set l9 (Int.toNat i10) (gt p0 i10))).bind fun l18 => some (.next (l18, (wrap64 (i10 + 1))))) else none) else none) else some (.out (l9, i10)))
def laws_toByteS (k : Nat) (p0 : (List Int)) : Option ((List Int)) := (if (0 : Int) ≤ ((List.length p0 : Nat) : Int) ∧ okLen (Int.toNat ((List.length p0 : Nat) : Int)) = true then ((loopM (laws_toByteS_b0 p0) k ((List.replicate (Int.toNat ((List.length p0 : Nat) : Int)) (0 : Int)), 0)).bind fun o21 => match o21 with | .out (l22, i23) => some l22 | .ret r => some r | .next _ => none) else none)
/-! laws.toCell -/
def laws_toCell (k : Nat) (p0 : TCell) : Option (TCell) := ((laws_toByteS k p0.B).bind fun t4 => some (⟨p0.Bad, t4⟩ : TCell))
/-! laws.toCellS -/
def laws_toCellS_b0 (k : Nat) (p0 : (List TCell)) : ((List TCell) × Int) → Option (Nx ((List TCell) × Int) ((List TCell)))
  | (l17, i18) => (if (decide (i18 < ((List.length p0 : Nat) : Int))) = true then (if (0 : Int) ≤ i18 ∧ i18 < ((List.length p0 : Nat) : Int) then ((laws_toCell k (gt p0 i18)).bind fun t37 => (if (0 : Int) ≤ i18 ∧ i18 < ((List.length l17 : Nat) : Int) then ((some (List.set l17 (Int.toNat i18) t37)).bind fun l42 => some (.next (l42, (wrap64 (i18 + 1))))) else none)) else none) else some (.out (l17, i18)))
def laws_toCellS (k : Nat) (p0 : (List TCell)) : Option ((List TCell)) := (if (0 : Int) ≤ ((List.length p0 : Nat) : Int) ∧ okLen (Int.toNat ((List.length p0 : Nat) : Int)) = true then ((loopM (laws_toCellS_b0 k p0) k ((List.replicate (Int.toNat ((List.length p0 : Nat) : Int)) (⟨false, ([] : (List Int))⟩ : TCell)), 0)).bind fun o45 => match o45 with | .out (l46, i47) => some l46 | .ret r => some r | .next _ => none) else none)
/-! laws.toWet -/
def laws_toWet (k : Nat) (p0 : TWet) : Option (TWet) := ((laws_toByteS k p0.B).bind fun t4 => some (⟨p0.At, t4⟩ : TWet))
/-! laws.toWetS -/
def laws_toWetS_b0 (k : Nat) (p0 : (List TWet)) : ((List TWet) × Int) → Option (Nx ((List TWet) × Int) ((List TWet)))
  | (l17, i18) => (if (decide (i18 < ((List.length p0 : Nat) : Int))) = true then (if (0 : Int) ≤ i18 ∧ i18 < ((List.length p0 : Nat) : Int) then ((laws_toWet k (gt p0 i18)).bind fun t37 => (if (0 : Int) ≤ i18 ∧ i18 < ((List.length l17 : Nat) : Int) then ((some (List.set l17 (Int.toNat i18) t37)).bind fun l42 => some (.next (l42, (wrap64 (i18 + 1))))) else none)) else none) else some (.out (l17, i18)))
def laws_toWetS (k : Nat) (p0 : (List TWet)) : Option ((List TWet)) := (if (0 : Int) ≤ ((List.length p0 : Nat) : Int) ∧ okLen (Int.toNat ((List.length p0 : Nat) : Int)) = true then ((loopM (laws_toWetS_b0 k p0) k ((List.replicate (Int.toNat ((List.length p0 : Nat) : Int)) (⟨(0 : Int), ([] : (List Int))⟩ : TWet)), 0)).bind fun o45 => match o45 with | .out (l46, i47) => some l46 | .ret r => some r | .next _ => none) else none)
/-! laws.toDisk -/
def laws_toDisk (k : Nat) (p0 : TDisk) : Option (TDisk) := ((laws_toCellS k p0.Cells).bind fun t4 => ((laws_toWetS k p0.Wet).bind fun t8 => some (⟨t4, t8, p0.Fuse, p0.Dead⟩ : TDisk)))
/-! laws.toBox -/
def laws_toBox (p0 : TBox) : Option (TBox) := some p0
/-! laws.toEntry -/
def laws_toEntry (p0 : TEntry) : Option (TEntry) := ((laws_toBox p0.R).bind fun t4 => some (⟨p0.N, t4⟩ : TEntry))
/-! laws.toEntryS -/
def laws_toEntryS_b0 (p0 : (List TEntry)) : ((List TEntry) × Int) → Option (Nx ((List TEntry) × Int) ((List TEntry)))
  | (l11, i12) => (if (decide (i12 < ((List.length p0 : Nat) : Int))) = true then (if (0 : Int) ≤ i12 ∧ i12 < ((List.length p0 : Nat) : Int) then ((laws_toEntry (gt p0 i12)).bind fun t21 => (if (0 : Int) ≤ i12 ∧ i12 < ((List.length l11 : Nat) : Int) then ((some (List.set l11 (Int.toNat i12) t21)).bind fun l24 => some (.next (l24, (wrap64 (i12 + 1))))) else none)) else none) else some (.out (l11, i12)))
def laws_toEntryS (k : Nat) (p0 : (List TEntry)) : Option ((List TEntry)) := (if (0 : Int) ≤ ((List.length p0 : Nat) : Int) ∧ okLen (Int.toNat ((List.length p0 : Nat) : Int)) = true then ((loopM (laws_toEntryS_b0 p0) k ((List.replicate (Int.toNat ((List.length p0 : Nat) : Int)) (⟨(0 : Int), (⟨(0 : Int), (0 : Int), (0 : Int), (0 : Int)⟩ : TBox)⟩ : TEntry)), 0)).bind fun o27 => match o27 with | .out (l28, i29) => some l28 | .ret r => some r | .next _ => none) else none)
/-! laws.toNode -/
def laws_toNode (k : Nat) (p0 : TNode) : Option (TNode) := ((laws_toEntryS k p0.L).bind fun t4 => some (⟨p0.Leaf, t4⟩ : TNode))
/-! laws.toChange -/
def laws_toChange (k : Nat) (p0 : TChange) : Option (TChange) := ((laws_toNode k p0.N).bind fun t4 => some (⟨p0.Page, t4⟩ : TChange))
/-! laws.toChangeS -/
def laws_toChangeS_b0 (k : Nat) (p0 : (List TChange)) : ((List TChange) × Int) → Option (Nx ((List TChange) × Int) ((List TChange)))
  | (l17, i18) => (if (decide (i18 < ((List.length p0 : Nat) : Int))) = true then (if (0 : Int) ≤ i18 ∧ i18 < ((List.length p0 : Nat) : Int) then ((laws_toChange k (gt p0 i18)).bind fun t37 => (if (0 : Int) ≤ i18 ∧ i18 < ((List.length l17 : Nat) : Int) then ((some (List.set l17 (Int.toNat i18) t37)).bind fun l42 => some (.next (l42, (wrap64 (i18 + 1))))) else none)) else none) else some (.out (l17, i18)))
def laws_toChangeS (k : Nat) (p0 : (List TChange)) : Option ((List TChange)) := (if (0 : Int) ≤ ((List.length p0 : Nat) : Int) ∧ okLen (Int.toNat ((List.length p0 : Nat) : Int)) = true then ((loopM (laws_toChangeS_b0 k p0) k ((List.replicate (Int.toNat ((List.length p0 : Nat) : Int)) (⟨(0 : Int), (⟨false, ([] : (List TEntry))⟩ : TNode)⟩ : TChange)), 0)).bind fun o45 => match o45 with | .out (l46, i47) => some l46 | .ret r => some r | .next _ => none) else none)
/-! laws.toTx -/
def laws_toTx (k : Nat) (p0 : TTx) : Option (TTx) := ((laws_toChangeS k p0.Puts).bind fun t4 => some (⟨p0.Seq, p0.Root, p0.Size, t4⟩ : TTx))
/-! spec.l18Copy -/
def spec_l18Copy_b0 (p0 : TDisk) : (Int × (List TCell)) → Option (Nx (Int × (List TCell)) (TDisk))
  | (i25, l26) => (if (decide (i25 < ((List.length p0.Cells : Nat) : Int))) = true then (if (0 : Int) ≤ i25 ∧ i25 < ((List.length p0.Cells : Nat) : Int) then (if (0 : Int) ≤ i25 ∧ i25 < ((List.length p0.Cells : Nat) : Int) then (if okLen (List.length ([] : (List Int)) + List.length ((gt p0.Cells i25).B)) = true then (if okLen (List.length l26 + List.length ([(⟨(gt p0.Cells i25).Bad, (([] : (List Int)) ++ ((gt p0.Cells i25).B))⟩ : TCell)] : (List TCell))) = true then some (.next ((wrap64 (i25 + 1)), (l26 ++ ([(⟨(gt p0.Cells i25).Bad, (([] : (List Int)) ++ ((gt p0.Cells i25).B))⟩ : TCell)] : (List TCell))))) else none) else none) else none) else none) else some (.out (i25, l26)))
def spec_l18Copy_b1 (p0 : TDisk) : (Int × (List TWet)) → Option (Nx (Int × (List TWet)) (TDisk))
  | (i97, l98) => (if (decide (i97 < ((List.length p0.Wet : Nat) : Int))) = true then (if (0 : Int) ≤ i97 ∧ i97 < ((List.length p0.Wet : Nat) : Int) then (if (0 : Int) ≤ i97 ∧ i97 < ((List.length p0.Wet : Nat) : Int) then (if okLen (List.length ([] : (List Int)) + List.length ((gt p0.Wet i97).B)) = true then (if okLen (List.length l98 + List.length ([(⟨(gt p0.Wet i97).At, (([] : (List Int)) ++ ((gt p0.Wet i97).B))⟩ : TWet)] : (List TWet))) = true then some (.next ((wrap64 (i97 + 1)), (l98 ++ ([(⟨(gt p0.Wet i97).At, (([] : (List Int)) ++ ((gt p0.Wet i97).B))⟩ : TWet)] : (List TWet))))) else none) else none) else none) else none) else some (.out (i97, l98)))
def spec_l18Copy (k : Nat) (p0 : TDisk) : Option (TDisk) := ((loopM (spec_l18Copy_b0 p0) k (0, ([] : List TCell))).bind fun o71 => match o71 with | .out (i72, l73) => ((loopM (spec_l18Copy_b1 p0) k (0, ([] : List TWet))).bind fun o143 => match o143 with | .out (i144, l145) => some (⟨l73, l145, p0.Fuse, p0.Dead⟩ : TDisk) | .ret r => some r | .next _ => none) | .ret r => some r | .next _ => none)
/-! spec.l1In -/
def spec_l1In (p0 : Int) (p1 : Int) (p2 : Int) : Option (Bool) := some ((decide (p0 ≥ p1)) && (decide (p0 ≤ p2)))
/-! spec.BoxOk -/
def spec_BoxOk (p0 : TBox) : Option (Bool) := ((spec_l1In p0.X0 0 255).bind fun t2 => (((if t2 = true then ((spec_l1In p0.Y0 0 255).bind fun t5 => some t5) else some false)).bind fun c7 => (((if c7 = true then ((spec_l1In p0.X1 p0.X0 255).bind fun t10 => some t10) else some false)).bind fun c12 => (((if c12 = true then ((spec_l1In p0.Y1 p0.Y0 255).bind fun t15 => some t15) else some false)).bind fun c17 => some c17))))
/-! spec.EntryAt -/
def spec_EntryAt_b0 (p0 : (List TEntry)) (p1 : Int) : Int → Option (Nx (Int) (Int))
  | i2 => (if (decide (i2 < ((List.length p0 : Nat) : Int))) = true then (if (0 : Int) ≤ i2 ∧ i2 < ((List.length p0 : Nat) : Int) then (if (decide (((gt p0 i2).N) = p1)) = true then some (.ret i2) else some (.next (wrap64 (i2 + 1)))) else none) else some (.out i2))
def spec_EntryAt (k : Nat) (p0 : (List TEntry)) (p1 : Int) : Option (Int) := ((loopM (spec_EntryAt_b0 p0 p1) k 0).bind fun o5 => match o5 with | .out i6 => some (-1) | .ret r => some r | .next _ => none)
/-! spec.NodeOk -/
def spec_NodeOk_b0 (k : Nat) (p0 : TNode) : Int → Option (Nx (Int) (Bool))
  | i27 => (if (decide (i27 < ((List.length p0.L : Nat) : Int))) = true then (if (0 : Int) ≤ i27 ∧ i27 < ((List.length p0.L : Nat) : Int) then ((spec_BoxOk ((gt p0.L i27).R)).bind fun t55 => (((if (!t55) = true then some true else ((spec_EntryAt k p0.L ((gt p0.L i27).N)).bind fun t58 => some (!decide (t58 = i27))))).bind fun c60 => (((if c60 = true then some true else (((if p0.Leaf = true then ((spec_l1In ((gt p0.L i27).N) 1 999).bind fun t64 => some (!t64)) else some false)).bind fun c66 => some c66))).bind fun c68 => (((if c68 = true then some true else (((if (!p0.Leaf) = true then ((spec_l1In ((gt p0.L i27).N) 0 47).bind fun t72 => some (!t72)) else some false)).bind fun c74 => some c74))).bind fun c76 => (if c76 = true then some (.ret false) else some (.next (wrap64 (i27 + 1)))))))) else none) else some (.out i27))
def spec_NodeOk (k : Nat) (p0 : TNode) : Option (Bool) := ((loopM (spec_NodeOk_b0 k p0) k 0).bind fun o78 => match o78 with | .out i79 => some ((decide (((List.length p0.L : Nat) : Int) ≤ 4)) && (p0.Leaf || (decide (((List.length p0.L : Nat) : Int) > 0)))) | .ret r => some r | .next _ => none)
/-! spec.TxOk -/
def spec_TxOk_b0 (p0 : TTx) : Int → Option (Nx (Int) (Bool))
  | i33 => (if (decide (i33 < 0)) = true then (if (0 : Int) ≤ i33 ∧ i33 < ((List.length p0.Puts : Nat) : Int) then (if (0 : Int) ≤ 0 ∧ 0 < ((List.length p0.Puts : Nat) : Int) then (if (decide (((gt p0.Puts i33).Page) = ((gt p0.Puts 0).Page))) = true then some (.ret false) else some (.next (wrap64 (i33 + 1)))) else none) else none) else some (.out i33))
def spec_TxOk_b1 (p0 : TTx) (i59 : Int) : Int → Option (Nx (Int) (Bool))
  | i91 => (if (decide (i91 < i59)) = true then (if (0 : Int) ≤ i91 ∧ i91 < ((List.length p0.Puts : Nat) : Int) then (if (0 : Int) ≤ i59 ∧ i59 < ((List.length p0.Puts : Nat) : Int) then (if (decide (((gt p0.Puts i91).Page) = ((gt p0.Puts i59).Page))) = true then some (.ret false) else some (.next (wrap64 (i91 + 1)))) else none) else none) else some (.out i91))
def spec_TxOk_b3 (p0 : TTx) (i59 : Int) : Int → Option (Nx (Int) (Bool))
  | i148 => (if (decide (i148 < i59)) = true then (if (0 : Int) ≤ i148 ∧ i148 < ((List.length p0.Puts : Nat) : Int) then (if (0 : Int) ≤ i59 ∧ i59 < ((List.length p0.Puts : Nat) : Int) then (if (decide (((gt p0.Puts i148).Page) = ((gt p0.Puts i59).Page))) = true then some (.ret false) else some (.next (wrap64 (i148 + 1)))) else none) else none) else some (.out i148))
def spec_TxOk_b2 (k : Nat) (p0 : TTx) : Int → Option (Nx (Int) (Bool))
  | i59 => (if (decide (i59 < ((List.length p0.Puts : Nat) : Int))) = true then (if (0 : Int) ≤ i59 ∧ i59 < ((List.length p0.Puts : Nat) : Int) then ((spec_l1In ((gt p0.Puts i59).Page) 0 (wrap64 (p0.Size - 1))).bind fun t123 => (((if (!t123) = true then some true else (if (0 : Int) ≤ i59 ∧ i59 < ((List.length p0.Puts : Nat) : Int) then ((spec_NodeOk k ((gt p0.Puts i59).N)).bind fun t132 => some (!t132)) else none))).bind fun c135 => (if c135 = true then some (.ret false) else ((loopM (spec_TxOk_b3 p0 i59) k 0).bind fun o171 => match o171 with | .out i172 => some (.next (wrap64 (i59 + 1))) | .ret r => some (.ret r) | .next _ => none)))) else none) else some (.out i59))
def spec_TxOk (k : Nat) (p0 : TTx) : Option (Bool) := ((loopM (spec_TxOk_b2 k p0) k 0).bind fun o174 => match o174 with | .out i175 => ((spec_l1In p0.Seq 1 65535).bind fun t176 => (((if t176 = true then ((spec_l1In p0.Size 1 48).bind fun t179 => some t179) else some false)).bind fun c181 => (((if c181 = true then ((spec_l1In p0.Root 0 (wrap64 (p0.Size - 1))).bind fun t184 => some t184) else some false)).bind fun c186 => some c186))) | .ret r => some r | .next _ => none)
/-! spec.Put2 -/
def spec_Put2 (p0 : (List Int)) (p1 : Int) : Option ((List Int)) := (if okLen (List.length ([] : (List Int)) + List.length p0) = true then ((spec_l1In p1 0 65535).bind fun t6 => (if (!t6) = true then some (([] : (List Int)) ++ p0) else (if okLen (List.length (([] : (List Int)) ++ p0) + List.length ([(IntKind.u8.wrap (wrap64 (Int.tdiv p1 256))), (IntKind.u8.wrap (Int.tmod p1 256))] : (List Int))) = true then some ((([] : (List Int)) ++ p0) ++ ([(IntKind.u8.wrap (wrap64 (Int.tdiv p1 256))), (IntKind.u8.wrap (Int.tmod p1 256))] : (List Int))) else none))) else none)
/-! spec.PutEntry -/
def spec_PutEntry (p0 : TEntry) : Option ((List Int)) := ((spec_l1In p0.N 0 65535).bind fun t2 => (((if (!t2) = true then some true else ((spec_BoxOk p0.R).bind fun t5 => some (!t5)))).bind fun c7 => (if c7 = true then some ([] : (List Int)) else ((spec_Put2 ([] : (List Int)) p0.N).bind fun t14 => (if okLen (List.length t14 + List.length ([(IntKind.u8.wrap p0.R.X0), (IntKind.u8.wrap p0.R.Y0), (IntKind.u8.wrap p0.R.X1), (IntKind.u8.wrap p0.R.Y1)] : (List Int))) = true then some (t14 ++ ([(IntKind.u8.wrap p0.R.X0), (IntKind.u8.wrap p0.R.Y0), (IntKind.u8.wrap p0.R.X1), (IntKind.u8.wrap p0.R.Y1)] : (List Int))) else none)))))
/-! spec.Pad -/
def spec_Pad_b0 (p1 : Int) : (List Int) → Option (Nx ((List Int)) ((List Int)))
  | l12 => (if ((decide (((List.length l12 : Nat) : Int) < p1)) && (decide (p1 ≤ 64))) = true then (if okLen (List.length l12 + List.length ([0] : (List Int))) = true then some (.next (l12 ++ ([0] : (List Int)))) else none) else some (.out l12))
def spec_Pad (k : Nat) (p0 : (List Int)) (p1 : Int) : Option ((List Int)) := (if okLen (List.length ([] : (List Int)) + List.length p0) = true then ((loopM (spec_Pad_b0 p1) k (([] : (List Int)) ++ p0)).bind fun o27 => match o27 with | .out l28 => some l28 | .ret r => some r | .next _ => none) else none)
/-! spec.PutNode -/
def spec_PutNode_b0 (p0 : TNode) : ((List Int) × Int) → Option (Nx ((List Int) × Int) ((List Int)))
  | (l16, i19) => (if (decide (i19 < ((List.length p0.L : Nat) : Int))) = true then (if (0 : Int) ≤ i19 ∧ i19 < ((List.length p0.L : Nat) : Int) then ((spec_PutEntry (gt p0.L i19)).bind fun t29 => (if okLen (List.length l16 + List.length t29) = true then some (.next ((l16 ++ t29), (wrap64 (i19 + 1)))) else none)) else none) else some (.out (l16, i19)))
def spec_PutNode_b1 (p0 : TNode) : ((List Int) × Int) → Option (Nx ((List Int) × Int) ((List Int)))
  | (l56, i59) => (if (decide (i59 < ((List.length p0.L : Nat) : Int))) = true then (if (0 : Int) ≤ i59 ∧ i59 < ((List.length p0.L : Nat) : Int) then ((spec_PutEntry (gt p0.L i59)).bind fun t69 => (if okLen (List.length l56 + List.length t69) = true then some (.next ((l56 ++ t69), (wrap64 (i59 + 1)))) else none)) else none) else some (.out (l56, i59)))
def spec_PutNode (k : Nat) (p0 : TNode) : Option ((List Int)) := ((spec_NodeOk k p0).bind fun t2 => (if (!t2) = true then some ([] : (List Int)) else (if p0.Leaf = true then ((loopM (spec_PutNode_b0 p0) k (([(IntKind.u8.wrap (wrap64 (((List.length p0.L : Nat) : Int) + 16)))] : (List Int)), 0)).bind fun o36 => match o36 with | .out (l37, i40) => ((spec_Pad k l37 25).bind fun t41 => some t41) | .ret r => some r | .next _ => none) else ((loopM (spec_PutNode_b1 p0) k (([(IntKind.u8.wrap ((List.length p0.L : Nat) : Int))] : (List Int)), 0)).bind fun o76 => match o76 with | .out (l77, i80) => ((spec_Pad k l77 25).bind fun t81 => some t81) | .ret r => some r | .next _ => none))))
/-! spec.PutCell -/
def spec_PutCell (k : Nat) (p0 : Int) (p1 : TChange) : Option ((List Int)) := ((spec_l1In p0 0 65535).bind fun t2 => (((if (!t2) = true then some true else ((spec_l1In p1.Page 0 47).bind fun t5 => some (!t5)))).bind fun c7 => (((if c7 = true then some true else ((spec_NodeOk k p1.N).bind fun t10 => some (!t10)))).bind fun c12 => (if c12 = true then some ([] : (List Int)) else ((spec_Put2 ([1] : (List Int)) p0).bind fun t19 => (if okLen (List.length t19 + List.length ([(IntKind.u8.wrap p1.Page)] : (List Int))) = true then ((spec_PutNode k p1.N).bind fun t28 => (if okLen (List.length (t19 ++ ([(IntKind.u8.wrap p1.Page)] : (List Int))) + List.length t28) = true then some ((t19 ++ ([(IntKind.u8.wrap p1.Page)] : (List Int))) ++ t28) else none)) else none))))))
/-! spec.EndCell -/
def spec_EndCell (k : Nat) (p0 : Int) (p1 : TTx) : Option ((List Int)) := ((spec_l1In p0 0 65535).bind fun t2 => (((if (!t2) = true then some true else ((spec_TxOk k p1).bind fun t5 => some (!t5)))).bind fun c7 => (if c7 = true then some ([] : (List Int)) else ((spec_Put2 ([2] : (List Int)) p0).bind fun t14 => ((spec_Put2 t14 p1.Seq).bind fun t18 => (if okLen (List.length t18 + List.length ([(IntKind.u8.wrap p1.Root), (IntKind.u8.wrap p1.Size), (IntKind.u8.wrap ((List.length p1.Puts : Nat) : Int))] : (List Int))) = true then some (t18 ++ ([(IntKind.u8.wrap p1.Root), (IntKind.u8.wrap p1.Size), (IntKind.u8.wrap ((List.length p1.Puts : Nat) : Int))] : (List Int))) else none))))))
/-! spec.TxCells -/
def spec_TxCells_b0 (k : Nat) (p0 : Int) (p1 : TTx) : ((List (List Int)) × Int) → Option (Nx ((List (List Int)) × Int) ((List (List Int))))
  | (l25, i28) => (if (decide (i28 < ((List.length p1.Puts : Nat) : Int))) = true then (if (0 : Int) ≤ i28 ∧ i28 < ((List.length p1.Puts : Nat) : Int) then ((spec_PutCell k p0 (gt p1.Puts i28)).bind fun t48 => (if okLen (List.length l25 + List.length ([t48] : (List (List Int)))) = true then some (.next ((l25 ++ ([t48] : (List (List Int)))), (wrap64 (i28 + 1)))) else none)) else none) else some (.out (l25, i28)))
def spec_TxCells (k : Nat) (p0 : Int) (p1 : TTx) : Option ((List (List Int))) := ((spec_l1In p0 0 65535).bind fun t4 => (((if (!t4) = true then some true else ((spec_TxOk k p1).bind fun t7 => some (!t7)))).bind fun c9 => (if c9 = true then some ([] : (List (List Int))) else ((loopM (spec_TxCells_b0 k p0 p1) k (([] : (List (List Int))), 0)).bind fun o57 => match o57 with | .out (l58, i61) => ((spec_EndCell k p0 p1).bind fun t62 => (if okLen (List.length l58 + List.length ([t62] : (List (List Int)))) = true then some (l58 ++ ([t62] : (List (List Int)))) else none)) | .ret r => some r | .next _ => none))))
/-! spec.l18Burn -/
def spec_l18Burn (p0 : TDisk) : Option (Bool × TDisk) := (if p0.Dead = true then some (false, p0) else (if (decide (p0.Fuse = 0)) = true then some (false, (⟨p0.Cells, p0.Wet, p0.Fuse, true⟩ : TDisk)) else (if (decide (p0.Fuse > 0)) = true then some (true, (⟨p0.Cells, p0.Wet, (wrap64 (p0.Fuse - 1)), p0.Dead⟩ : TDisk)) else some (true, p0))))
/-! spec.Write -/
def spec_Write (k : Nat) (p0 : TDisk) (p1 : Int) (p2 : (List Int)) : Option (TDisk) := ((spec_l18Copy k p0).bind fun t3 => ((spec_l18Burn t3).bind fun t10 => (((if t10.1 = true then ((spec_l1In p1 0 113).bind fun t13 => some t13) else some false)).bind fun c15 => (if (c15 && (decide (((List.length p2 : Nat) : Int) ≤ 32))) = true then ((spec_Pad k p2 32).bind fun t19 => (if okLen (List.length t3.Wet + List.length ([(⟨p1, t19⟩ : TWet)] : (List TWet))) = true then some (⟨t3.Cells, (t3.Wet ++ ([(⟨p1, t19⟩ : TWet)] : (List TWet))), t10.2.Fuse, t10.2.Dead⟩ : TDisk) else none)) else some (⟨t3.Cells, t3.Wet, t10.2.Fuse, t10.2.Dead⟩ : TDisk)))))
/-! spec.Append -/
def spec_Append_b0 (k : Nat) (p1 : Int) (t11 : (List (List Int))) : (Int × (List TCell) × (List TWet) × Int × Bool) → Option (Nx (Int × (List TCell) × (List TWet) × Int × Bool) (TDisk × Int))
  | (i32, l33, l36, i39, q40) => (if (decide (i32 < ((List.length t11 : Nat) : Int))) = true then (if (0 : Int) ≤ i32 ∧ i32 < ((List.length t11 : Nat) : Int) then ((spec_Write k (⟨l33, l36, i39, q40⟩ : TDisk) (wrap64 ((wrap64 (2 + p1)) + i32)) (gt t11 i32)).bind fun t65 => some (.next ((wrap64 (i32 + 1)), t65.Cells, t65.Wet, t65.Fuse, t65.Dead))) else none) else some (.out (i32, l33, l36, i39, q40)))
def spec_Append (k : Nat) (p0 : TDisk) (p1 : Int) (p2 : Int) (p3 : TTx) : Option (TDisk × Int) := ((spec_l18Copy k p0).bind fun t4 => ((spec_TxCells k p2 p3).bind fun t11 => (if (((decide (((List.length t11 : Nat) : Int) = 0)) || (decide (p1 < 0))) || (decide (p1 > (wrap64 (64 - ((List.length t11 : Nat) : Int)))))) = true then some (t4, (-1)) else ((loopM (spec_Append_b0 k p1 t11) k (0, t4.Cells, t4.Wet, t4.Fuse, t4.Dead)).bind fun o71 => match o71 with | .out (i72, l73, l76, i79, q80) => some ((⟨l73, l76, i79, q80⟩ : TDisk), (wrap64 (p1 + ((List.length t11 : Nat) : Int)))) | .ret r => some r | .next _ => none))))
/-! impl.in -/
def impl_in (p0 : Int) (p1 : Int) (p2 : Int) : Option (Bool) := some ((decide (p1 ≤ p0)) && (decide (p0 ≤ p2)))
/-! impl.BoxOk -/
def impl_BoxOk (p0 : TBox) : Option (Bool) := ((impl_in p0.X0 0 p0.X1).bind fun t2 => (((if t2 = true then ((impl_in p0.X1 0 255).bind fun t5 => some t5) else some false)).bind fun c7 => (((if c7 = true then ((impl_in p0.Y0 0 p0.Y1).bind fun t10 => some t10) else some false)).bind fun c12 => (((if c12 = true then ((impl_in p0.Y1 0 255).bind fun t15 => some t15) else some false)).bind fun c17 => some c17))))
/-! impl.EntryAt$1 -/
def impl_EntryAt_1 (p0 : TEntry) (q0 : Int) : Option (Bool × Int) := some ((decide (p0.N = q0)), q0)
/-! slices.IndexFunc(()impl.Entry,impl.Entry) -/
def slices_IndexFunc_impl_Entry_impl_Entry_impl_EntryAt_1_b0 (p0 : (List TEntry)) : (Int × Int) → Option (Nx (Int × Int) (Int × Int))
  | (i4, i5) => (if (decide (i4 < ((List.length p0 : Nat) : Int))) = true then (if (0 : Int) ≤ i4 ∧ i4 < ((List.length p0 : Nat) : Int) then ((impl_EntryAt_1 (gt p0 i4) i5).bind fun t10 => (if t10.1 = true then some (.ret (i4, t10.2)) else some (.next ((wrap64 (i4 + 1)), t10.2)))) else none) else some (.out (i4, i5)))
def slices_IndexFunc_impl_Entry_impl_Entry_impl_EntryAt_1 (k : Nat) (p0 : (List TEntry)) (p1_0 : Int) : Option (Int × Int) := ((loopM (slices_IndexFunc_impl_Entry_impl_Entry_impl_EntryAt_1_b0 p0) k (0, p1_0)).bind fun o12 => match o12 with | .out (i13, i14) => some ((-1), i14) | .ret r => some r | .next _ => none)
/-! impl.EntryAt -/
def impl_EntryAt (k : Nat) (p0 : (List TEntry)) (p1 : Int) : Option (Int) := ((slices_IndexFunc_impl_Entry_impl_Entry_impl_EntryAt_1 k p0 p1).bind fun t2 => some t2.1)
/-! impl.NodeOk -/
def impl_NodeOk_b0 (k : Nat) (p0 : TNode) : Int → Option (Nx (Int) (Bool))
  | i29 => (if (decide (i29 < ((List.length p0.L : Nat) : Int))) = true then (if (0 : Int) ≤ i29 ∧ i29 < ((List.length p0.L : Nat) : Int) then (((if p0.Leaf = true then ((impl_in ((gt p0.L i29).N) 1 999).bind fun t58 => some (!t58)) else some false)).bind fun c60 => (((if c60 = true then some true else (((if (!p0.Leaf) = true then ((impl_in ((gt p0.L i29).N) 0 47).bind fun t64 => some (!t64)) else some false)).bind fun c66 => some c66))).bind fun c68 => (((if c68 = true then some true else ((impl_BoxOk ((gt p0.L i29).R)).bind fun t71 => some (!t71)))).bind fun c73 => (((if c73 = true then some true else ((impl_EntryAt k p0.L ((gt p0.L i29).N)).bind fun t76 => some (!decide (t76 = i29))))).bind fun c78 => (if c78 = true then some (.ret false) else some (.next (wrap64 (i29 + 1)))))))) else none) else some (.out i29))
def impl_NodeOk (k : Nat) (p0 : TNode) : Option (Bool) := (if ((decide (((List.length p0.L : Nat) : Int) > 4)) || ((!p0.Leaf) && (decide (((List.length p0.L : Nat) : Int) = 0)))) = true then some false else ((loopM (impl_NodeOk_b0 k p0) k 0).bind fun o80 => match o80 with | .out i81 => some true | .ret r => some r | .next _ => none))
/-! (impl.Tx).numbersOk -/
def impl_Tx_numbersOk (p0 : TTx) : Option (Bool) := ((impl_in p0.Seq 1 65535).bind fun t2 => (((if t2 = true then ((impl_in p0.Size 1 48).bind fun t5 => some t5) else some false)).bind fun c7 => (((if c7 = true then ((impl_in p0.Root 0 (wrap64 (p0.Size - 1))).bind fun t10 => some t10) else some false)).bind fun c12 => some c12)))
/-! impl.TxOk -/
def impl_TxOk_b0 (k : Nat) (p0 : TTx) : ((List (Int × Int)) × Int) → Option (Nx ((List (Int × Int)) × Int) (Bool))
  | (l17, i18) => (if (decide (i18 < ((List.length p0.Puts : Nat) : Int))) = true then (if (0 : Int) ≤ i18 ∧ i18 < ((List.length p0.Puts : Nat) : Int) then ((impl_in ((gt p0.Puts i18).Page) 0 (wrap64 (p0.Size - 1))).bind fun t39 => (((if ((!t39) || (decide ((mget l17 ((gt p0.Puts i18).Page)) = 1))) = true then some true else ((impl_NodeOk k ((gt p0.Puts i18).N)).bind fun t43 => some (!t43)))).bind fun c45 => (if c45 = true then some (.ret false) else some (.next ((mput l17 ((gt p0.Puts i18).Page) 1), (wrap64 (i18 + 1))))))) else none) else some (.out (l17, i18)))
def impl_TxOk (k : Nat) (p0 : TTx) : Option (Bool) := ((loopM (impl_TxOk_b0 k p0) k (([] : List (Int × Int)), 0)).bind fun o47 => match o47 with | .out (l48, i49) => ((impl_Tx_numbersOk p0).bind fun t50 => some t50) | .ret r => some r | .next _ => none)
/-! slices.Clone(()byte,byte) -/
def slices_Clone_byte_byte (p0 : (List Int)) : Option ((List Int)) := (if okLen (List.length p0) = true then some p0 else none)
/-! impl.Put2 -/
def impl_Put2 (p0 : (List Int)) (p1 : Int) : Option ((List Int)) := ((slices_Clone_byte_byte p0).bind fun t1 => ((impl_in p1 0 65535).bind fun t5 => (if (!t5) = true then some t1 else (if okLen (List.length t1 + List.length ([(IntKind.u8.wrap (Int.fdiv p1 (2 ^ (min (Int.toNat 8) 64)))), (IntKind.u8.wrap p1)] : (List Int))) = true then some (t1 ++ ([(IntKind.u8.wrap (Int.fdiv p1 (2 ^ (min (Int.toNat 8) 64)))), (IntKind.u8.wrap p1)] : (List Int))) else none))))
/-! impl.endCell -/
def impl_endCell (p0 : Int) (p1 : TTx) (p2 : Int) : Option ((List Int)) := ((impl_Put2 ([2] : (List Int)) p0).bind fun t5 => ((impl_Put2 t5 p1.Seq).bind fun t9 => (if okLen (List.length t9 + List.length ([(IntKind.u8.wrap p1.Root), (IntKind.u8.wrap p1.Size), (IntKind.u8.wrap p2)] : (List Int))) = true then some (t9 ++ ([(IntKind.u8.wrap p1.Root), (IntKind.u8.wrap p1.Size), (IntKind.u8.wrap p2)] : (List Int))) else none)))
/-! impl.EndCell -/
def impl_EndCell (k : Nat) (p0 : Int) (p1 : TTx) : Option ((List Int)) := ((impl_in p0 0 65535).bind fun t2 => (((if (!t2) = true then some true else ((impl_TxOk k p1).bind fun t5 => some (!t5)))).bind fun c7 => (if c7 = true then some ([] : (List Int)) else ((impl_endCell p0 p1 ((List.length p1.Puts : Nat) : Int)).bind fun t9 => some t9))))
/-! impl.PutEntry -/
def impl_PutEntry (p0 : TEntry) : Option ((List Int)) := ((impl_in p0.N 0 65535).bind fun t2 => (((if (!t2) = true then some true else ((impl_BoxOk p0.R).bind fun t5 => some (!t5)))).bind fun c7 => (if c7 = true then some ([] : (List Int)) else ((impl_Put2 ([] : (List Int)) p0.N).bind fun t10 => (if okLen (List.length t10 + List.length ([(IntKind.u8.wrap p0.R.X0), (IntKind.u8.wrap p0.R.Y0), (IntKind.u8.wrap p0.R.X1), (IntKind.u8.wrap p0.R.Y1)] : (List Int))) = true then some (t10 ++ ([(IntKind.u8.wrap p0.R.X0), (IntKind.u8.wrap p0.R.Y0), (IntKind.u8.wrap p0.R.X1), (IntKind.u8.wrap p0.R.Y1)] : (List Int))) else none)))))
/-! impl.Pad -/
def impl_Pad_b0 (p1 : Int) : (List Int) → Option (Nx ((List Int)) ((List Int)))
  | l10 => (if (decide (((List.length l10 : Nat) : Int) < p1)) = true then (if okLen (List.length l10 + List.length ([0] : (List Int))) = true then some (.next (l10 ++ ([0] : (List Int)))) else none) else some (.out l10))
def impl_Pad (k : Nat) (p0 : (List Int)) (p1 : Int) : Option ((List Int)) := ((slices_Clone_byte_byte p0).bind fun t1 => (if (decide (p1 > 64)) = true then some t1 else ((loopM (impl_Pad_b0 p1) k t1).bind fun o23 => match o23 with | .out l24 => some l24 | .ret r => some r | .next _ => none)))
/-! impl.PutNode -/
def impl_PutNode_b0 (p0 : TNode) : ((List Int) × Int) → Option (Nx ((List Int) × Int) ((List Int)))
  | (l15, i18) => (if (decide (i18 < ((List.length p0.L : Nat) : Int))) = true then (if (0 : Int) ≤ i18 ∧ i18 < ((List.length p0.L : Nat) : Int) then ((impl_PutEntry (gt p0.L i18)).bind fun t30 => (if okLen (List.length l15 + List.length t30) = true then some (.next ((l15 ++ t30), (wrap64 (i18 + 1)))) else none)) else none) else some (.out (l15, i18)))
def impl_PutNode_b1 (p0 : TNode) : ((List Int) × Int) → Option (Nx ((List Int) × Int) ((List Int)))
  | (l58, i61) => (if (decide (i61 < ((List.length p0.L : Nat) : Int))) = true then (if (0 : Int) ≤ i61 ∧ i61 < ((List.length p0.L : Nat) : Int) then ((impl_PutEntry (gt p0.L i61)).bind fun t73 => (if okLen (List.length l58 + List.length t73) = true then some (.next ((l58 ++ t73), (wrap64 (i61 + 1)))) else none)) else none) else some (.out (l58, i61)))
def impl_PutNode (k : Nat) (p0 : TNode) : Option ((List Int)) := ((impl_NodeOk k p0).bind fun t2 => (if (!t2) = true then some ([] : (List Int)) else (if p0.Leaf = true then ((loopM (impl_PutNode_b0 p0) k (([(IntKind.u8.wrap (wrap64 (((List.length p0.L : Nat) : Int) + 16)))] : (List Int)), 0)).bind fun o37 => match o37 with | .out (l38, i41) => ((impl_Pad k l38 25).bind fun t42 => some t42) | .ret r => some r | .next _ => none) else ((loopM (impl_PutNode_b1 p0) k (([(IntKind.u8.wrap ((List.length p0.L : Nat) : Int))] : (List Int)), 0)).bind fun o80 => match o80 with | .out (l81, i84) => ((impl_Pad k l81 25).bind fun t85 => some t85) | .ret r => some r | .next _ => none))))
/-! impl.PutCell -/
def impl_PutCell (k : Nat) (p0 : Int) (p1 : TChange) : Option ((List Int)) := ((impl_in p0 0 65535).bind fun t2 => (((if (!t2) = true then some true else ((impl_in p1.Page 0 47).bind fun t5 => some (!t5)))).bind fun c7 => (((if c7 = true then some true else ((impl_NodeOk k p1.N).bind fun t10 => some (!t10)))).bind fun c12 => (if c12 = true then some ([] : (List Int)) else ((impl_Put2 ([1] : (List Int)) p0).bind fun t17 => (if okLen (List.length t17 + List.length ([(IntKind.u8.wrap p1.Page)] : (List Int))) = true then ((impl_PutNode k p1.N).bind fun t26 => (if okLen (List.length (t17 ++ ([(IntKind.u8.wrap p1.Page)] : (List Int))) + List.length t26) = true then some ((t17 ++ ([(IntKind.u8.wrap p1.Page)] : (List Int))) ++ t26) else none)) else none))))))
/-! impl.TxCells -/
def impl_TxCells_b0 (k : Nat) (p0 : Int) (p1 : TTx) : ((List (List Int)) × Int) → Option (Nx ((List (List Int)) × Int) ((List (List Int))))
  | (l21, i24) => (if (decide (i24 < ((List.length p1.Puts : Nat) : Int))) = true then (if (0 : Int) ≤ i24 ∧ i24 < ((List.length p1.Puts : Nat) : Int) then ((impl_PutCell k p0 (gt p1.Puts i24)).bind fun t46 => (if okLen (List.length l21 + List.length ([t46] : (List (List Int)))) = true then some (.next ((l21 ++ ([t46] : (List (List Int)))), (wrap64 (i24 + 1)))) else none)) else none) else some (.out (l21, i24)))
def impl_TxCells (k : Nat) (p0 : Int) (p1 : TTx) : Option ((List (List Int))) := ((impl_EndCell k p0 p1).bind fun t2 => (if (decide (((List.length t2 : Nat) : Int) = 0)) = true then some ([] : (List (List Int))) else ((loopM (impl_TxCells_b0 k p0 p1) k (([] : List (List Int)), 0)).bind fun o55 => match o55 with | .out (l56, i59) => (if okLen (List.length l56 + List.length ([t2] : (List (List Int)))) = true then some (l56 ++ ([t2] : (List (List Int)))) else none) | .ret r => some r | .next _ => none)))
/-! impl.copyDisk -/
def impl_copyDisk_b0 (p0 : TDisk) : (Int × (List TCell)) → Option (Nx (Int × (List TCell)) (TDisk))
  | (i20, l21) => (if (decide (i20 < ((List.length p0.Cells : Nat) : Int))) = true then (if (0 : Int) ≤ i20 ∧ i20 < ((List.length p0.Cells : Nat) : Int) then ((slices_Clone_byte_byte ((gt p0.Cells i20).B)).bind fun t47 => (if okLen (List.length l21 + List.length ([(⟨(gt p0.Cells i20).Bad, t47⟩ : TCell)] : (List TCell))) = true then some (.next ((wrap64 (i20 + 1)), (l21 ++ ([(⟨(gt p0.Cells i20).Bad, t47⟩ : TCell)] : (List TCell))))) else none)) else none) else some (.out (i20, l21)))
def impl_copyDisk_b1 (p0 : TDisk) : (Int × (List TWet)) → Option (Nx (Int × (List TWet)) (TDisk))
  | (i77, l78) => (if (decide (i77 < ((List.length p0.Wet : Nat) : Int))) = true then (if (0 : Int) ≤ i77 ∧ i77 < ((List.length p0.Wet : Nat) : Int) then ((slices_Clone_byte_byte ((gt p0.Wet i77).B)).bind fun t104 => (if okLen (List.length l78 + List.length ([(⟨(gt p0.Wet i77).At, t104⟩ : TWet)] : (List TWet))) = true then some (.next ((wrap64 (i77 + 1)), (l78 ++ ([(⟨(gt p0.Wet i77).At, t104⟩ : TWet)] : (List TWet))))) else none)) else none) else some (.out (i77, l78)))
def impl_copyDisk (k : Nat) (p0 : TDisk) : Option (TDisk) := ((loopM (impl_copyDisk_b0 p0) k (0, ([] : List TCell))).bind fun o56 => match o56 with | .out (i57, l58) => ((loopM (impl_copyDisk_b1 p0) k (0, ([] : List TWet))).bind fun o113 => match o113 with | .out (i114, l115) => some (⟨l58, l115, p0.Fuse, p0.Dead⟩ : TDisk) | .ret r => some r | .next _ => none) | .ret r => some r | .next _ => none)
/-! (*impl.Disk).burn -/
def impl_Disk_burn (p0 : TDisk) : Option (Bool × TDisk) := (if p0.Dead = true then some (false, p0) else (if (decide (p0.Fuse = 0)) = true then some (false, (⟨p0.Cells, p0.Wet, p0.Fuse, true⟩ : TDisk)) else (if (decide (p0.Fuse > 0)) = true then some (true, (⟨p0.Cells, p0.Wet, (wrap64 (p0.Fuse - 1)), p0.Dead⟩ : TDisk)) else some (true, p0))))
/-! impl.Write -/
def impl_Write (k : Nat) (p0 : TDisk) (p1 : Int) (p2 : (List Int)) : Option (TDisk) := ((impl_copyDisk k p0).bind fun t3 => ((impl_Disk_burn t3).bind fun t10 => (((if t10.1 = true then ((impl_in p1 0 113).bind fun t13 => some t13) else some false)).bind fun c15 => (if (c15 && (decide (((List.length p2 : Nat) : Int) ≤ 32))) = true then ((impl_Pad k p2 32).bind fun t19 => (if okLen (List.length t3.Wet + List.length ([(⟨p1, t19⟩ : TWet)] : (List TWet))) = true then some (⟨t3.Cells, (t3.Wet ++ ([(⟨p1, t19⟩ : TWet)] : (List TWet))), t10.2.Fuse, t10.2.Dead⟩ : TDisk) else none)) else some (⟨t3.Cells, t3.Wet, t10.2.Fuse, t10.2.Dead⟩ : TDisk)))))
/-! impl.Append -/
def impl_Append_b0 (k : Nat) (p1 : Int) (t4 : (List (List Int))) : (Int × (List TCell) × (List TWet) × Int × Bool) → Option (Nx (Int × (List TCell) × (List TWet) × Int × Bool) (TDisk × Int))
  | (i26, l27, l30, i33, q34) => (if (decide (i26 < ((List.length t4 : Nat) : Int))) = true then (if (0 : Int) ≤ i26 ∧ i26 < ((List.length t4 : Nat) : Int) then ((impl_Write k (⟨l27, l30, i33, q34⟩ : TDisk) (wrap64 ((wrap64 (2 + p1)) + i26)) (gt t4 i26)).bind fun t47 => some (.next ((wrap64 (i26 + 1)), t47.Cells, t47.Wet, t47.Fuse, t47.Dead))) else none) else some (.out (i26, l27, l30, i33, q34)))
def impl_Append (k : Nat) (p0 : TDisk) (p1 : Int) (p2 : Int) (p3 : TTx) : Option (TDisk × Int) := ((impl_TxCells k p2 p3).bind fun t4 => ((impl_copyDisk k p0).bind fun t8 => (if (((decide (((List.length t4 : Nat) : Int) = 0)) || (decide (p1 < 0))) || (decide (p1 > (wrap64 (64 - ((List.length t4 : Nat) : Int)))))) = true then some (t8, (-1)) else ((loopM (impl_Append_b0 k p1 t4) k (0, t8.Cells, t8.Wet, t8.Fuse, t8.Dead)).bind fun o53 => match o53 with | .out (i54, l55, l58, i61, q62) => some ((⟨l55, l58, i61, q62⟩ : TDisk), (wrap64 (p1 + ((List.length t4 : Nat) : Int)))) | .ret r => some r | .next _ => none))))
/-! laws.eqByteS -/
def laws_eqByteS_b0 (p0 : (List Int)) (p1 : (List Int)) : Int → Option (Nx (Int) (Bool))
  | i4 => (if (decide (i4 < ((List.length p0 : Nat) : Int))) = true then (if (0 : Int) ≤ i4 ∧ i4 < ((List.length p0 : Nat) : Int) then (if (0 : Int) ≤ i4 ∧ i4 < ((List.length p1 : Nat) : Int) then (if (!decide ((gt p0 i4) = (gt p1 i4))) = true then some (.ret false) else some (.next (wrap64 (i4 + 1)))) else none) else none) else some (.out i4))
def laws_eqByteS (k : Nat) (p0 : (List Int)) (p1 : (List Int)) : Option (Bool) := (if (!decide (((List.length p0 : Nat) : Int) = ((List.length p1 : Nat) : Int))) = true then some false else ((loopM (laws_eqByteS_b0 p0 p1) k 0).bind fun o11 => match o11 with | .out i12 => some true | .ret r => some r | .next _ => none))
/-! laws.eqCell -/
def laws_eqCell (k : Nat) (p0 : TCell) (p1 : TCell) : Option (Bool) := (if (!(p0.Bad == p1.Bad)) = true then some false else ((laws_eqByteS k p0.B p1.B).bind fun t3 => (if (!t3) = true then some false else some true)))
/-! laws.eqCellS -/
def laws_eqCellS_b0 (k : Nat) (p0 : (List TCell)) (p1 : (List TCell)) : Int → Option (Nx (Int) (Bool))
  | i14 => (if (decide (i14 < ((List.length p0 : Nat) : Int))) = true then (if (0 : Int) ≤ i14 ∧ i14 < ((List.length p0 : Nat) : Int) then (if (0 : Int) ≤ i14 ∧ i14 < ((List.length p1 : Nat) : Int) then ((laws_eqCell k (gt p0 i14) (gt p1 i14)).bind fun t39 => (if (!t39) = true then some (.ret false) else some (.next (wrap64 (i14 + 1))))) else none) else none) else some (.out i14))
def laws_eqCellS (k : Nat) (p0 : (List TCell)) (p1 : (List TCell)) : Option (Bool) := (if (!decide (((List.length p0 : Nat) : Int) = ((List.length p1 : Nat) : Int))) = true then some false else ((loopM (laws_eqCellS_b0 k p0 p1) k 0).bind fun o41 => match o41 with | .out i42 => some true | .ret r => some r | .next _ => none))
/-! laws.eqWet -/
def laws_eqWet (k : Nat) (p0 : TWet) (p1 : TWet) : Option (Bool) := (if (!decide (p0.At = p1.At)) = true then some false else ((laws_eqByteS k p0.B p1.B).bind fun t3 => (if (!t3) = true then some false else some true)))
/-! laws.eqWetS -/
def laws_eqWetS_b0 (k : Nat) (p0 : (List TWet)) (p1 : (List TWet)) : Int → Option (Nx (Int) (Bool))
  | i14 => (if (decide (i14 < ((List.length p0 : Nat) : Int))) = true then (if (0 : Int) ≤ i14 ∧ i14 < ((List.length p0 : Nat) : Int) then (if (0 : Int) ≤ i14 ∧ i14 < ((List.length p1 : Nat) : Int) then ((laws_eqWet k (gt p0 i14) (gt p1 i14)).bind fun t39 => (if (!t39) = true then some (.ret false) else some (.next (wrap64 (i14 + 1))))) else none) else none) else some (.out i14))
def laws_eqWetS (k : Nat) (p0 : (List TWet)) (p1 : (List TWet)) : Option (Bool) := (if (!decide (((List.length p0 : Nat) : Int) = ((List.length p1 : Nat) : Int))) = true then some false else ((loopM (laws_eqWetS_b0 k p0 p1) k 0).bind fun o41 => match o41 with | .out i42 => some true | .ret r => some r | .next _ => none))
/-! laws.eqDisk -/
def laws_eqDisk (k : Nat) (p0 : TDisk) (p1 : TDisk) : Option (Bool) := ((laws_eqCellS k p0.Cells p1.Cells).bind fun t3 => (if (!t3) = true then some false else ((laws_eqWetS k p0.Wet p1.Wet).bind fun t5 => (if (!t5) = true then some false else (if (!decide (p0.Fuse = p1.Fuse)) = true then some false else (if (!(p0.Dead == p1.Dead)) = true then some false else some true))))))
/-! laws.eqBox -/
def laws_eqBox (p0 : TBox) (p1 : TBox) : Option (Bool) := (if (!decide (p0.X0 = p1.X0)) = true then some false else (if (!decide (p0.Y0 = p1.Y0)) = true then some false else (if (!decide (p0.X1 = p1.X1)) = true then some false else (if (!decide (p0.Y1 = p1.Y1)) = true then some false else some true))))
/-! laws.eqEntry -/
def laws_eqEntry (p0 : TEntry) (p1 : TEntry) : Option (Bool) := (if (!decide (p0.N = p1.N)) = true then some false else ((laws_eqBox p0.R p1.R).bind fun t3 => (if (!t3) = true then some false else some true)))
/-! laws.eqEntryS -/
def laws_eqEntryS_b0 (p0 : (List TEntry)) (p1 : (List TEntry)) : Int → Option (Nx (Int) (Bool))
  | i6 => (if (decide (i6 < ((List.length p0 : Nat) : Int))) = true then (if (0 : Int) ≤ i6 ∧ i6 < ((List.length p0 : Nat) : Int) then (if (0 : Int) ≤ i6 ∧ i6 < ((List.length p1 : Nat) : Int) then ((laws_eqEntry (gt p0 i6) (gt p1 i6)).bind fun t15 => (if (!t15) = true then some (.ret false) else some (.next (wrap64 (i6 + 1))))) else none) else none) else some (.out i6))
def laws_eqEntryS (k : Nat) (p0 : (List TEntry)) (p1 : (List TEntry)) : Option (Bool) := (if (!decide (((List.length p0 : Nat) : Int) = ((List.length p1 : Nat) : Int))) = true then some false else ((loopM (laws_eqEntryS_b0 p0 p1) k 0).bind fun o17 => match o17 with | .out i18 => some true | .ret r => some r | .next _ => none))
/-! laws.eqNode -/
def laws_eqNode (k : Nat) (p0 : TNode) (p1 : TNode) : Option (Bool) := (if (!(p0.Leaf == p1.Leaf)) = true then some false else ((laws_eqEntryS k p0.L p1.L).bind fun t3 => (if (!t3) = true then some false else some true)))
/-! laws.eqChange -/
def laws_eqChange (k : Nat) (p0 : TChange) (p1 : TChange) : Option (Bool) := (if (!decide (p0.Page = p1.Page)) = true then some false else ((laws_eqNode k p0.N p1.N).bind fun t3 => (if (!t3) = true then some false else some true)))
/-! laws.eqChangeS -/
def laws_eqChangeS_b0 (k : Nat) (p0 : (List TChange)) (p1 : (List TChange)) : Int → Option (Nx (Int) (Bool))
  | i14 => (if (decide (i14 < ((List.length p0 : Nat) : Int))) = true then (if (0 : Int) ≤ i14 ∧ i14 < ((List.length p0 : Nat) : Int) then (if (0 : Int) ≤ i14 ∧ i14 < ((List.length p1 : Nat) : Int) then ((laws_eqChange k (gt p0 i14) (gt p1 i14)).bind fun t39 => (if (!t39) = true then some (.ret false) else some (.next (wrap64 (i14 + 1))))) else none) else none) else some (.out i14))
def laws_eqChangeS (k : Nat) (p0 : (List TChange)) (p1 : (List TChange)) : Option (Bool) := (if (!decide (((List.length p0 : Nat) : Int) = ((List.length p1 : Nat) : Int))) = true then some false else ((loopM (laws_eqChangeS_b0 k p0 p1) k 0).bind fun o41 => match o41 with | .out i42 => some true | .ret r => some r | .next _ => none))
/-! laws.eqTx -/
def laws_eqTx (k : Nat) (p0 : TTx) (p1 : TTx) : Option (Bool) := (if (!decide (p0.Seq = p1.Seq)) = true then some false else (if (!decide (p0.Root = p1.Root)) = true then some false else (if (!decide (p0.Size = p1.Size)) = true then some false else ((laws_eqChangeS k p0.Puts p1.Puts).bind fun t3 => (if (!t3) = true then some false else some true)))))
/-! laws.markByteS -/
def laws_markByteS_b0 : ((List Int) × Int × Int) → Option (Nx ((List Int) × Int × Int) (Int × (List Int)))
  | (l5, i6, i7) => (if (decide (i7 < ((List.length l5 : Nat) : Int))) = true then (if (0 : Int) ≤ i7 ∧ i7 < ((List.length l5 : Nat) : Int) then ((some (List.set l5 (Int.toNat i7) (IntKind.u8.wrap i6))).bind fun l13 => some (.next (l13, (wrap64 (i6 + 1)), (wrap64 (i7 + 1))))) else none) else some (.out (l5, i6, i7)))
def laws_markByteS (k : Nat) (p0 : (List Int)) (p1 : Int) : Option (Int × (List Int)) := ((loopM (laws_markByteS_b0) k (p0, p1, 0)).bind fun o16 => match o16 with | .out (l17, i18, i19) => some (i18, l17) | .ret r => some r | .next _ => none)
/-! laws.markCellS -/
def laws_markCellS_b0 (k : Nat) : ((List TCell) × Int × Int) → Option (Nx ((List TCell) × Int × Int) (Int × (List TCell)))
  | (l11, i12, i13) => (if (decide (i13 < ((List.length l11 : Nat) : Int))) = true then (if (0 : Int) ≤ i13 ∧ i13 < ((List.length l11 : Nat) : Int) then ((some (List.set l11 (Int.toNat i13) (⟨(decide ((Int.tmod i12 3) = 0)), (gt l11 i13).B⟩ : TCell))).bind fun l25 => (if (0 : Int) ≤ i13 ∧ i13 < ((List.length l25 : Nat) : Int) then ((laws_markByteS k ((gt l25 i13).B) (wrap64 (i12 + 1))).bind fun t31 => (if List.length t31.2 = List.length ((gt l25 i13).B) then some (.next ((List.set l25 (Int.toNat i13) (⟨(gt l25 i13).Bad, t31.2⟩ : TCell)), t31.1, (wrap64 (i13 + 1)))) else none)) else none)) else none) else some (.out (l11, i12, i13)))
def laws_markCellS (k : Nat) (p0 : (List TCell)) (p1 : Int) : Option (Int × (List TCell)) := ((loopM (laws_markCellS_b0 k) k (p0, p1, 0)).bind fun o34 => match o34 with | .out (l35, i36, i37) => some (i36, l35) | .ret r => some r | .next _ => none)
/-! laws.markWetS -/
def laws_markWetS_b0 (k : Nat) : ((List TWet) × Int × Int) → Option (Nx ((List TWet) × Int × Int) (Int × (List TWet)))
  | (l11, i12, i13) => (if (decide (i13 < ((List.length l11 : Nat) : Int))) = true then (if (0 : Int) ≤ i13 ∧ i13 < ((List.length l11 : Nat) : Int) then ((some (List.set l11 (Int.toNat i13) (⟨i12, (gt l11 i13).B⟩ : TWet))).bind fun l25 => (if (0 : Int) ≤ i13 ∧ i13 < ((List.length l25 : Nat) : Int) then ((laws_markByteS k ((gt l25 i13).B) (wrap64 (i12 + 1))).bind fun t31 => (if List.length t31.2 = List.length ((gt l25 i13).B) then some (.next ((List.set l25 (Int.toNat i13) (⟨(gt l25 i13).At, t31.2⟩ : TWet)), t31.1, (wrap64 (i13 + 1)))) else none)) else none)) else none) else some (.out (l11, i12, i13)))
def laws_markWetS (k : Nat) (p0 : (List TWet)) (p1 : Int) : Option (Int × (List TWet)) := ((loopM (laws_markWetS_b0 k) k (p0, p1, 0)).bind fun o34 => match o34 with | .out (l35, i36, i37) => some (i36, l35) | .ret r => some r | .next _ => none)
/-! laws.markDisk -/
def laws_markDisk (k : Nat) (p0 : TDisk) (p1 : Int) : Option (Int × (List TCell) × (List TWet)) := ((laws_markCellS k p0.Cells p1).bind fun t2 => (if List.length t2.2 = List.length p0.Cells then ((laws_markWetS k p0.Wet t2.1).bind fun t5 => (if List.length t5.2 = List.length p0.Wet then some (t5.1, t2.2, t5.2) else none)) else none))
/-! laws.markEntryS -/
def laws_markEntryS_b0 : ((List TEntry) × Int × Int) → Option (Nx ((List TEntry) × Int × Int) (Int × (List TEntry)))
  | (l21, i22, i23) => (if (decide (i23 < ((List.length l21 : Nat) : Int))) = true then (if (0 : Int) ≤ i23 ∧ i23 < ((List.length l21 : Nat) : Int) then ((some (List.set l21 (Int.toNat i23) (⟨i22, (gt l21 i23).R⟩ : TEntry))).bind fun l45 => (if (0 : Int) ≤ i23 ∧ i23 < ((List.length l45 : Nat) : Int) then ((some (List.set l45 (Int.toNat i23) (⟨(gt l45 i23).N, (⟨(wrap64 (i22 + 1)), (gt l45 i23).R.Y0, (gt l45 i23).R.X1, (gt l45 i23).R.Y1⟩ : TBox)⟩ : TEntry))).bind fun l49 => (if (0 : Int) ≤ i23 ∧ i23 < ((List.length l49 : Nat) : Int) then ((some (List.set l49 (Int.toNat i23) (⟨(gt l49 i23).N, (⟨(gt l49 i23).R.X0, (wrap64 ((wrap64 (i22 + 1)) + 1)), (gt l49 i23).R.X1, (gt l49 i23).R.Y1⟩ : TBox)⟩ : TEntry))).bind fun l53 => (if (0 : Int) ≤ i23 ∧ i23 < ((List.length l53 : Nat) : Int) then ((some (List.set l53 (Int.toNat i23) (⟨(gt l53 i23).N, (⟨(gt l53 i23).R.X0, (gt l53 i23).R.Y0, (wrap64 ((wrap64 ((wrap64 (i22 + 1)) + 1)) + 1)), (gt l53 i23).R.Y1⟩ : TBox)⟩ : TEntry))).bind fun l57 => (if (0 : Int) ≤ i23 ∧ i23 < ((List.length l57 : Nat) : Int) then ((some (List.set l57 (Int.toNat i23) (⟨(gt l57 i23).N, (⟨(gt l57 i23).R.X0, (gt l57 i23).R.Y0, (gt l57 i23).R.X1, (wrap64 ((wrap64 ((wrap64 ((wrap64 (i22 + 1)) + 1)) + 1)) + 1))⟩ : TBox)⟩ : TEntry))).bind fun l61 => some (.next (l61, (wrap64 ((wrap64 ((wrap64 ((wrap64 ((wrap64 (i22 + 1)) + 1)) + 1)) + 1)) + 1)), (wrap64 (i23 + 1))))) else none)) else none)) else none)) else none)) else none) else some (.out (l21, i22, i23)))
def laws_markEntryS (k : Nat) (p0 : (List TEntry)) (p1 : Int) : Option (Int × (List TEntry)) := ((loopM (laws_markEntryS_b0) k (p0, p1, 0)).bind fun o64 => match o64 with | .out (l65, i66, i67) => some (i66, l65) | .ret r => some r | .next _ => none)
/-! laws.markChangeS -/
def laws_markChangeS_b0 (k : Nat) : ((List TChange) × Int × Int) → Option (Nx ((List TChange) × Int × Int) (Int × (List TChange)))
  | (l15, i16, i17) => (if (decide (i17 < ((List.length l15 : Nat) : Int))) = true then (if (0 : Int) ≤ i17 ∧ i17 < ((List.length l15 : Nat) : Int) then ((some (List.set l15 (Int.toNat i17) (⟨i16, (gt l15 i17).N⟩ : TChange))).bind fun l33 => (if (0 : Int) ≤ i17 ∧ i17 < ((List.length l33 : Nat) : Int) then ((some (List.set l33 (Int.toNat i17) (⟨(gt l33 i17).Page, (⟨(decide ((Int.tmod (wrap64 (i16 + 1)) 3) = 0)), (gt l33 i17).N.L⟩ : TNode)⟩ : TChange))).bind fun l37 => (if (0 : Int) ≤ i17 ∧ i17 < ((List.length l37 : Nat) : Int) then ((laws_markEntryS k ((gt l37 i17).N.L) (wrap64 ((wrap64 (i16 + 1)) + 1))).bind fun t43 => (if List.length t43.2 = List.length ((gt l37 i17).N.L) then some (.next ((List.set l37 (Int.toNat i17) (⟨(gt l37 i17).Page, (⟨(gt l37 i17).N.Leaf, t43.2⟩ : TNode)⟩ : TChange)), t43.1, (wrap64 (i17 + 1)))) else none)) else none)) else none)) else none) else some (.out (l15, i16, i17)))
def laws_markChangeS (k : Nat) (p0 : (List TChange)) (p1 : Int) : Option (Int × (List TChange)) := ((loopM (laws_markChangeS_b0 k) k (p0, p1, 0)).bind fun o46 => match o46 with | .out (l47, i48, i49) => some (i48, l47) | .ret r => some r | .next _ => none)
/-! laws.markTx -/
def laws_markTx (k : Nat) (p0 : TTx) (p1 : Int) : Option (Int × (List TChange)) := ((laws_markChangeS k p0.Puts p1).bind fun t2 => (if List.length t2.2 = List.length p0.Puts then some (t2.1, t2.2) else none))
/-! laws.heldByteS -/
def laws_heldByteS_b0 (p0 : (List Int)) : (Int × Int) → Option (Nx (Int × Int) (Int))
  | (i2, i3) => (if (decide (i3 < ((List.length p0 : Nat) : Int))) = true then (if (0 : Int) ≤ i3 ∧ i3 < ((List.length p0 : Nat) : Int) then (if (!decide ((gt p0 i3) = (IntKind.u8.wrap i2))) = true then some (.ret (-1)) else some (.next ((wrap64 (i2 + 1)), (wrap64 (i3 + 1))))) else none) else some (.out (i2, i3)))
def laws_heldByteS (k : Nat) (p0 : (List Int)) (p1 : Int) : Option (Int) := ((loopM (laws_heldByteS_b0 p0) k (p1, 0)).bind fun o6 => match o6 with | .out (i7, i8) => some i7 | .ret r => some r | .next _ => none)
/-! laws.heldCellS -/
def laws_heldCellS_b0 (k : Nat) (p0 : (List TCell)) : (Int × Int) → Option (Nx (Int × Int) (Int))
  | (i13, i14) => (if (decide (i14 < ((List.length p0 : Nat) : Int))) = true then (if (0 : Int) ≤ i14 ∧ i14 < ((List.length p0 : Nat) : Int) then (if (!(((gt p0 i14).Bad) == (decide ((Int.tmod i13 3) = 0)))) = true then some (.ret (-1)) else (if (0 : Int) ≤ i14 ∧ i14 < ((List.length p0 : Nat) : Int) then ((laws_heldByteS k ((gt p0 i14).B) (wrap64 (i13 + 1))).bind fun t37 => (if (decide (t37 < 0)) = true then some (.ret (-1)) else some (.next (t37, (wrap64 (i14 + 1)))))) else none)) else none) else some (.out (i13, i14)))
def laws_heldCellS (k : Nat) (p0 : (List TCell)) (p1 : Int) : Option (Int) := ((loopM (laws_heldCellS_b0 k p0) k (p1, 0)).bind fun o39 => match o39 with | .out (i40, i41) => some i40 | .ret r => some r | .next _ => none)
/-! laws.heldWetS -/
def laws_heldWetS_b0 (k : Nat) (p0 : (List TWet)) : (Int × Int) → Option (Nx (Int × Int) (Int))
  | (i13, i14) => (if (decide (i14 < ((List.length p0 : Nat) : Int))) = true then (if (0 : Int) ≤ i14 ∧ i14 < ((List.length p0 : Nat) : Int) then (if (!decide (((gt p0 i14).At) = i13)) = true then some (.ret (-1)) else (if (0 : Int) ≤ i14 ∧ i14 < ((List.length p0 : Nat) : Int) then ((laws_heldByteS k ((gt p0 i14).B) (wrap64 (i13 + 1))).bind fun t37 => (if (decide (t37 < 0)) = true then some (.ret (-1)) else some (.next (t37, (wrap64 (i14 + 1)))))) else none)) else none) else some (.out (i13, i14)))
def laws_heldWetS (k : Nat) (p0 : (List TWet)) (p1 : Int) : Option (Int) := ((loopM (laws_heldWetS_b0 k p0) k (p1, 0)).bind fun o39 => match o39 with | .out (i40, i41) => some i40 | .ret r => some r | .next _ => none)
/-! laws.heldDisk -/
def laws_heldDisk (k : Nat) (p0 : TDisk) (p1 : Int) : Option (Int) := ((laws_heldCellS k p0.Cells p1).bind fun t2 => (if (decide (t2 < 0)) = true then some (-1) else ((laws_heldWetS k p0.Wet t2).bind fun t4 => (if (decide (t4 < 0)) = true then some (-1) else some t4))))
/-! laws.FnExactAppend -/
def laws_FnExactAppend (k : Nat) (p0 : TDisk) (p1 : Int) (p2 : Int) (p3 : TTx) : Option (Bool) := ((laws_szDisk k p0 1048576).bind fun t3 => (if (decide (t3 < 0)) = true then some true else ((laws_szTx k p3 t3).bind fun t5 => (if (decide (t5 < 0)) = true then some true else ((laws_toDisk k p0).bind fun t8 => ((laws_toTx k p3).bind fun t14 => ((spec_Append k t8 p1 p2 t14).bind fun t18 => ((laws_toDisk k p0).bind fun t25 => ((laws_toTx k p3).bind fun t32 => ((impl_Append k t25 p1 p2 t32).bind fun t37 => ((laws_eqDisk k t37.1 t18.1).bind fun t44 => (if ((!t44) || (!decide (t37.2 = t18.2))) = true then some false else ((laws_toDisk k p0).bind fun t48 => ((laws_eqDisk k t25 t48).bind fun t54 => (if (!t54) = true then some false else ((laws_toTx k p3).bind fun t57 => ((laws_eqTx k t32 t57).bind fun t61 => (if (!t61) = true then some false else ((laws_markDisk k t25 1).bind fun t63 => (if List.length t63.2.1 = List.length t25.Cells then (if List.length t63.2.2 = List.length t25.Wet then ((laws_markTx k t32 t63.1).bind fun t67 => (if List.length t67.2 = List.length t32.Puts then (((if (decide (t67.1 < 0)) = true then some true else ((laws_eqDisk k t37.1 t18.1).bind fun t71 => some (!t71)))).bind fun c73 => (if (c73 || (!decide (t37.2 = t18.2))) = true then some false else ((laws_markDisk k t37.1 1).bind fun t76 => (if List.length t76.2.1 = List.length t37.1.Cells then (if List.length t76.2.2 = List.length t37.1.Wet then ((laws_heldDisk k (⟨t76.2.1, t76.2.2, t37.1.Fuse, t37.1.Dead⟩ : TDisk) 1).bind fun t80 => (if (decide (t80 < 0)) = true then some false else (if (!decide (t80 = t76.1)) = true then some false else ((laws_toDisk k p0).bind fun t83 => ((laws_toTx k p3).bind fun t89 => ((impl_Append k t83 p1 p2 t89).bind fun t93 => ((laws_eqDisk k t93.1 t18.1).bind fun t100 => (if ((!t100) || (!decide (t93.2 = t18.2))) = true then some false else ((laws_heldDisk k (⟨t76.2.1, t76.2.2, t37.1.Fuse, t37.1.Dead⟩ : TDisk) 1).bind fun t103 => (if (decide (t103 < 0)) = true then some false else (if (!decide (t103 = t76.1)) = true then some false else some true))))))))))) else none) else none)))) else none)) else none) else none))))))))))))))))))))
end Go.Proofs.Sx
