import Derived.Test.YtgfhnepkpbmbcaaLK
import Derived.Test.YtgfhnepkpbmbcaaLM
import Derived.KernelRfl
namespace Go.Proofs.Sx
open Go.RowKit
set_option linter.unusedVariables false
set_option linter.unusedSimpArgs false
set_option maxRecDepth 20000
set_option maxHeartbeats 1000000
structure TBox where
  X0 : Int
  Y0 : Int
  X1 : Int
  Y1 : Int
  deriving DecidableEq, Inhabited
structure TEntry where
  N : Int
  R : TBox
  deriving DecidableEq, Inhabited
structure TNode where
  Leaf : Bool
  L : (List TEntry)
  deriving DecidableEq, Inhabited
structure TPage where
  Used : Bool
  N : TNode
  deriving DecidableEq, Inhabited
structure TBook where
  Root : Int
  L : (List TPage)
  deriving DecidableEq, Inhabited
structure TItem where
  Id : Int
  R : TBox
  deriving DecidableEq, Inhabited
structure TVac where
  Phase : Int
  Todo : (List Int)
  Run : (List TItem)
  Row : (List TEntry)
  Next : (List TEntry)
  Made : (List Int)
  deriving DecidableEq, Inhabited
def wfTBox (x : TBox) : Prop := wfI x.X0 ∧ wfI x.Y0 ∧ wfI x.X1 ∧ wfI x.Y1
def wfTEntry (x : TEntry) : Prop := wfI x.N ∧ wfTBox x.R
def wfTNode (x : TNode) : Prop := wfB x.Leaf ∧ (wfL wfTEntry) x.L
def wfTPage (x : TPage) : Prop := wfB x.Used ∧ wfTNode x.N
def wfTBook (x : TBook) : Prop := wfI x.Root ∧ (wfL wfTPage) x.L
def wfTItem (x : TItem) : Prop := wfI x.Id ∧ wfTBox x.R
def wfTVac (x : TVac) : Prop := wfI x.Phase ∧ (wfL wfI) x.Todo ∧ (wfL wfTItem) x.Run ∧ (wfL wfTEntry) x.Row ∧ (wfL wfTEntry) x.Next ∧ (wfL wfI) x.Made
/-! laws.szEntryS -/
def laws_szEntryS (p0 : (List TEntry)) (p1 : Int) : Option (Int) := (if (decide ((wrap64 (p1 - ((List.length p0 : Nat) : Int))) < 0)) = true then some (-1) else some (wrap64 (p1 - ((List.length p0 : Nat) : Int))))
/-! laws.szNode -/
def laws_szNode (p0 : TNode) (p1 : Int) : Option (Int) := ((laws_szEntryS p0.L p1).bind fun t2 => (if (decide (t2 < 0)) = true then some (-1) else some t2))
/-! laws.szPage -/
def laws_szPage (p0 : TPage) (p1 : Int) : Option (Int) := ((laws_szNode p0.N p1).bind fun t2 => (if (decide (t2 < 0)) = true then some (-1) else some t2))
/-! laws.szPageS -/
def laws_szPageS_b0 (p0 : (List TPage)) : (Int × Int) → Option (Nx (Int × Int) (Int))
  | (i8, i9) => (if (decide (i9 < ((List.length p0 : Nat) : Int))) = true then (if (0 : Int) ≤ i9 ∧ i9 < ((List.length p0 : Nat) : Int) then ((laws_szPage (gt p0 i9) i8).bind fun t22 => (if (decide (t22 < 0)) = true then some (.ret (-1)) else some (.next (t22, (wrap64 (i9 + 1)))))) else none) else some (.out (i8, i9)))
def laws_szPageS (k : Nat) (p0 : (List TPage)) (p1 : Int) : Option (Int) := (if (decide ((wrap64 (p1 - ((List.length p0 : Nat) : Int))) < 0)) = true then some (-1) else ((loopM (laws_szPageS_b0 p0) k ((wrap64 (p1 - ((List.length p0 : Nat) : Int))), 0)).bind fun o24 => match o24 with | .out (i25, i26) => some i25 | .ret r => some r | .next _ => none))
/-! laws.szBook -/
def laws_szBook (k : Nat) (p0 : TBook) (p1 : Int) : Option (Int) := ((laws_szPageS k p0.L p1).bind fun t2 => (if (decide (t2 < 0)) = true then some (-1) else some t2))
/-! laws.szIntS -/
def laws_szIntS (p0 : (List Int)) (p1 : Int) : Option (Int) := (if (decide ((wrap64 (p1 - ((List.length p0 : Nat) : Int))) < 0)) = true then some (-1) else some (wrap64 (p1 - ((List.length p0 : Nat) : Int))))
/-! laws.szItemS -/
def laws_szItemS (p0 : (List TItem)) (p1 : Int) : Option (Int) := (if (decide ((wrap64 (p1 - ((List.length p0 : Nat) : Int))) < 0)) = true then some (-1) else some (wrap64 (p1 - ((List.length p0 : Nat) : Int))))
/-! laws.szVac -/
def laws_szVac (p0 : TVac) (p1 : Int) : Option (Int) := ((laws_szIntS p0.Todo p1).bind fun t2 => (if (decide (t2 < 0)) = true then some (-1) else ((laws_szItemS p0.Run t2).bind fun t4 => (if (decide (t4 < 0)) = true then some (-1) else ((laws_szEntryS p0.Row t4).bind fun t6 => (if (decide (t6 < 0)) = true then some (-1) else ((laws_szEntryS p0.Next t6).bind fun t8 => (if (decide (t8 < 0)) = true then some (-1) else ((laws_szIntS p0.Made t8).bind fun t10 => (if (decide (t10 < 0)) = true then some (-1) else some t10))))))))))
/-! laws.toBox -/
def laws_toBox (p0 : TBox) : Option (TBox) := some p0
/-! laws.toEntry -/
def laws_toEntry (p0 : TEntry) : Option (TEntry) := ((laws_toBox p0.R).bind fun t4 => some (⟨p0.N, t4⟩ : TEntry))
/-! laws.toEntryS -/
def laws_toEntryS_b0 (p0 : (List TEntry)) : ((List TEntry) × Int) → Option (Nx ((List TEntry) × Int) ((List TEntry)))
  | (l11, i12) => (if (decide (i12 < ((List.length p0 : Nat) : Int))) = true then (if (0 : Int) ≤ i12 ∧ i12 < ((List.length p0 : Nat) : Int) then ((laws_toEntry (gt p0 i12)).bind fun t21 => (if (0 : Int) ≤ i12 ∧ i12 < ((List.length l11 : Nat) : Int) then ((some (List.set l11 (Int.toNat i12) t21)).bind fun l24 => some (.next (l24, (wrap64 (i12 + 1))))) else none)) else none) else some (.out (l11, i12)))
def laws_toEntryS (k : Nat) (p0 : (List TEntry)) : Option ((List TEntry)) := (if (0 : Int) ≤ ((List.length p0 : Nat) : Int) ∧ okLen (Int.toNat ((List.length p0 : Nat) : Int)) = true then ((loopM (laws_toEntryS_b0 p0) k ((List.replicate (Int.toNat ((List.length p0 : Nat) : Int)) (⟨(0 : Int), (⟨(0 : Int), (0 : Int), (0 : Int), (0 : Int)⟩ : TBox)⟩ : TEntry)), 0)).bind fun o27 => match o27 with | .out (l28, i29) => some l28 | .ret r => some r | .next _ => none) else none)
/-! laws.toNode -/
def laws_toNode (k : Nat) (p0 : TNode) : Option (TNode) := ((laws_toEntryS k p0.L).bind fun t4 => some (⟨p0.Leaf, t4⟩ : TNode))
/-! laws.toPage -/
def laws_toPage (k : Nat) (p0 : TPage) : Option (TPage) := ((laws_toNode k p0.N).bind fun t4 => some (⟨p0.Used, t4⟩ : TPage))
/-! laws.toPageS -/
def laws_toPageS_b0 (k : Nat) (p0 : (List TPage)) : ((List TPage) × Int) → Option (Nx ((List TPage) × Int) ((List TPage)))
  | (l17, i18) => (if (decide (i18 < ((List.length p0 : Nat) : Int))) = true then (if (0 : Int) ≤ i18 ∧ i18 < ((List.length p0 : Nat) : Int) then ((laws_toPage k (gt p0 i18)).bind fun t37 => (if (0 : Int) ≤ i18 ∧ i18 < ((List.length l17 : Nat) : Int) then ((some (List.set l17 (Int.toNat i18) t37)).bind fun l42 => some (.next (l42, (wrap64 (i18 + 1))))) else none)) else none) else some (.out (l17, i18)))
def laws_toPageS (k : Nat) (p0 : (List TPage)) : Option ((List TPage)) := (if (0 : Int) ≤ ((List.length p0 : Nat) : Int) ∧ okLen (Int.toNat ((List.length p0 : Nat) : Int)) = true then ((loopM (laws_toPageS_b0 k p0) k ((List.replicate (Int.toNat ((List.length p0 : Nat) : Int)) (⟨false, (⟨false, ([] : (List TEntry))⟩ : TNode)⟩ : TPage)), 0)).bind fun o45 => match o45 with | .out (l46, i47) => some l46 | .ret r => some r | .next _ => none) else none)
/-! laws.toBook -/
def laws_toBook (k : Nat) (p0 : TBook) : Option (TBook) := ((laws_toPageS k p0.L).bind fun t4 => some (⟨p0.Root, t4⟩ : TBook))
/-! laws.toIntS -/
def laws_toIntS_b0 (p0 : (List Int)) : ((List Int) × Int) → Option (Nx ((List Int) × Int) ((List Int)))
  | (l9, i10) => (if (decide (i10 < ((List.length p0 : Nat) : Int))) = true then (if (0 : Int) ≤ i10 ∧ i10 < ((List.length p0 : Nat) : Int) then (if (0 : Int) ≤ i10 ∧ i10 < ((List.length l9 : Nat) : Int) then ((some (List.set l9 (Int.toNat i10) (gt p0 i10))).bind fun l18 => some (.next (l18, (wrap64 (i10 + 1))))) else none) else none) else some (.out (l9, i10)))
def laws_toIntS (k : Nat) (p0 : (List Int)) : Option ((List Int)) := (if (0 : Int) ≤ ((List.length p0 : Nat) : Int) ∧ okLen (Int.toNat ((List.length p0 : Nat) : Int)) = true then ((loopM (laws_toIntS_b0 p0) k ((List.replicate (Int.toNat ((List.length p0 : Nat) : Int)) (0 : Int)), 0)).bind fun o21 => match o21 with | .out (l22, i23) => some l22 | .ret r => some r | .next _ => none) else none)
/-! laws.toItem -/
def laws_toItem (p0 : TItem) : Option (TItem) := ((laws_toBox p0.R).bind fun t4 => some (⟨p0.Id, t4⟩ : TItem))
/-! laws.toItemS -/
def laws_toItemS_b0 (p0 : (List TItem)) : ((List TItem) × Int) → Option (Nx ((List TItem) × Int) ((List TItem)))
  | (l11, i12) => (if (decide (i12 < ((List.length p0 : Nat) : Int))) = true then (if (0 : Int) ≤ i12 ∧ i12 < ((List.length p0 : Nat) : Int) then ((laws_toItem (gt p0 i12)).bind fun t21 => (if (0 : Int) ≤ i12 ∧ i12 < ((List.length l11 : Nat) : Int) then ((some (List.set l11 (Int.toNat i12) t21)).bind fun l24 => some (.next (l24, (wrap64 (i12 + 1))))) else none)) else none) else some (.out (l11, i12)))
def laws_toItemS (k : Nat) (p0 : (List TItem)) : Option ((List TItem)) := (if (0 : Int) ≤ ((List.length p0 : Nat) : Int) ∧ okLen (Int.toNat ((List.length p0 : Nat) : Int)) = true then ((loopM (laws_toItemS_b0 p0) k ((List.replicate (Int.toNat ((List.length p0 : Nat) : Int)) (⟨(0 : Int), (⟨(0 : Int), (0 : Int), (0 : Int), (0 : Int)⟩ : TBox)⟩ : TItem)), 0)).bind fun o27 => match o27 with | .out (l28, i29) => some l28 | .ret r => some r | .next _ => none) else none)
/-! laws.toVac -/
def laws_toVac (k : Nat) (p0 : TVac) : Option (TVac) := ((laws_toIntS k p0.Todo).bind fun t4 => ((laws_toItemS k p0.Run).bind fun t8 => ((laws_toEntryS k p0.Row).bind fun t12 => ((laws_toEntryS k p0.Next).bind fun t16 => ((laws_toIntS k p0.Made).bind fun t20 => some (⟨p0.Phase, t4, t8, t12, t16, t20⟩ : TVac))))))
/-! spec.l1In -/
def spec_l1In (p0 : Int) (p1 : Int) (p2 : Int) : Option (Bool) := some ((decide (p0 ≥ p1)) && (decide (p0 ≤ p2)))
/-! spec.l5Copy -/
def spec_l5Copy (p0 : TNode) : Option (TNode) := (if okLen (List.length ([] : (List TEntry)) + List.length p0.L) = true then some (⟨p0.Leaf, (([] : (List TEntry)) ++ p0.L)⟩ : TNode) else none)
/-! spec.l7Copy -/
def spec_l7Copy_b0 (p0 : TBook) : (Int × (List TPage)) → Option (Nx (Int × (List TPage)) (TBook))
  | (i26, l27) => (if (decide (i26 < ((List.length p0.L : Nat) : Int))) = true then (if (0 : Int) ≤ i26 ∧ i26 < ((List.length p0.L : Nat) : Int) then (if (0 : Int) ≤ i26 ∧ i26 < ((List.length p0.L : Nat) : Int) then ((spec_l5Copy ((gt p0.L i26).N)).bind fun t61 => (if okLen (List.length l27 + List.length ([(⟨(gt p0.L i26).Used, t61⟩ : TPage)] : (List TPage))) = true then some (.next ((wrap64 (i26 + 1)), (l27 ++ ([(⟨(gt p0.L i26).Used, t61⟩ : TPage)] : (List TPage))))) else none)) else none) else none) else some (.out (i26, l27)))
def spec_l7Copy (k : Nat) (p0 : TBook) : Option (TBook) := ((loopM (spec_l7Copy_b0 p0) k (0, ([] : (List TPage)))).bind fun o70 => match o70 with | .out (i71, l72) => some (⟨p0.Root, l72⟩ : TBook) | .ret r => some r | .next _ => none)
/-! spec.Free -/
def spec_Free_b0 (p0 : TBook) (p1 : (List Int)) : (Int × (List TPage)) → Option (Nx (Int × (List TPage)) (TBook))
  | (i18, l19) => (if (decide (i18 < ((List.length p1 : Nat) : Int))) = true then (if (0 : Int) ≤ i18 ∧ i18 < ((List.length p1 : Nat) : Int) then ((spec_l1In (gt p1 i18) 0 (wrap64 (((List.length p0.L : Nat) : Int) - 1))).bind fun t32 => (if t32 = true then (if (0 : Int) ≤ i18 ∧ i18 < ((List.length p1 : Nat) : Int) then (if (0 : Int) ≤ (gt p1 i18) ∧ (gt p1 i18) < ((List.length l19 : Nat) : Int) then ((some (List.set l19 (Int.toNat (gt p1 i18)) (⟨false, (⟨false, ([] : (List TEntry))⟩ : TNode)⟩ : TPage))).bind fun l37 => some (.next ((wrap64 (i18 + 1)), l37))) else none) else none) else some (.next ((wrap64 (i18 + 1)), l19)))) else none) else some (.out (i18, l19)))
def spec_Free (k : Nat) (p0 : TBook) (p1 : (List Int)) : Option (TBook) := ((spec_l7Copy k p0).bind fun t3 => ((loopM (spec_Free_b0 p0 p1) k (0, t3.L)).bind fun o40 => match o40 with | .out (i41, l42) => some (⟨t3.Root, l42⟩ : TBook) | .ret r => some r | .next _ => none))
/-! spec.VacDrop -/
def spec_VacDrop (k : Nat) (p0 : TBook) (p1 : TVac) : Option (TBook) := ((spec_l1In p1.Phase 1 4).bind fun t4 => (if (!t4) = true then ((spec_l7Copy k p0).bind fun t6 => some t6) else ((spec_Free k p0 p1.Made).bind fun t10 => some t10)))
/-! impl.in -/
def impl_in (p0 : Int) (p1 : Int) (p2 : Int) : Option (Bool) := some ((decide (p1 ≤ p0)) && (decide (p0 ≤ p2)))
/-! impl.building -/
def impl_building (p0 : TVac) : Option (Bool) := ((impl_in p0.Phase 1 4).bind fun t2 => some t2)
/-! slices.Clone(()impl.Entry,impl.Entry) -/
def slices_Clone_impl_Entry_impl_Entry (p0 : (List TEntry)) : Option ((List TEntry)) := (if okLen (List.length p0) = true then some p0 else none)
/-! impl.copyNode -/
def impl_copyNode (p0 : TNode) : Option (TNode) := ((slices_Clone_impl_Entry_impl_Entry p0.L).bind fun t4 => some (⟨p0.Leaf, t4⟩ : TNode))
/-! impl.copyBook -/
def impl_copyBook_b0 (p0 : TBook) : ((List TPage) × Int) → Option (Nx ((List TPage) × Int) (TBook))
  | (l19, i22) => (if (decide (i22 < ((List.length p0.L : Nat) : Int))) = true then (if (0 : Int) ≤ i22 ∧ i22 < ((List.length p0.L : Nat) : Int) then ((impl_copyNode ((gt p0.L i22).N)).bind fun t46 => (if okLen (List.length l19 + List.length ([(⟨(gt p0.L i22).Used, t46⟩ : TPage)] : (List TPage))) = true then some (.next ((l19 ++ ([(⟨(gt p0.L i22).Used, t46⟩ : TPage)] : (List TPage))), (wrap64 (i22 + 1)))) else none)) else none) else some (.out (l19, i22)))
def impl_copyBook (k : Nat) (p0 : TBook) : Option (TBook) := ((loopM (impl_copyBook_b0 p0) k (([] : List TPage), 0)).bind fun o55 => match o55 with | .out (l56, i59) => some (⟨p0.Root, l56⟩ : TBook) | .ret r => some r | .next _ => none)
/-! impl.exists -/
def impl_exists (p0 : TBook) (p1 : Int) : Option (Bool) := some ((decide (p1 ≥ 0)) && (decide (p1 < ((List.length p0.L : Nat) : Int))))
/-! impl.Free -/
def impl_Free_b0 (p0 : TBook) (p1 : (List Int)) : (Int × (List TPage)) → Option (Nx (Int × (List TPage)) (TBook))
  | (i15, l16) => (if (decide (i15 < ((List.length p1 : Nat) : Int))) = true then (if (0 : Int) ≤ i15 ∧ i15 < ((List.length p1 : Nat) : Int) then ((impl_exists p0 (gt p1 i15)).bind fun t25 => (if t25 = true then (if (0 : Int) ≤ (gt p1 i15) ∧ (gt p1 i15) < ((List.length l16 : Nat) : Int) then ((some (List.set l16 (Int.toNat (gt p1 i15)) (⟨false, (⟨false, ([] : (List TEntry))⟩ : TNode)⟩ : TPage))).bind fun l28 => some (.next ((wrap64 (i15 + 1)), l28))) else none) else some (.next ((wrap64 (i15 + 1)), l16)))) else none) else some (.out (i15, l16)))
def impl_Free (k : Nat) (p0 : TBook) (p1 : (List Int)) : Option (TBook) := ((impl_copyBook k p0).bind fun t3 => ((loopM (impl_Free_b0 p0 p1) k (0, t3.L)).bind fun o31 => match o31 with | .out (i32, l33) => some (⟨t3.Root, l33⟩ : TBook) | .ret r => some r | .next _ => none))
/-! impl.VacDrop -/
def impl_VacDrop (k : Nat) (p0 : TBook) (p1 : TVac) : Option (TBook) := ((impl_building p1).bind fun t4 => (if (!t4) = true then ((impl_copyBook k p0).bind fun t6 => some t6) else ((impl_Free k p0 p1.Made).bind fun t10 => some t10)))
/-! laws.eqBox -/
def laws_eqBox (p0 : TBox) (p1 : TBox) : Option (Bool) := (if (!decide (p0.X0 = p1.X0)) = true then some false else (if (!decide (p0.Y0 = p1.Y0)) = true then some false else (if (!decide (p0.X1 = p1.X1)) = true then some false else (if (!decide (p0.Y1 = p1.Y1)) = true then some false else some true))))
/-! laws.eqEntry -/
def laws_eqEntry (p0 : TEntry) (p1 : TEntry) : Option (Bool) := (if (!decide (p0.N = p1.N)) = true then some false else ((laws_eqBox p0.R p1.R).bind fun t3 => (if (!t3) = true then some false else some true)))
/-! laws.eqEntryS -/
def laws_eqEntryS_b0 (p0 : (List TEntry)) (p1 : (List TEntry)) : Int → Option (Nx (Int) (Bool))
  | i6 => (if (decide (i6 < ((List.length p0 : Nat) : Int))) = true then (if (0 : Int) ≤ i6 ∧ i6 < ((List.length p0 : Nat) : Int) then (if (0 : Int) ≤ i6 ∧ i6 < ((List.length p1 : Nat) : Int) then ((laws_eqEntry (gt p0 i6) (gt p1 i6)).bind fun t15 => (if (!t15) = true then some (.ret false) else some (.next (wrap64 (i6 + 1))))) else none) else none) else some (.out i6))
def laws_eqEntryS (k : Nat) (p0 : (List TEntry)) (p1 : (List TEntry)) : Option (Bool) := (if (!decide (((List.length p0 : Nat) : Int) = ((List.length p1 : Nat) : Int))) = true then some false else ((loopM (laws_eqEntryS_b0 p0 p1) k 0).bind fun o17 => match o17 with | .out i18 => some true | .ret r => some r | .next _ => none))
/-! laws.eqNode -/
def laws_eqNode (k : Nat) (p0 : TNode) (p1 : TNode) : Option (Bool) := (if (!(p0.Leaf == p1.Leaf)) = true then some false else ((laws_eqEntryS k p0.L p1.L).bind fun t3 => (if (!t3) = true then some false else some true)))
/-! laws.eqPage -/
def laws_eqPage (k : Nat) (p0 : TPage) (p1 : TPage) : Option (Bool) := (if (!(p0.Used == p1.Used)) = true then some false else ((laws_eqNode k p0.N p1.N).bind fun t3 => (if (!t3) = true then some false else some true)))
/-! laws.eqPageS -/
def laws_eqPageS_b0 (k : Nat) (p0 : (List TPage)) (p1 : (List TPage)) : Int → Option (Nx (Int) (Bool))
  | i14 => (if (decide (i14 < ((List.length p0 : Nat) : Int))) = true then (if (0 : Int) ≤ i14 ∧ i14 < ((List.length p0 : Nat) : Int) then (if (0 : Int) ≤ i14 ∧ i14 < ((List.length p1 : Nat) : Int) then ((laws_eqPage k (gt p0 i14) (gt p1 i14)).bind fun t39 => (if (!t39) = true then some (.ret false) else some (.next (wrap64 (i14 + 1))))) else none) else none) else some (.out i14))
def laws_eqPageS (k : Nat) (p0 : (List TPage)) (p1 : (List TPage)) : Option (Bool) := (if (!decide (((List.length p0 : Nat) : Int) = ((List.length p1 : Nat) : Int))) = true then some false else ((loopM (laws_eqPageS_b0 k p0 p1) k 0).bind fun o41 => match o41 with | .out i42 => some true | .ret r => some r | .next _ => none))
/-! laws.eqBook -/
def laws_eqBook (k : Nat) (p0 : TBook) (p1 : TBook) : Option (Bool) := (if (!decide (p0.Root = p1.Root)) = true then some false else ((laws_eqPageS k p0.L p1.L).bind fun t3 => (if (!t3) = true then some false else some true)))
/-! laws.eqIntS -/
def laws_eqIntS_b0 (p0 : (List Int)) (p1 : (List Int)) : Int → Option (Nx (Int) (Bool))
  | i4 => (if (decide (i4 < ((List.length p0 : Nat) : Int))) = true then (if (0 : Int) ≤ i4 ∧ i4 < ((List.length p0 : Nat) : Int) then (if (0 : Int) ≤ i4 ∧ i4 < ((List.length p1 : Nat) : Int) then (if (!decide ((gt p0 i4) = (gt p1 i4))) = true then some (.ret false) else some (.next (wrap64 (i4 + 1)))) else none) else none) else some (.out i4))
def laws_eqIntS (k : Nat) (p0 : (List Int)) (p1 : (List Int)) : Option (Bool) := (if (!decide (((List.length p0 : Nat) : Int) = ((List.length p1 : Nat) : Int))) = true then some false else ((loopM (laws_eqIntS_b0 p0 p1) k 0).bind fun o11 => match o11 with | .out i12 => some true | .ret r => some r | .next _ => none))
/-! laws.eqItem -/
def laws_eqItem (p0 : TItem) (p1 : TItem) : Option (Bool) := (if (!decide (p0.Id = p1.Id)) = true then some false else ((laws_eqBox p0.R p1.R).bind fun t3 => (if (!t3) = true then some false else some true)))
/-! laws.eqItemS -/
def laws_eqItemS_b0 (p0 : (List TItem)) (p1 : (List TItem)) : Int → Option (Nx (Int) (Bool))
  | i6 => (if (decide (i6 < ((List.length p0 : Nat) : Int))) = true then (if (0 : Int) ≤ i6 ∧ i6 < ((List.length p0 : Nat) : Int) then (if (0 : Int) ≤ i6 ∧ i6 < ((List.length p1 : Nat) : Int) then ((laws_eqItem (gt p0 i6) (gt p1 i6)).bind fun t15 => (if (!t15) = true then some (.ret false) else some (.next (wrap64 (i6 + 1))))) else none) else none) else some (.out i6))
def laws_eqItemS (k : Nat) (p0 : (List TItem)) (p1 : (List TItem)) : Option (Bool) := (if (!decide (((List.length p0 : Nat) : Int) = ((List.length p1 : Nat) : Int))) = true then some false else ((loopM (laws_eqItemS_b0 p0 p1) k 0).bind fun o17 => match o17 with | .out i18 => some true | .ret r => some r | .next _ => none))
/-! laws.eqVac -/
def laws_eqVac (k : Nat) (p0 : TVac) (p1 : TVac) : Option (Bool) := (if (!decide (p0.Phase = p1.Phase)) = true then some false else ((laws_eqIntS k p0.Todo p1.Todo).bind fun t3 => (if (!t3) = true then some false else ((laws_eqItemS k p0.Run p1.Run).bind fun t5 => (if (!t5) = true then some false else ((laws_eqEntryS k p0.Row p1.Row).bind fun t7 => (if (!t7) = true then some false else ((laws_eqEntryS k p0.Next p1.Next).bind fun t9 => (if (!t9) = true then some false else ((laws_eqIntS k p0.Made p1.Made).bind fun t11 => (if (!t11) = true then some false else some true)))))))))))
/-! laws.markEntryS -/
def laws_markEntryS_b0 : ((List TEntry) × Int × Int) → Option (Nx ((List TEntry) × Int × Int) (Int × (List TEntry)))
  | (l21, i22, i23) => (if (decide (i23 < ((List.length l21 : Nat) : Int))) = true then (if (0 : Int) ≤ i23 ∧ i23 < ((List.length l21 : Nat) : Int) then ((some (List.set l21 (Int.toNat i23) (⟨i22, (gt l21 i23).R⟩ : TEntry))).bind fun l45 => (if (0 : Int) ≤ i23 ∧ i23 < ((List.length l45 : Nat) : Int) then ((some (List.set l45 (Int.toNat i23) (⟨(gt l45 i23).N, (⟨(wrap64 (i22 + 1)), (gt l45 i23).R.Y0, (gt l45 i23).R.X1, (gt l45 i23).R.Y1⟩ : TBox)⟩ : TEntry))).bind fun l49 => (if (0 : Int) ≤ i23 ∧ i23 < ((List.length l49 : Nat) : Int) then ((some (List.set l49 (Int.toNat i23) (⟨(gt l49 i23).N, (⟨(gt l49 i23).R.X0, (wrap64 ((wrap64 (i22 + 1)) + 1)), (gt l49 i23).R.X1, (gt l49 i23).R.Y1⟩ : TBox)⟩ : TEntry))).bind fun l53 => (if (0 : Int) ≤ i23 ∧ i23 < ((List.length l53 : Nat) : Int) then ((some (List.set l53 (Int.toNat i23) (⟨(gt l53 i23).N, (⟨(gt l53 i23).R.X0, (gt l53 i23).R.Y0, (wrap64 ((wrap64 ((wrap64 (i22 + 1)) + 1)) + 1)), (gt l53 i23).R.Y1⟩ : TBox)⟩ : TEntry))).bind fun l57 => (if (0 : Int) ≤ i23 ∧ i23 < ((List.length l57 : Nat) : Int) then ((some (List.set l57 (Int.toNat i23) (⟨(gt l57 i23).N, (⟨(gt l57 i23).R.X0, (gt l57 i23).R.Y0, (gt l57 i23).R.X1, (wrap64 ((wrap64 ((wrap64 ((wrap64 (i22 + 1)) + 1)) + 1)) + 1))⟩ : TBox)⟩ : TEntry))).bind fun l61 => some (.next (l61, (wrap64 ((wrap64 ((wrap64 ((wrap64 ((wrap64 (i22 + 1)) + 1)) + 1)) + 1)) + 1)), (wrap64 (i23 + 1))))) else none)) else none)) else none)) else none)) else none) else some (.out (l21, i22, i23)))
def laws_markEntryS (k : Nat) (p0 : (List TEntry)) (p1 : Int) : Option (Int × (List TEntry)) := ((loopM (laws_markEntryS_b0) k (p0, p1, 0)).bind fun o64 => match o64 with | .out (l65, i66, i67) => some (i66, l65) | .ret r => some r | .next _ => none)
/-! laws.markPageS -/
def laws_markPageS_b0 (k : Nat) : ((List TPage) × Int × Int) → Option (Nx ((List TPage) × Int × Int) (Int × (List TPage)))
  | (l15, i16, i17) => (if (decide (i17 < ((List.length l15 : Nat) : Int))) = true then (if (0 : Int) ≤ i17 ∧ i17 < ((List.length l15 : Nat) : Int) then ((some (List.set l15 (Int.toNat i17) (⟨(decide ((Int.tmod i16 3) = 0)), (gt l15 i17).N⟩ : TPage))).bind fun l33 => (if (0 : Int) ≤ i17 ∧ i17 < ((List.length l33 : Nat) : Int) then ((some (List.set l33 (Int.toNat i17) (⟨(gt l33 i17).Used, (⟨(decide ((Int.tmod (wrap64 (i16 + 1)) 3) = 0)), (gt l33 i17).N.L⟩ : TNode)⟩ : TPage))).bind fun l37 => (if (0 : Int) ≤ i17 ∧ i17 < ((List.length l37 : Nat) : Int) then ((laws_markEntryS k ((gt l37 i17).N.L) (wrap64 ((wrap64 (i16 + 1)) + 1))).bind fun t43 => (if List.length t43.2 = List.length ((gt l37 i17).N.L) then some (.next ((List.set l37 (Int.toNat i17) (⟨(gt l37 i17).Used, (⟨(gt l37 i17).N.Leaf, t43.2⟩ : TNode)⟩ : TPage)), t43.1, (wrap64 (i17 + 1)))) else none)) else none)) else none)) else none) else some (.out (l15, i16, i17)))
def laws_markPageS (k : Nat) (p0 : (List TPage)) (p1 : Int) : Option (Int × (List TPage)) := ((loopM (laws_markPageS_b0 k) k (p0, p1, 0)).bind fun o46 => match o46 with | .out (l47, i48, i49) => some (i48, l47) | .ret r => some r | .next _ => none)
/-! laws.markBook -/
def laws_markBook (k : Nat) (p0 : TBook) (p1 : Int) : Option (Int × (List TPage)) := ((laws_markPageS k p0.L p1).bind fun t2 => (if List.length t2.2 = List.length p0.L then some (t2.1, t2.2) else none))
/-! laws.markIntS -/
def laws_markIntS_b0 : ((List Int) × Int × Int) → Option (Nx ((List Int) × Int × Int) (Int × (List Int)))
  | (l5, i6, i7) => (if (decide (i7 < ((List.length l5 : Nat) : Int))) = true then (if (0 : Int) ≤ i7 ∧ i7 < ((List.length l5 : Nat) : Int) then ((some (List.set l5 (Int.toNat i7) i6)).bind fun l13 => some (.next (l13, (wrap64 (i6 + 1)), (wrap64 (i7 + 1))))) else none) else some (.out (l5, i6, i7)))
def laws_markIntS (k : Nat) (p0 : (List Int)) (p1 : Int) : Option (Int × (List Int)) := ((loopM (laws_markIntS_b0) k (p0, p1, 0)).bind fun o16 => match o16 with | .out (l17, i18, i19) => some (i18, l17) | .ret r => some r | .next _ => none)
/-! laws.markItemS -/
def laws_markItemS_b0 : ((List TItem) × Int × Int) → Option (Nx ((List TItem) × Int × Int) (Int × (List TItem)))
  | (l21, i22, i23) => (if (decide (i23 < ((List.length l21 : Nat) : Int))) = true then (if (0 : Int) ≤ i23 ∧ i23 < ((List.length l21 : Nat) : Int) then ((some (List.set l21 (Int.toNat i23) (⟨i22, (gt l21 i23).R⟩ : TItem))).bind fun l45 => (if (0 : Int) ≤ i23 ∧ i23 < ((List.length l45 : Nat) : Int) then ((some (List.set l45 (Int.toNat i23) (⟨(gt l45 i23).Id, (⟨(wrap64 (i22 + 1)), (gt l45 i23).R.Y0, (gt l45 i23).R.X1, (gt l45 i23).R.Y1⟩ : TBox)⟩ : TItem))).bind fun l49 => (if (0 : Int) ≤ i23 ∧ i23 < ((List.length l49 : Nat) : Int) then ((some (List.set l49 (Int.toNat i23) (⟨(gt l49 i23).Id, (⟨(gt l49 i23).R.X0, (wrap64 ((wrap64 (i22 + 1)) + 1)), (gt l49 i23).R.X1, (gt l49 i23).R.Y1⟩ : TBox)⟩ : TItem))).bind fun l53 => (if (0 : Int) ≤ i23 ∧ i23 < ((List.length l53 : Nat) : Int) then ((some (List.set l53 (Int.toNat i23) (⟨(gt l53 i23).Id, (⟨(gt l53 i23).R.X0, (gt l53 i23).R.Y0, (wrap64 ((wrap64 ((wrap64 (i22 + 1)) + 1)) + 1)), (gt l53 i23).R.Y1⟩ : TBox)⟩ : TItem))).bind fun l57 => (if (0 : Int) ≤ i23 ∧ i23 < ((List.length l57 : Nat) : Int) then ((some (List.set l57 (Int.toNat i23) (⟨(gt l57 i23).Id, (⟨(gt l57 i23).R.X0, (gt l57 i23).R.Y0, (gt l57 i23).R.X1, (wrap64 ((wrap64 ((wrap64 ((wrap64 (i22 + 1)) + 1)) + 1)) + 1))⟩ : TBox)⟩ : TItem))).bind fun l61 => some (.next (l61, (wrap64 ((wrap64 ((wrap64 ((wrap64 ((wrap64 (i22 + 1)) + 1)) + 1)) + 1)) + 1)), (wrap64 (i23 + 1))))) else none)) else none)) else none)) else none)) else none) else some (.out (l21, i22, i23)))
def laws_markItemS (k : Nat) (p0 : (List TItem)) (p1 : Int) : Option (Int × (List TItem)) := ((loopM (laws_markItemS_b0) k (p0, p1, 0)).bind fun o64 => match o64 with | .out (l65, i66, i67) => some (i66, l65) | .ret r => some r | .next _ => none)
/-! laws.markVac -/
def laws_markVac (k : Nat) (p0 : TVac) (p1 : Int) : Option (Int × (List Int) × (List TItem) × (List TEntry) × (List TEntry) × (List Int)) := ((laws_markIntS k p0.Todo p1).bind fun t2 => (if List.length t2.2 = List.length p0.Todo then ((laws_markItemS k p0.Run t2.1).bind fun t5 => (if List.length t5.2 = List.length p0.Run then ((laws_markEntryS k p0.Row t5.1).bind fun t8 => (if List.length t8.2 = List.length p0.Row then ((laws_markEntryS k p0.Next t8.1).bind fun t11 => (if List.length t11.2 = List.length p0.Next then ((laws_markIntS k p0.Made t11.1).bind fun t14 => (if List.length t14.2 = List.length p0.Made then some (t14.1, t2.2, t5.2, t8.2, t11.2, t14.2) else none)) else none)) else none)) else none)) else none))
/-! laws.heldEntryS -/
def laws_heldEntryS_b0 (p0 : (List TEntry)) : (Int × Int) → Option (Nx (Int × Int) (Int))
  | (i6, i7) => (if (decide (i7 < ((List.length p0 : Nat) : Int))) = true then (if (0 : Int) ≤ i7 ∧ i7 < ((List.length p0 : Nat) : Int) then (if (!decide (((gt p0 i7).N) = i6)) = true then some (.ret (-1)) else (if (0 : Int) ≤ i7 ∧ i7 < ((List.length p0 : Nat) : Int) then (if (!decide (((gt p0 i7).R.X0) = (wrap64 (i6 + 1)))) = true then some (.ret (-1)) else (if (0 : Int) ≤ i7 ∧ i7 < ((List.length p0 : Nat) : Int) then (if (!decide (((gt p0 i7).R.Y0) = (wrap64 ((wrap64 (i6 + 1)) + 1)))) = true then some (.ret (-1)) else (if (0 : Int) ≤ i7 ∧ i7 < ((List.length p0 : Nat) : Int) then (if (!decide (((gt p0 i7).R.X1) = (wrap64 ((wrap64 ((wrap64 (i6 + 1)) + 1)) + 1)))) = true then some (.ret (-1)) else (if (0 : Int) ≤ i7 ∧ i7 < ((List.length p0 : Nat) : Int) then (if (!decide (((gt p0 i7).R.Y1) = (wrap64 ((wrap64 ((wrap64 ((wrap64 (i6 + 1)) + 1)) + 1)) + 1)))) = true then some (.ret (-1)) else some (.next ((wrap64 ((wrap64 ((wrap64 ((wrap64 ((wrap64 (i6 + 1)) + 1)) + 1)) + 1)) + 1)), (wrap64 (i7 + 1))))) else none)) else none)) else none)) else none)) else none) else some (.out (i6, i7)))
def laws_heldEntryS (k : Nat) (p0 : (List TEntry)) (p1 : Int) : Option (Int) := ((loopM (laws_heldEntryS_b0 p0) k (p1, 0)).bind fun o18 => match o18 with | .out (i19, i20) => some i19 | .ret r => some r | .next _ => none)
/-! laws.heldPageS -/
def laws_heldPageS_b0 (k : Nat) (p0 : (List TPage)) : (Int × Int) → Option (Nx (Int × Int) (Int))
  | (i18, i19) => (if (decide (i19 < ((List.length p0 : Nat) : Int))) = true then (if (0 : Int) ≤ i19 ∧ i19 < ((List.length p0 : Nat) : Int) then (if (!(((gt p0 i19).Used) == (decide ((Int.tmod i18 3) = 0)))) = true then some (.ret (-1)) else (if (0 : Int) ≤ i19 ∧ i19 < ((List.length p0 : Nat) : Int) then (if (!(((gt p0 i19).N.Leaf) == (decide ((Int.tmod (wrap64 (i18 + 1)) 3) = 0)))) = true then some (.ret (-1)) else (if (0 : Int) ≤ i19 ∧ i19 < ((List.length p0 : Nat) : Int) then ((laws_heldEntryS k ((gt p0 i19).N.L) (wrap64 ((wrap64 (i18 + 1)) + 1))).bind fun t52 => (if (decide (t52 < 0)) = true then some (.ret (-1)) else some (.next (t52, (wrap64 (i19 + 1)))))) else none)) else none)) else none) else some (.out (i18, i19)))
def laws_heldPageS (k : Nat) (p0 : (List TPage)) (p1 : Int) : Option (Int) := ((loopM (laws_heldPageS_b0 k p0) k (p1, 0)).bind fun o54 => match o54 with | .out (i55, i56) => some i55 | .ret r => some r | .next _ => none)
/-! laws.heldBook -/
def laws_heldBook (k : Nat) (p0 : TBook) (p1 : Int) : Option (Int) := ((laws_heldPageS k p0.L p1).bind fun t2 => (if (decide (t2 < 0)) = true then some (-1) else some t2))
/-! laws.FnExactVacDrop -/
def laws_FnExactVacDrop (k : Nat) (p0 : TBook) (p1 : TVac) : Option (Bool) := ((laws_szBook k p0 1048576).bind fun t3 => (if (decide (t3 < 0)) = true then some true else ((laws_szVac p1 t3).bind fun t5 => (if (decide (t5 < 0)) = true then some true else ((laws_toBook k p0).bind fun t8 => ((laws_toVac k p1).bind fun t12 => ((spec_VacDrop k t8 t12).bind fun t24 => ((laws_toBook k p0).bind fun t29 => ((laws_toVac k p1).bind fun t34 => ((impl_VacDrop k t29 t34).bind fun t47 => ((laws_eqBook k t47 t24).bind fun t52 => (if (!t52) = true then some false else ((laws_toBook k p0).bind fun t55 => ((laws_eqBook k t29 t55).bind fun t59 => (if (!t59) = true then some false else ((laws_toVac k p1).bind fun t62 => ((laws_eqVac k t34 t62).bind fun t74 => (if (!t74) = true then some false else ((laws_markBook k t29 1).bind fun t76 => (if List.length t76.2 = List.length t29.L then ((laws_markVac k t34 t76.1).bind fun t79 => (if List.length t79.2.1 = List.length t34.Todo then (if List.length t79.2.2.1 = List.length t34.Run then (if List.length t79.2.2.2.1 = List.length t34.Row then (if List.length t79.2.2.2.2.1 = List.length t34.Next then (if List.length t79.2.2.2.2.2 = List.length t34.Made then (((if (decide (t79.1 < 0)) = true then some true else ((laws_eqBook k t47 t24).bind fun t87 => some (!t87)))).bind fun c89 => (if c89 = true then some false else ((laws_markBook k t47 1).bind fun t91 => (if List.length t91.2 = List.length t47.L then ((laws_heldBook k (⟨t47.Root, t91.2⟩ : TBook) 1).bind fun t94 => (if (decide (t94 < 0)) = true then some false else (if (!decide (t94 = t91.1)) = true then some false else ((laws_toBook k p0).bind fun t97 => ((laws_toVac k p1).bind fun t101 => ((impl_VacDrop k t97 t101).bind fun t113 => ((laws_eqBook k t113 t24).bind fun t118 => (if (!t118) = true then some false else ((laws_heldBook k (⟨t47.Root, t91.2⟩ : TBook) 1).bind fun t120 => (if (decide (t120 < 0)) = true then some false else (if (!decide (t120 = t91.1)) = true then some false else some true))))))))))) else none)))) else none) else none) else none) else none) else none)) else none))))))))))))))))))))
end Go.Proofs.Sx
