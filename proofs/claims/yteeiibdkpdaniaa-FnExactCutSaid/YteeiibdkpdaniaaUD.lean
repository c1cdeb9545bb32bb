import Derived.Test.YteeiibdkpdaniaaLK
import Derived.Test.YteeiibdkpdaniaaLM
import Derived.KernelRfl
namespace Go.Proofs.Sx
open Go.RowKit
set_option linter.unusedVariables false
set_option linter.unusedSimpArgs false
set_option maxRecDepth 20000
set_option maxHeartbeats 1000000
structure TBox where
  X0 : Int
  Y0 : Int
  X1 : Int
  Y1 : Int
  deriving DecidableEq, Inhabited
structure TEntry where
  N : Int
  R : TBox
  deriving DecidableEq, Inhabited
structure TNode where
  Leaf : Bool
  L : (List TEntry)
  deriving DecidableEq, Inhabited
structure TPage where
  Used : Bool
  N : TNode
  deriving DecidableEq, Inhabited
structure TBook where
  Root : Int
  L : (List TPage)
  deriving DecidableEq, Inhabited
def wfTBox (x : TBox) : Prop := wfI x.X0 ∧ wfI x.Y0 ∧ wfI x.X1 ∧ wfI x.Y1
def wfTEntry (x : TEntry) : Prop := wfI x.N ∧ wfTBox x.R
def wfTNode (x : TNode) : Prop := wfB x.Leaf ∧ (wfL wfTEntry) x.L
def wfTPage (x : TPage) : Prop := wfB x.Used ∧ wfTNode x.N
def wfTBook (x : TBook) : Prop := wfI x.Root ∧ (wfL wfTPage) x.L
/-! laws.szEntryS -/
def laws_szEntryS (p0 : (List TEntry)) (p1 : Int) : Option (Int) := (if (decide ((wrap64 (p1 - ((List.length p0 : Nat) : Int))) < 0)) = true then some (-1) else some (wrap64 (p1 - ((List.length p0 : Nat) : Int))))
/-! laws.szNode -/
def laws_szNode (p0 : TNode) (p1 : Int) : Option (Int) := ((laws_szEntryS p0.L p1).bind fun t2 => (if (decide (t2 < 0)) = true then some (-1) else some t2))
/-! laws.szPage -/
def laws_szPage (p0 : TPage) (p1 : Int) : Option (Int) := ((laws_szNode p0.N p1).bind fun t2 => (if (decide (t2 < 0)) = true then some (-1) else some t2))
/-! laws.szPageS -/
def laws_szPageS_b0 (p0 : (List TPage)) : (Int × Int) → Option (Nx (Int × Int) (Int))
  | (i8, i9) => (if (decide (i9 < ((List.length p0 : Nat) : Int))) = true then (if (0 : Int) ≤ i9 ∧ i9 < ((List.length p0 : Nat) : Int) then ((laws_szPage (gt p0 i9) i8).bind fun t22 => (if (decide (t22 < 0)) = true then some (.ret (-1)) else some (.next (t22, (wrap64 (i9 + 1)))))) else none) else some (.out (i8, i9)))
def laws_szPageS (k : Nat) (p0 : (List TPage)) (p1 : Int) : Option (Int) := (if (decide ((wrap64 (p1 - ((List.length p0 : Nat) : Int))) < 0)) = true then some (-1) else ((loopM (laws_szPageS_b0 p0) k ((wrap64 (p1 - ((List.length p0 : Nat) : Int))), 0)).bind fun o24 => match o24 with | .out (i25, i26) => some i25 | .ret r => some r | .next _ => none))
/-! laws.szBook -/
def laws_szBook (k : Nat) (p0 : TBook) (p1 : Int) : Option (Int) := ((laws_szPageS k p0.L p1).bind fun t2 => (if (decide (t2 < 0)) = true then some (-1) else some t2))
/-! laws.toBox -/
def laws_toBox (p0 : TBox) : Option (TBox) := some p0
/-! laws.toEntry -/
def laws_toEntry (p0 : TEntry) : Option (TEntry) := ((laws_toBox p0.R).bind fun t4 => some (⟨p0.N, t4⟩ : TEntry))
/-! laws.toEntryS -/
def laws_toEntryS_b0 (p0 : (List TEntry)) : ((List TEntry) × Int) → Option (Nx ((List TEntry) × Int) ((List TEntry)))
  | (l11, i12) => (if (decide (i12 < ((List.length p0 : Nat) : Int))) = true then (if (0 : Int) ≤ i12 ∧ i12 < ((List.length p0 : Nat) : Int) then ((laws_toEntry (gt p0 i12)).bind fun t21 => (if (0 : Int) ≤ i12 ∧ i12 < ((List.length l11 : Nat) : Int) then ((some (List.set l11 (Int.toNat i12) t21)).bind fun l24 => some (.next (l24, (wrap64 (i12 + 1))))) else none)) else none) else some (.out (l11, i12)))
def laws_toEntryS (k : Nat) (p0 : (List TEntry)) : Option ((List TEntry)) := (if (0 : Int) ≤ ((List.length p0 : Nat) : Int) ∧ okLen (Int.toNat ((List.length p0 : Nat) : Int)) = true then ((loopM (laws_toEntryS_b0 p0) k ((List.replicate (Int.toNat ((List.length p0 : Nat) : Int)) (⟨(0 : Int), (⟨(0 : Int), (0 : Int), (0 : Int), (0 : Int)⟩ : TBox)⟩ : TEntry)), 0)).bind fun o27 => match o27 with | .out (l28, i29) => some l28 | .ret r => some r | .next _ => none) else none)
/-! laws.toNode -/
def laws_toNode (k : Nat) (p0 : TNode) : Option (TNode) := ((laws_toEntryS k p0.L).bind fun t4 => some (⟨p0.Leaf, t4⟩ : TNode))
/-! laws.toPage -/
def laws_toPage (k : Nat) (p0 : TPage) : Option (TPage) := ((laws_toNode k p0.N).bind fun t4 => some (⟨p0.Used, t4⟩ : TPage))
/-! laws.toPageS -/
def laws_toPageS_b0 (k : Nat) (p0 : (List TPage)) : ((List TPage) × Int) → Option (Nx ((List TPage) × Int) ((List TPage)))
  | (l17, i18) => (if (decide (i18 < ((List.length p0 : Nat) : Int))) = true then (if (0 : Int) ≤ i18 ∧ i18 < ((List.length p0 : Nat) : Int) then ((laws_toPage k (gt p0 i18)).bind fun t37 => (if (0 : Int) ≤ i18 ∧ i18 < ((List.length l17 : Nat) : Int) then ((some (List.set l17 (Int.toNat i18) t37)).bind fun l42 => some (.next (l42, (wrap64 (i18 + 1))))) else none)) else none) else some (.out (l17, i18)))
def laws_toPageS (k : Nat) (p0 : (List TPage)) : Option ((List TPage)) := (if (0 : Int) ≤ ((List.length p0 : Nat) : Int) ∧ okLen (Int.toNat ((List.length p0 : Nat) : Int)) = true then ((loopM (laws_toPageS_b0 k p0) k ((List.replicate (Int.toNat ((List.length p0 : Nat) : Int)) (⟨false, (⟨false, ([] : (List TEntry))⟩ : TNode)⟩ : TPage)), 0)).bind fun o45 => match o45 with | .out (l46, i47) => some l46 | .ret r => some r | .next _ => none) else none)
/-! laws.toBook -/
def laws_toBook (k : Nat) (p0 : TBook) : Option (TBook) := ((laws_toPageS k p0.L).bind fun t4 => some (⟨p0.Root, t4⟩ : TBook))
/-! spec.l5Copy -/
def spec_l5Copy (p0 : TNode) : Option (TNode) := (if okLen (List.length ([] : (List TEntry)) + List.length p0.L) = true then some (⟨p0.Leaf, (([] : (List TEntry)) ++ p0.L)⟩ : TNode) else none)
/-! spec.l7Copy -/
def spec_l7Copy_b0 (p0 : TBook) : (Int × (List TPage)) → Option (Nx (Int × (List TPage)) (TBook))
  | (i26, l27) => (if (decide (i26 < ((List.length p0.L : Nat) : Int))) = true then (if (0 : Int) ≤ i26 ∧ i26 < ((List.length p0.L : Nat) : Int) then (if (0 : Int) ≤ i26 ∧ i26 < ((List.length p0.L : Nat) : Int) then ((spec_l5Copy ((gt p0.L i26).N)).bind fun t61 => (if okLen (List.length l27 + List.length ([(⟨(gt p0.L i26).Used, t61⟩ : TPage)] : (List TPage))) = true then some (.next ((wrap64 (i26 + 1)), (l27 ++ ([(⟨(gt p0.L i26).Used, t61⟩ : TPage)] : (List TPage))))) else none)) else none) else none) else some (.out (i26, l27)))
def spec_l7Copy (k : Nat) (p0 : TBook) : Option (TBook) := ((loopM (spec_l7Copy_b0 p0) k (0, ([] : (List TPage)))).bind fun o70 => match o70 with | .out (i71, l72) => some (⟨p0.Root, l72⟩ : TBook) | .ret r => some r | .next _ => none)
/-! spec.LastUsed -/
def spec_LastUsed_b0 (p0 : TBook) : Int → Option (Nx (Int) (Int))
  | i7 => (if (decide (i7 ≥ 0)) = true then (if (0 : Int) ≤ i7 ∧ i7 < ((List.length p0.L : Nat) : Int) then (if (gt p0.L i7).Used = true then some (.ret i7) else some (.next (wrap64 (i7 - 1)))) else none) else some (.out i7))
def spec_LastUsed (k : Nat) (p0 : TBook) : Option (Int) := ((loopM (spec_LastUsed_b0 p0) k (wrap64 (((List.length p0.L : Nat) : Int) - 1))).bind fun o18 => match o18 with | .out i19 => some (-1) | .ret r => some r | .next _ => none)
/-! spec.Most -/
def spec_Most (p0 : Int) (p1 : Int) : Option (Int) := (if (decide (p1 > p0)) = true then some p1 else some p0)
/-! spec.Cut -/
def spec_Cut (k : Nat) (p0 : TBook) : Option (TBook) := ((spec_l7Copy k p0).bind fun t3 => ((spec_LastUsed k p0).bind fun t8 => ((spec_Most 1 (wrap64 (t8 + 1))).bind fun t10 => (if (decide (t10 < ((List.length t3.L : Nat) : Int))) = true then (if (0 : Int) ≤ 0 ∧ (0 : Int) ≤ t10 ∧ t10 ≤ ((List.length t3.L : Nat) : Int) then some (⟨t3.Root, (slc t3.L 0 t10)⟩ : TBook) else none) else some t3))))
/-! slices.Clone(()impl.Entry,impl.Entry) -/
def slices_Clone_impl_Entry_impl_Entry (p0 : (List TEntry)) : Option ((List TEntry)) := (if okLen (List.length p0) = true then some p0 else none)
/-! impl.copyNode -/
def impl_copyNode (p0 : TNode) : Option (TNode) := ((slices_Clone_impl_Entry_impl_Entry p0.L).bind fun t4 => some (⟨p0.Leaf, t4⟩ : TNode))
/-! impl.copyBook -/
def impl_copyBook_b0 (p0 : TBook) : ((List TPage) × Int) → Option (Nx ((List TPage) × Int) (TBook))
  | (l19, i22) => (if (decide (i22 < ((List.length p0.L : Nat) : Int))) = true then (if (0 : Int) ≤ i22 ∧ i22 < ((List.length p0.L : Nat) : Int) then ((impl_copyNode ((gt p0.L i22).N)).bind fun t46 => (if okLen (List.length l19 + List.length ([(⟨(gt p0.L i22).Used, t46⟩ : TPage)] : (List TPage))) = true then some (.next ((l19 ++ ([(⟨(gt p0.L i22).Used, t46⟩ : TPage)] : (List TPage))), (wrap64 (i22 + 1)))) else none)) else none) else some (.out (l19, i22)))
def impl_copyBook (k : Nat) (p0 : TBook) : Option (TBook) := ((loopM (impl_copyBook_b0 p0) k (([] : List TPage), 0)).bind fun o55 => match o55 with | .out (l56, i59) => some (⟨p0.Root, l56⟩ : TBook) | .ret r => some r | .next _ => none)
/-! impl.LastUsed -/
def impl_LastUsed_b0 (p0 : TBook) : Int → Option (Nx (Int) (Int))
  | i7 => (if (decide (i7 ≥ 0)) = true then (if (0 : Int) ≤ i7 ∧ i7 < ((List.length p0.L : Nat) : Int) then (if (gt p0.L i7).Used = true then some (.ret i7) else some (.next (wrap64 (i7 - 1)))) else none) else some (.out i7))
def impl_LastUsed (k : Nat) (p0 : TBook) : Option (Int) := ((loopM (impl_LastUsed_b0 p0) k (wrap64 (((List.length p0.L : Nat) : Int) - 1))).bind fun o18 => match o18 with | .out i19 => some (-1) | .ret r => some r | .next _ => none)
/-! impl.Cut -/
def impl_Cut (k : Nat) (p0 : TBook) : Option (TBook) := ((impl_copyBook k p0).bind fun t3 => ((impl_LastUsed k p0).bind fun t9 => (if (0 : Int) ≤ 0 ∧ (0 : Int) ≤ (if (wrap64 ((if 0 > t9 then 0 else t9) + 1)) < ((List.length t3.L : Nat) : Int) then (wrap64 ((if 0 > t9 then 0 else t9) + 1)) else ((List.length t3.L : Nat) : Int)) ∧ (if (wrap64 ((if 0 > t9 then 0 else t9) + 1)) < ((List.length t3.L : Nat) : Int) then (wrap64 ((if 0 > t9 then 0 else t9) + 1)) else ((List.length t3.L : Nat) : Int)) ≤ ((List.length t3.L : Nat) : Int) then some (⟨t3.Root, (slc t3.L 0 (if (wrap64 ((if 0 > t9 then 0 else t9) + 1)) < ((List.length t3.L : Nat) : Int) then (wrap64 ((if 0 > t9 then 0 else t9) + 1)) else ((List.length t3.L : Nat) : Int)))⟩ : TBook) else none)))
/-! laws.eqBox -/
def laws_eqBox (p0 : TBox) (p1 : TBox) : Option (Bool) := (if (!decide (p0.X0 = p1.X0)) = true then some false else (if (!decide (p0.Y0 = p1.Y0)) = true then some false else (if (!decide (p0.X1 = p1.X1)) = true then some false else (if (!decide (p0.Y1 = p1.Y1)) = true then some false else some true))))
/-! laws.eqEntry -/
def laws_eqEntry (p0 : TEntry) (p1 : TEntry) : Option (Bool) := (if (!decide (p0.N = p1.N)) = true then some false else ((laws_eqBox p0.R p1.R).bind fun t3 => (if (!t3) = true then some false else some true)))
/-! laws.eqEntryS -/
def laws_eqEntryS_b0 (p0 : (List TEntry)) (p1 : (List TEntry)) : Int → Option (Nx (Int) (Bool))
  | i6 => (if (decide (i6 < ((List.length p0 : Nat) : Int))) = true then (if (0 : Int) ≤ i6 ∧ i6 < ((List.length p0 : Nat) : Int) then (if (0 : Int) ≤ i6 ∧ i6 < ((List.length p1 : Nat) : Int) then ((laws_eqEntry (gt p0 i6) (gt p1 i6)).bind fun t15 => (if (!t15) = true then some (.ret false) else some (.next (wrap64 (i6 + 1))))) else none) else none) else some (.out i6))
def laws_eqEntryS (k : Nat) (p0 : (List TEntry)) (p1 : (List TEntry)) : Option (Bool) := (if (!decide (((List.length p0 : Nat) : Int) = ((List.length p1 : Nat) : Int))) = true then some false else ((loopM (laws_eqEntryS_b0 p0 p1) k 0).bind fun o17 => match o17 with | .out i18 => some true | .ret r => some r | .next _ => none))
/-! laws.eqNode -/
def laws_eqNode (k : Nat) (p0 : TNode) (p1 : TNode) : Option (Bool) := (if (!(p0.Leaf == p1.Leaf)) = true then some false else ((laws_eqEntryS k p0.L p1.L).bind fun t3 => (if (!t3) = true then some false else some true)))
/-! laws.eqPage -/
def laws_eqPage (k : Nat) (p0 : TPage) (p1 : TPage) : Option (Bool) := (if (!(p0.Used == p1.Used)) = true then some false else ((laws_eqNode k p0.N p1.N).bind fun t3 => (if (!t3) = true then some false else some true)))
/-! laws.eqPageS -/
def laws_eqPageS_b0 (k : Nat) (p0 : (List TPage)) (p1 : (List TPage)) : Int → Option (Nx (Int) (Bool))
  | i14 => (if (decide (i14 < ((List.length p0 : Nat) : Int))) = true then (if (0 : Int) ≤ i14 ∧ i14 < ((List.length p0 : Nat) : Int) then (if (0 : Int) ≤ i14 ∧ i14 < ((List.length p1 : Nat) : Int) then ((laws_eqPage k (gt p0 i14) (gt p1 i14)).bind fun t39 => (if (!t39) = true then some (.ret false) else some (.next (wrap64 (i14 + 1))))) else none) else none) else some (.out i14))
def laws_eqPageS (k : Nat) (p0 : (List TPage)) (p1 : (List TPage)) : Option (Bool) := (if (!decide (((List.length p0 : Nat) : Int) = ((List.length p1 : Nat) : Int))) = true then some false else ((loopM (laws_eqPageS_b0 k p0 p1) k 0).bind fun o41 => match o41 with | .out i42 => some true | .ret r => some r | .next _ => none))
/-! laws.eqBook -/
def laws_eqBook (k : Nat) (p0 : TBook) (p1 : TBook) : Option (Bool) := (if (!decide (p0.Root = p1.Root)) = true then some false else ((laws_eqPageS k p0.L p1.L).bind fun t3 => (if (!t3) = true then some false else some true)))
/-! laws.markEntryS -/
def laws_markEntryS_b0 : ((List TEntry) × Int × Int) → Option (Nx ((List TEntry) × Int × Int) (Int × (List TEntry)))
  | (l21, i22, i23) => (if (decide (i23 < ((List.length l21 : Nat) : Int))) = true then (if (0 : Int) ≤ i23 ∧ i23 < ((List.length l21 : Nat) : Int) then ((some (List.set l21 (Int.toNat i23) (⟨i22, (gt l21 i23).R⟩ : TEntry))).bind fun l45 => (if (0 : Int) ≤ i23 ∧ i23 < ((List.length l45 : Nat) : Int) then ((some (List.set l45 (Int.toNat i23) (⟨(gt l45 i23).N, (⟨(wrap64 (i22 + 1)), (gt l45 i23).R.Y0, (gt l45 i23).R.X1, (gt l45 i23).R.Y1⟩ : TBox)⟩ : TEntry))).bind fun l49 => (if (0 : Int) ≤ i23 ∧ i23 < ((List.length l49 : Nat) : Int) then ((some (List.set l49 (Int.toNat i23) (⟨(gt l49 i23).N, (⟨(gt l49 i23).R.X0, (wrap64 ((wrap64 (i22 + 1)) + 1)), (gt l49 i23).R.X1, (gt l49 i23).R.Y1⟩ : TBox)⟩ : TEntry))).bind fun l53 => (if (0 : Int) ≤ i23 ∧ i23 < ((List.length l53 : Nat) : Int) then ((some (List.set l53 (Int.toNat i23) (⟨(gt l53 i23).N, (⟨(gt l53 i23).R.X0, (gt l53 i23).R.Y0, (wrap64 ((wrap64 ((wrap64 (i22 + 1)) + 1)) + 1)), (gt l53 i23).R.Y1⟩ : TBox)⟩ : TEntry))).bind fun l57 => (if (0 : Int) ≤ i23 ∧ i23 < ((List.length l57 : Nat) : Int) then ((some (List.set l57 (Int.toNat i23) (⟨(gt l57 i23).N, (⟨(gt l57 i23).R.X0, (gt l57 i23).R.Y0, (gt l57 i23).R.X1, (wrap64 ((wrap64 ((wrap64 ((wrap64 (i22 + 1)) + 1)) + 1)) + 1))⟩ : TBox)⟩ : TEntry))).bind fun l61 => some (.next (l61, (wrap64 ((wrap64 ((wrap64 ((wrap64 ((wrap64 (i22 + 1)) + 1)) + 1)) + 1)) + 1)), (wrap64 (i23 + 1))))) else none)) else none)) else none)) else none)) else none) else some (.out (l21, i22, i23)))
def laws_markEntryS (k : Nat) (p0 : (List TEntry)) (p1 : Int) : Option (Int × (List TEntry)) := ((loopM (laws_markEntryS_b0) k (p0, p1, 0)).bind fun o64 => match o64 with | .out (l65, i66, i67) => some (i66, l65) | .ret r => some r | .next _ => none)
/-! laws.markPageS -/
def laws_markPageS_b0 (k : Nat) : ((List TPage) × Int × Int) → Option (Nx ((List TPage) × Int × Int) (Int × (List TPage)))
  | (l15, i16, i17) => (if (decide (i17 < ((List.length l15 : Nat) : Int))) = true then (if (0 : Int) ≤ i17 ∧ i17 < ((List.length l15 : Nat) : Int) then ((some (List.set l15 (Int.toNat i17) (⟨(decide ((Int.tmod i16 3) = 0)), (gt l15 i17).N⟩ : TPage))).bind fun l33 => (if (0 : Int) ≤ i17 ∧ i17 < ((List.length l33 : Nat) : Int) then ((some (List.set l33 (Int.toNat i17) (⟨(gt l33 i17).Used, (⟨(decide ((Int.tmod (wrap64 (i16 + 1)) 3) = 0)), (gt l33 i17).N.L⟩ : TNode)⟩ : TPage))).bind fun l37 => (if (0 : Int) ≤ i17 ∧ i17 < ((List.length l37 : Nat) : Int) then ((laws_markEntryS k ((gt l37 i17).N.L) (wrap64 ((wrap64 (i16 + 1)) + 1))).bind fun t43 => (if List.length t43.2 = List.length ((gt l37 i17).N.L) then some (.next ((List.set l37 (Int.toNat i17) (⟨(gt l37 i17).Used, (⟨(gt l37 i17).N.Leaf, t43.2⟩ : TNode)⟩ : TPage)), t43.1, (wrap64 (i17 + 1)))) else none)) else none)) else none)) else none) else some (.out (l15, i16, i17)))
def laws_markPageS (k : Nat) (p0 : (List TPage)) (p1 : Int) : Option (Int × (List TPage)) := ((loopM (laws_markPageS_b0 k) k (p0, p1, 0)).bind fun o46 => match o46 with | .out (l47, i48, i49) => some (i48, l47) | .ret r => some r | .next _ => none)
/-! laws.markBook -/
def laws_markBook (k : Nat) (p0 : TBook) (p1 : Int) : Option (Int × (List TPage)) := ((laws_markPageS k p0.L p1).bind fun t2 => (if List.length t2.2 = List.length p0.L then some (t2.1, t2.2) else none))
/-! laws.heldEntryS -/
def laws_heldEntryS_b0 (p0 : (List TEntry)) : (Int × Int) → Option (Nx (Int × Int) (Int))
  | (i6, i7) => (if (decide (i7 < ((List.length p0 : Nat) : Int))) = true then (if (0 : Int) ≤ i7 ∧ i7 < ((List.length p0 : Nat) : Int) then (if (!decide (((gt p0 i7).N) = i6)) = true then some (.ret (-1)) else (if (0 : Int) ≤ i7 ∧ i7 < ((List.length p0 : Nat) : Int) then (if (!decide (((gt p0 i7).R.X0) = (wrap64 (i6 + 1)))) = true then some (.ret (-1)) else (if (0 : Int) ≤ i7 ∧ i7 < ((List.length p0 : Nat) : Int) then (if (!decide (((gt p0 i7).R.Y0) = (wrap64 ((wrap64 (i6 + 1)) + 1)))) = true then some (.ret (-1)) else (if (0 : Int) ≤ i7 ∧ i7 < ((List.length p0 : Nat) : Int) then (if (!decide (((gt p0 i7).R.X1) = (wrap64 ((wrap64 ((wrap64 (i6 + 1)) + 1)) + 1)))) = true then some (.ret (-1)) else (if (0 : Int) ≤ i7 ∧ i7 < ((List.length p0 : Nat) : Int) then (if (!decide (((gt p0 i7).R.Y1) = (wrap64 ((wrap64 ((wrap64 ((wrap64 (i6 + 1)) + 1)) + 1)) + 1)))) = true then some (.ret (-1)) else some (.next ((wrap64 ((wrap64 ((wrap64 ((wrap64 ((wrap64 (i6 + 1)) + 1)) + 1)) + 1)) + 1)), (wrap64 (i7 + 1))))) else none)) else none)) else none)) else none)) else none) else some (.out (i6, i7)))
def laws_heldEntryS (k : Nat) (p0 : (List TEntry)) (p1 : Int) : Option (Int) := ((loopM (laws_heldEntryS_b0 p0) k (p1, 0)).bind fun o18 => match o18 with | .out (i19, i20) => some i19 | .ret r => some r | .next _ => none)
/-! laws.heldPageS -/
def laws_heldPageS_b0 (k : Nat) (p0 : (List TPage)) : (Int × Int) → Option (Nx (Int × Int) (Int))
  | (i18, i19) => (if (decide (i19 < ((List.length p0 : Nat) : Int))) = true then (if (0 : Int) ≤ i19 ∧ i19 < ((List.length p0 : Nat) : Int) then (if (!(((gt p0 i19).Used) == (decide ((Int.tmod i18 3) = 0)))) = true then some (.ret (-1)) else (if (0 : Int) ≤ i19 ∧ i19 < ((List.length p0 : Nat) : Int) then (if (!(((gt p0 i19).N.Leaf) == (decide ((Int.tmod (wrap64 (i18 + 1)) 3) = 0)))) = true then some (.ret (-1)) else (if (0 : Int) ≤ i19 ∧ i19 < ((List.length p0 : Nat) : Int) then ((laws_heldEntryS k ((gt p0 i19).N.L) (wrap64 ((wrap64 (i18 + 1)) + 1))).bind fun t52 => (if (decide (t52 < 0)) = true then some (.ret (-1)) else some (.next (t52, (wrap64 (i19 + 1)))))) else none)) else none)) else none) else some (.out (i18, i19)))
def laws_heldPageS (k : Nat) (p0 : (List TPage)) (p1 : Int) : Option (Int) := ((loopM (laws_heldPageS_b0 k p0) k (p1, 0)).bind fun o54 => match o54 with | .out (i55, i56) => some i55 | .ret r => some r | .next _ => none)
/-! laws.heldBook -/
def laws_heldBook (k : Nat) (p0 : TBook) (p1 : Int) : Option (Int) := ((laws_heldPageS k p0.L p1).bind fun t2 => (if (decide (t2 < 0)) = true then some (-1) else some t2))
/-! laws.FnExactCut -/
def laws_FnExactCut (k : Nat) (p0 : TBook) : Option (Bool) := ((laws_szBook k p0 1048576).bind fun t2 => (if (decide (t2 < 0)) = true then some true else ((laws_toBook k p0).bind fun t4 => ((spec_Cut k t4).bind fun t8 => ((laws_toBook k p0).bind fun t13 => ((impl_Cut k t13).bind fun t18 => ((laws_eqBook k t18 t8).bind fun t23 => (if (!t23) = true then some false else ((laws_toBook k p0).bind fun t26 => ((laws_eqBook k t13 t26).bind fun t30 => (if (!t30) = true then some false else ((laws_markBook k t13 1).bind fun t32 => (if List.length t32.2 = List.length t13.L then (((if (decide (t32.1 < 0)) = true then some true else ((laws_eqBook k t18 t8).bind fun t36 => some (!t36)))).bind fun c38 => (if c38 = true then some false else ((laws_markBook k t18 1).bind fun t40 => (if List.length t40.2 = List.length t18.L then ((laws_heldBook k (⟨t18.Root, t40.2⟩ : TBook) 1).bind fun t43 => (if (decide (t43 < 0)) = true then some false else (if (!decide (t43 = t40.1)) = true then some false else ((laws_toBook k p0).bind fun t45 => ((impl_Cut k t45).bind fun t49 => ((laws_eqBook k t49 t8).bind fun t54 => (if (!t54) = true then some false else ((laws_heldBook k (⟨t18.Root, t40.2⟩ : TBook) 1).bind fun t56 => (if (decide (t56 < 0)) = true then some false else (if (!decide (t56 = t40.1)) = true then some false else some true)))))))))) else none)))) else none)))))))))))))
end Go.Proofs.Sx
