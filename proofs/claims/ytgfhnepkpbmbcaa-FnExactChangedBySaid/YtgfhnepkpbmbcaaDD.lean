import Derived.Test.YtgfhnepkpbmbcaaLK
import Derived.Test.YtgfhnepkpbmbcaaLM
import Derived.KernelRfl
namespace Go.Proofs.Sx
open Go.RowKit
set_option linter.unusedVariables false
set_option linter.unusedSimpArgs false
set_option maxRecDepth 20000
set_option maxHeartbeats 1000000
structure TBox where
  X0 : Int
  Y0 : Int
  X1 : Int
  Y1 : Int
  deriving DecidableEq, Inhabited
structure TEntry where
  N : Int
  R : TBox
  deriving DecidableEq, Inhabited
structure TNode where
  Leaf : Bool
  L : (List TEntry)
  deriving DecidableEq, Inhabited
structure TChange where
  Page : Int
  N : TNode
  deriving DecidableEq, Inhabited
structure TTx where
  Seq : Int
  Root : Int
  Size : Int
  Puts : (List TChange)
  deriving DecidableEq, Inhabited
def wfTBox (x : TBox) : Prop := wfI x.X0 ∧ wfI x.Y0 ∧ wfI x.X1 ∧ wfI x.Y1
def wfTEntry (x : TEntry) : Prop := wfI x.N ∧ wfTBox x.R
def wfTNode (x : TNode) : Prop := wfB x.Leaf ∧ (wfL wfTEntry) x.L
def wfTChange (x : TChange) : Prop := wfI x.Page ∧ wfTNode x.N
def wfTTx (x : TTx) : Prop := wfI x.Seq ∧ wfI x.Root ∧ wfI x.Size ∧ (wfL wfTChange) x.Puts
/-! laws.szEntryS -/
def laws_szEntryS (p0 : (List TEntry)) (p1 : Int) : Option (Int) := (if (decide ((wrap64 (p1 - ((List.length p0 : Nat) : Int))) < 0)) = true then some (-1) else some (wrap64 (p1 - ((List.length p0 : Nat) : Int))))
/-! laws.szNode -/
def laws_szNode (p0 : TNode) (p1 : Int) : Option (Int) := ((laws_szEntryS p0.L p1).bind fun t2 => (if (decide (t2 < 0)) = true then some (-1) else some t2))
/-! laws.szChange -/
def laws_szChange (p0 : TChange) (p1 : Int) : Option (Int) := ((laws_szNode p0.N p1).bind fun t2 => (if (decide (t2 < 0)) = true then some (-1) else some t2))
/-! laws.szChangeS -/
def laws_szChangeS_b0 (p0 : (List TChange)) : (Int × Int) → Option (Nx (Int × Int) (Int))
  | (i8, i9) => (if (decide (i9 < ((List.length p0 : Nat) : Int))) = true then (if (0 : Int) ≤ i9 ∧ i9 < ((List.length p0 : Nat) : Int) then ((laws_szChange (gt p0 i9) i8).bind fun t22 => (if (decide (t22 < 0)) = true then some (.ret (-1)) else some (.next (t22, (wrap64 (i9 + 1)))))) else none) else some (.out (i8, i9)))
def laws_szChangeS (k : Nat) (p0 : (List TChange)) (p1 : Int) : Option (Int) := (if (decide ((wrap64 (p1 - ((List.length p0 : Nat) : Int))) < 0)) = true then some (-1) else ((loopM (laws_szChangeS_b0 p0) k ((wrap64 (p1 - ((List.length p0 : Nat) : Int))), 0)).bind fun o24 => match o24 with | .out (i25, i26) => some i25 | .ret r => some r | .next _ => none))
/-! laws.szTx -/
def laws_szTx (k : Nat) (p0 : TTx) (p1 : Int) : Option (Int) := ((laws_szChangeS k p0.Puts p1).bind fun t2 => (if (decide (t2 < 0)) = true then some (-1) else some t2))
/-! laws.szTxS -/
def laws_szTxS_b0 (k : Nat) (p0 : (List TTx)) : (Int × Int) → Option (Nx (Int × Int) (Int))
  | (i8, i9) => (if (decide (i9 < ((List.length p0 : Nat) : Int))) = true then (if (0 : Int) ≤ i9 ∧ i9 < ((List.length p0 : Nat) : Int) then ((laws_szTx k (gt p0 i9) i8).bind fun t22 => (if (decide (t22 < 0)) = true then some (.ret (-1)) else some (.next (t22, (wrap64 (i9 + 1)))))) else none) else some (.out (i8, i9)))
def laws_szTxS (k : Nat) (p0 : (List TTx)) (p1 : Int) : Option (Int) := (if (decide ((wrap64 (p1 - ((List.length p0 : Nat) : Int))) < 0)) = true then some (-1) else ((loopM (laws_szTxS_b0 k p0) k ((wrap64 (p1 - ((List.length p0 : Nat) : Int))), 0)).bind fun o24 => match o24 with | .out (i25, i26) => some i25 | .ret r => some r | .next _ => none))
/-! laws.toBox -/
def laws_toBox (p0 : TBox) : Option (TBox) := some p0
/-! laws.toEntry -/
def laws_toEntry (p0 : TEntry) : Option (TEntry) := ((laws_toBox p0.R).bind fun t4 => some (⟨p0.N, t4⟩ : TEntry))
/-! laws.toEntryS -/
def laws_toEntryS_b0 (p0 : (List TEntry)) : ((List TEntry) × Int) → Option (Nx ((List TEntry) × Int) ((List TEntry)))
  | (l11, i12) => (if (decide (i12 < ((List.length p0 : Nat) : Int))) = true then (if (0 : Int) ≤ i12 ∧ i12 < ((List.length p0 : Nat) : Int) then ((laws_toEntry (gt p0 i12)).bind fun t21 => (if (0 : Int) ≤ i12 ∧ i12 < ((List.length l11 : Nat) : Int) then ((some (List.set l11 (Int.toNat i12) t21)).bind fun l24 => some (.next (l24, (wrap64 (i12 + 1))))) else none)) else none) else some (.out (l11, i12)))
def laws_toEntryS (k : Nat) (p0 : (List TEntry)) : Option ((List TEntry)) := (if (0 : Int) ≤ ((List.length p0 : Nat) : Int) ∧ okLen (Int.toNat ((List.length p0 : Nat) : Int)) = true then ((loopM (laws_toEntryS_b0 p0) k ((List.replicate (Int.toNat ((List.length p0 : Nat) : Int)) (⟨(0 : Int), (⟨(0 : Int), (0 : Int), (0 : Int), (0 : Int)⟩ : TBox)⟩ : TEntry)), 0)).bind fun o27 => match o27 with | .out (l28, i29) => some l28 | .ret r => some r | .next _ => none) else none)
/-! laws.toNode -/
def laws_toNode (k : Nat) (p0 : TNode) : Option (TNode) := ((laws_toEntryS k p0.L).bind fun t4 => some (⟨p0.Leaf, t4⟩ : TNode))
/-! laws.toChange -/
def laws_toChange (k : Nat) (p0 : TChange) : Option (TChange) := ((laws_toNode k p0.N).bind fun t4 => some (⟨p0.Page, t4⟩ : TChange))
/-! laws.toChangeS -/
def laws_toChangeS_b0 (k : Nat) (p0 : (List TChange)) : ((List TChange) × Int) → Option (Nx ((List TChange) × Int) ((List TChange)))
  | (l17, i18) => (if (decide (i18 < ((List.length p0 : Nat) : Int))) = true then (if (0 : Int) ≤ i18 ∧ i18 < ((List.length p0 : Nat) : Int) then ((laws_toChange k (gt p0 i18)).bind fun t37 => (if (0 : Int) ≤ i18 ∧ i18 < ((List.length l17 : Nat) : Int) then ((some (List.set l17 (Int.toNat i18) t37)).bind fun l42 => some (.next (l42, (wrap64 (i18 + 1))))) else none)) else none) else some (.out (l17, i18)))
def laws_toChangeS (k : Nat) (p0 : (List TChange)) : Option ((List TChange)) := (if (0 : Int) ≤ ((List.length p0 : Nat) : Int) ∧ okLen (Int.toNat ((List.length p0 : Nat) : Int)) = true then ((loopM (laws_toChangeS_b0 k p0) k ((List.replicate (Int.toNat ((List.length p0 : Nat) : Int)) (⟨(0 : Int), (⟨false, ([] : (List TEntry))⟩ : TNode)⟩ : TChange)), 0)).bind fun o45 => match o45 with | .out (l46, i47) => some l46 | .ret r => some r | .next _ => none) else none)
/-! laws.toTx -/
def laws_toTx (k : Nat) (p0 : TTx) : Option (TTx) := ((laws_toChangeS k p0.Puts).bind fun t4 => some (⟨p0.Seq, p0.Root, p0.Size, t4⟩ : TTx))
/-! laws.toTxS -/
def laws_toTxS_b0 (k : Nat) (p0 : (List TTx)) : ((List TTx) × Int) → Option (Nx ((List TTx) × Int) ((List TTx)))
  | (l17, i18) => (if (decide (i18 < ((List.length p0 : Nat) : Int))) = true then (if (0 : Int) ≤ i18 ∧ i18 < ((List.length p0 : Nat) : Int) then ((laws_toTx k (gt p0 i18)).bind fun t37 => (if (0 : Int) ≤ i18 ∧ i18 < ((List.length l17 : Nat) : Int) then ((some (List.set l17 (Int.toNat i18) t37)).bind fun l42 => some (.next (l42, (wrap64 (i18 + 1))))) else none)) else none) else some (.out (l17, i18)))
def laws_toTxS (k : Nat) (p0 : (List TTx)) : Option ((List TTx)) := (if (0 : Int) ≤ ((List.length p0 : Nat) : Int) ∧ okLen (Int.toNat ((List.length p0 : Nat) : Int)) = true then ((loopM (laws_toTxS_b0 k p0) k ((List.replicate (Int.toNat ((List.length p0 : Nat) : Int)) (⟨(0 : Int), (0 : Int), (0 : Int), ([] : (List TChange))⟩ : TTx)), 0)).bind fun o45 => match o45 with | .out (l46, i47) => some l46 | .ret r => some r | .next _ => none) else none)
/-! spec.l5Copy -/
def spec_l5Copy (p0 : TNode) : Option (TNode) := (if okLen (List.length ([] : (List TEntry)) + List.length p0.L) = true then some (⟨p0.Leaf, (([] : (List TEntry)) ++ p0.L)⟩ : TNode) else none)
/-! spec.LastOf -/
def spec_LastOf_b0 (p0 : (List TTx)) (p1 : Int) : Int → Option (Nx (Int) (TNode × Bool))
  | i31 => (if (0 : Int) ≤ (wrap64 (((List.length p0 : Nat) : Int) - 1)) ∧ (wrap64 (((List.length p0 : Nat) : Int) - 1)) < ((List.length p0 : Nat) : Int) then (if (decide (i31 < ((List.length ((gt p0 (wrap64 (((List.length p0 : Nat) : Int) - 1))).Puts) : Nat) : Int))) = true then (if (0 : Int) ≤ (wrap64 (((List.length p0 : Nat) : Int) - 1)) ∧ (wrap64 (((List.length p0 : Nat) : Int) - 1)) < ((List.length p0 : Nat) : Int) then (if (0 : Int) ≤ i31 ∧ i31 < ((List.length ((gt p0 (wrap64 (((List.length p0 : Nat) : Int) - 1))).Puts) : Nat) : Int) then (if (decide (((gt ((gt p0 (wrap64 (((List.length p0 : Nat) : Int) - 1))).Puts) i31).Page) = p1)) = true then (if (0 : Int) ≤ (wrap64 (((List.length p0 : Nat) : Int) - 1)) ∧ (wrap64 (((List.length p0 : Nat) : Int) - 1)) < ((List.length p0 : Nat) : Int) then (if (0 : Int) ≤ i31 ∧ i31 < ((List.length ((gt p0 (wrap64 (((List.length p0 : Nat) : Int) - 1))).Puts) : Nat) : Int) then ((spec_l5Copy ((gt ((gt p0 (wrap64 (((List.length p0 : Nat) : Int) - 1))).Puts) i31).N)).bind fun t86 => some (.ret (t86, true))) else none) else none) else some (.next (wrap64 (i31 + 1)))) else none) else none) else some (.out i31)) else none)
def spec_LastOf_b1 (p0 : (List TTx)) (p1 : Int) (i93 : Int) : Int → Option (Nx (Int) (TNode × Bool))
  | i123 => (if (0 : Int) ≤ i93 ∧ i93 < ((List.length p0 : Nat) : Int) then (if (decide (i123 < ((List.length ((gt p0 i93).Puts) : Nat) : Int))) = true then (if (0 : Int) ≤ i93 ∧ i93 < ((List.length p0 : Nat) : Int) then (if (0 : Int) ≤ i123 ∧ i123 < ((List.length ((gt p0 i93).Puts) : Nat) : Int) then (if (decide (((gt ((gt p0 i93).Puts) i123).Page) = p1)) = true then (if (0 : Int) ≤ i93 ∧ i93 < ((List.length p0 : Nat) : Int) then (if (0 : Int) ≤ i123 ∧ i123 < ((List.length ((gt p0 i93).Puts) : Nat) : Int) then ((spec_l5Copy ((gt ((gt p0 i93).Puts) i123).N)).bind fun t178 => some (.ret (t178, true))) else none) else none) else some (.next (wrap64 (i123 + 1)))) else none) else none) else some (.out i123)) else none)
def spec_LastOf_b3 (p0 : (List TTx)) (p1 : Int) (i93 : Int) : Int → Option (Nx (Int) (TNode × Bool))
  | i214 => (if (0 : Int) ≤ i93 ∧ i93 < ((List.length p0 : Nat) : Int) then (if (decide (i214 < ((List.length ((gt p0 i93).Puts) : Nat) : Int))) = true then (if (0 : Int) ≤ i93 ∧ i93 < ((List.length p0 : Nat) : Int) then (if (0 : Int) ≤ i214 ∧ i214 < ((List.length ((gt p0 i93).Puts) : Nat) : Int) then (if (decide (((gt ((gt p0 i93).Puts) i214).Page) = p1)) = true then (if (0 : Int) ≤ i93 ∧ i93 < ((List.length p0 : Nat) : Int) then (if (0 : Int) ≤ i214 ∧ i214 < ((List.length ((gt p0 i93).Puts) : Nat) : Int) then ((spec_l5Copy ((gt ((gt p0 i93).Puts) i214).N)).bind fun t269 => some (.ret (t269, true))) else none) else none) else some (.next (wrap64 (i214 + 1)))) else none) else none) else some (.out i214)) else none)
def spec_LastOf_b2 (k : Nat) (p0 : (List TTx)) (p1 : Int) : Int → Option (Nx (Int) (TNode × Bool))
  | i93 => (if (decide (i93 ≥ 0)) = true then ((loopM (spec_LastOf_b3 p0 p1 i93) k 0).bind fun o273 => match o273 with | .out i274 => some (.next (wrap64 (i93 - 1))) | .ret r => some (.ret r) | .next _ => none) else some (.out i93))
def spec_LastOf (k : Nat) (p0 : (List TTx)) (p1 : Int) : Option (TNode × Bool) := ((loopM (spec_LastOf_b2 k p0 p1) k (wrap64 (((List.length p0 : Nat) : Int) - 1))).bind fun o276 => match o276 with | .out i277 => some ((⟨false, ([] : (List TEntry))⟩ : TNode), false) | .ret r => some r | .next _ => none)
/-! spec.ChangedBy -/
def spec_ChangedBy_b0 (k : Nat) (p0 : (List TTx)) : ((List Int) × Int) → Option (Nx ((List Int) × Int) ((List Int)))
  | (l13, i16) => (if (decide (i16 < 48)) = true then ((spec_LastOf k p0 i16).bind fun t27 => (if t27.2 = true then (if okLen (List.length l13 + List.length ([i16] : (List Int))) = true then some (.next ((l13 ++ ([i16] : (List Int))), (wrap64 (i16 + 1)))) else none) else some (.next (l13, (wrap64 (i16 + 1)))))) else some (.out (l13, i16)))
def spec_ChangedBy (k : Nat) (p0 : (List TTx)) : Option ((List Int)) := ((loopM (spec_ChangedBy_b0 k p0) k (([] : (List Int)), 0)).bind fun o37 => match o37 with | .out (l38, i41) => some l38 | .ret r => some r | .next _ => none)
/-! slices.Clone(()impl.Entry,impl.Entry) -/
def slices_Clone_impl_Entry_impl_Entry (p0 : (List TEntry)) : Option ((List TEntry)) := (if okLen (List.length p0) = true then some p0 else none)
/-! impl.copyNode -/
def impl_copyNode (p0 : TNode) : Option (TNode) := ((slices_Clone_impl_Entry_impl_Entry p0.L).bind fun t4 => some (⟨p0.Leaf, t4⟩ : TNode))
/-! impl.LastOf -/
def impl_LastOf_b0 (p0 : (List TTx)) (p1 : Int) : Int → Option (Nx (Int) (TNode × Bool))
  | i22 => (if (decide (i22 ≥ 0)) = true then (if (0 : Int) ≤ (wrap64 (((List.length p0 : Nat) : Int) - 1)) ∧ (wrap64 (((List.length p0 : Nat) : Int) - 1)) < ((List.length p0 : Nat) : Int) then (if (0 : Int) ≤ i22 ∧ i22 < ((List.length ((gt p0 (wrap64 (((List.length p0 : Nat) : Int) - 1))).Puts) : Nat) : Int) then (if (decide (((gt ((gt p0 (wrap64 (((List.length p0 : Nat) : Int) - 1))).Puts) i22).Page) = p1)) = true then ((impl_copyNode ((gt ((gt p0 (wrap64 (((List.length p0 : Nat) : Int) - 1))).Puts) i22).N)).bind fun t49 => some (.ret (t49, true))) else some (.next (wrap64 (i22 - 1)))) else none) else none) else some (.out i22))
def impl_LastOf_b1 (p0 : (List TTx)) (p1 : Int) (i56 : Int) : Int → Option (Nx (Int) (TNode × Bool))
  | i77 => (if (decide (i77 ≥ 0)) = true then (if (0 : Int) ≤ i56 ∧ i56 < ((List.length p0 : Nat) : Int) then (if (0 : Int) ≤ i77 ∧ i77 < ((List.length ((gt p0 i56).Puts) : Nat) : Int) then (if (decide (((gt ((gt p0 i56).Puts) i77).Page) = p1)) = true then ((impl_copyNode ((gt ((gt p0 i56).Puts) i77).N)).bind fun t104 => some (.ret (t104, true))) else some (.next (wrap64 (i77 - 1)))) else none) else none) else some (.out i77))
def impl_LastOf_b3 (p0 : (List TTx)) (p1 : Int) (i56 : Int) : Int → Option (Nx (Int) (TNode × Bool))
  | i131 => (if (decide (i131 ≥ 0)) = true then (if (0 : Int) ≤ i56 ∧ i56 < ((List.length p0 : Nat) : Int) then (if (0 : Int) ≤ i131 ∧ i131 < ((List.length ((gt p0 i56).Puts) : Nat) : Int) then (if (decide (((gt ((gt p0 i56).Puts) i131).Page) = p1)) = true then ((impl_copyNode ((gt ((gt p0 i56).Puts) i131).N)).bind fun t158 => some (.ret (t158, true))) else some (.next (wrap64 (i131 - 1)))) else none) else none) else some (.out i131))
def impl_LastOf_b2 (k : Nat) (p0 : (List TTx)) (p1 : Int) : Int → Option (Nx (Int) (TNode × Bool))
  | i56 => (if (decide (i56 ≥ 0)) = true then (if (0 : Int) ≤ i56 ∧ i56 < ((List.length p0 : Nat) : Int) then ((loopM (impl_LastOf_b3 p0 p1 i56) k (wrap64 (((List.length ((gt p0 i56).Puts) : Nat) : Int) - 1))).bind fun o162 => match o162 with | .out i163 => some (.next (wrap64 (i56 - 1))) | .ret r => some (.ret r) | .next _ => none) else none) else some (.out i56))
def impl_LastOf (k : Nat) (p0 : (List TTx)) (p1 : Int) : Option (TNode × Bool) := ((loopM (impl_LastOf_b2 k p0 p1) k (wrap64 (((List.length p0 : Nat) : Int) - 1))).bind fun o165 => match o165 with | .out i166 => some ((⟨false, ([] : (List TEntry))⟩ : TNode), false) | .ret r => some r | .next _ => none)
/-! impl.ChangedBy -/
def impl_ChangedBy_b0 (k : Nat) (p0 : (List TTx)) : ((List Int) × Int) → Option (Nx ((List Int) × Int) ((List Int)))
  | (l11, i14) => (if (decide (i14 < 48)) = true then ((impl_LastOf k p0 i14).bind fun t25 => (if t25.2 = true then (if okLen (List.length l11 + List.length ([i14] : (List Int))) = true then some (.next ((l11 ++ ([i14] : (List Int))), (wrap64 (i14 + 1)))) else none) else some (.next (l11, (wrap64 (i14 + 1)))))) else some (.out (l11, i14)))
def impl_ChangedBy (k : Nat) (p0 : (List TTx)) : Option ((List Int)) := ((loopM (impl_ChangedBy_b0 k p0) k (([] : List Int), 0)).bind fun o35 => match o35 with | .out (l36, i39) => some l36 | .ret r => some r | .next _ => none)
/-! laws.eqIntS -/
def laws_eqIntS_b0 (p0 : (List Int)) (p1 : (List Int)) : Int → Option (Nx (Int) (Bool))
  | i4 => (if (decide (i4 < ((List.length p0 : Nat) : Int))) = true then (if (0 : Int) ≤ i4 ∧ i4 < ((List.length p0 : Nat) : Int) then (if (0 : Int) ≤ i4 ∧ i4 < ((List.length p1 : Nat) : Int) then (if (!decide ((gt p0 i4) = (gt p1 i4))) = true then some (.ret false) else some (.next (wrap64 (i4 + 1)))) else none) else none) else some (.out i4))
def laws_eqIntS (k : Nat) (p0 : (List Int)) (p1 : (List Int)) : Option (Bool) := (if (!decide (((List.length p0 : Nat) : Int) = ((List.length p1 : Nat) : Int))) = true then some false else ((loopM (laws_eqIntS_b0 p0 p1) k 0).bind fun o11 => match o11 with | .out i12 => some true | .ret r => some r | .next _ => none))
/-! laws.eqBox -/
def laws_eqBox (p0 : TBox) (p1 : TBox) : Option (Bool) := (if (!decide (p0.X0 = p1.X0)) = true then some false else (if (!decide (p0.Y0 = p1.Y0)) = true then some false else (if (!decide (p0.X1 = p1.X1)) = true then some false else (if (!decide (p0.Y1 = p1.Y1)) = true then some false else some true))))
/-! laws.eqEntry -/
def laws_eqEntry (p0 : TEntry) (p1 : TEntry) : Option (Bool) := (if (!decide (p0.N = p1.N)) = true then some false else ((laws_eqBox p0.R p1.R).bind fun t3 => (if (!t3) = true then some false else some true)))
/-! laws.eqEntryS -/
def laws_eqEntryS_b0 (p0 : (List TEntry)) (p1 : (List TEntry)) : Int → Option (Nx (Int) (Bool))
  | i6 => (if (decide (i6 < ((List.length p0 : Nat) : Int))) = true then (if (0 : Int) ≤ i6 ∧ i6 < ((List.length p0 : Nat) : Int) then (if (0 : Int) ≤ i6 ∧ i6 < ((List.length p1 : Nat) : Int) then ((laws_eqEntry (gt p0 i6) (gt p1 i6)).bind fun t15 => (if (!t15) = true then some (.ret false) else some (.next (wrap64 (i6 + 1))))) else none) else none) else some (.out i6))
def laws_eqEntryS (k : Nat) (p0 : (List TEntry)) (p1 : (List TEntry)) : Option (Bool) := (if (!decide (((List.length p0 : Nat) : Int) = ((List.length p1 : Nat) : Int))) = true then some false else ((loopM (laws_eqEntryS_b0 p0 p1) k 0).bind fun o17 => match o17 with | .out i18 => some true | .ret r => some r | .next _ => none))
/-! laws.eqNode -/
def laws_eqNode (k : Nat) (p0 : TNode) (p1 : TNode) : Option (Bool) := (if (!(p0.Leaf == p1.Leaf)) = true then some false else ((laws_eqEntryS k p0.L p1.L).bind fun t3 => (if (!t3) = true then some false else some true)))
/-! laws.eqChange -/
def laws_eqChange (k : Nat) (p0 : TChange) (p1 : TChange) : Option (Bool) := (if (!decide (p0.Page = p1.Page)) = true then some false else ((laws_eqNode k p0.N p1.N).bind fun t3 => (if (!t3) = true then some false else some true)))
/-! laws.eqChangeS -/
def laws_eqChangeS_b0 (k : Nat) (p0 : (List TChange)) (p1 : (List TChange)) : Int → Option (Nx (Int) (Bool))
  | i14 => (if (decide (i14 < ((List.length p0 : Nat) : Int))) = true then (if (0 : Int) ≤ i14 ∧ i14 < ((List.length p0 : Nat) : Int) then (if (0 : Int) ≤ i14 ∧ i14 < ((List.length p1 : Nat) : Int) then ((laws_eqChange k (gt p0 i14) (gt p1 i14)).bind fun t39 => (if (!t39) = true then some (.ret false) else some (.next (wrap64 (i14 + 1))))) else none) else none) else some (.out i14))
def laws_eqChangeS (k : Nat) (p0 : (List TChange)) (p1 : (List TChange)) : Option (Bool) := (if (!decide (((List.length p0 : Nat) : Int) = ((List.length p1 : Nat) : Int))) = true then some false else ((loopM (laws_eqChangeS_b0 k p0 p1) k 0).bind fun o41 => match o41 with | .out i42 => some true | .ret r => some r | .next _ => none))
/-! laws.eqTx -/
def laws_eqTx (k : Nat) (p0 : TTx) (p1 : TTx) : Option (Bool) := (if (!decide (p0.Seq = p1.Seq)) = true then some false else (if (!decide (p0.Root = p1.Root)) = true then some false else (if (!decide (p0.Size = p1.Size)) = true then some false else ((laws_eqChangeS k p0.Puts p1.Puts).bind fun t3 => (if (!t3) = true then some false else some true)))))
/-! laws.eqTxS -/
def laws_eqTxS_b0 (k : Nat) (p0 : (List TTx)) (p1 : (List TTx)) : Int → Option (Nx (Int) (Bool))
  | i14 => (if (decide (i14 < ((List.length p0 : Nat) : Int))) = true then (if (0 : Int) ≤ i14 ∧ i14 < ((List.length p0 : Nat) : Int) then (if (0 : Int) ≤ i14 ∧ i14 < ((List.length p1 : Nat) : Int) then ((laws_eqTx k (gt p0 i14) (gt p1 i14)).bind fun t39 => (if (!t39) = true then some (.ret false) else some (.next (wrap64 (i14 + 1))))) else none) else none) else some (.out i14))
def laws_eqTxS (k : Nat) (p0 : (List TTx)) (p1 : (List TTx)) : Option (Bool) := (if (!decide (((List.length p0 : Nat) : Int) = ((List.length p1 : Nat) : Int))) = true then some false else ((loopM (laws_eqTxS_b0 k p0 p1) k 0).bind fun o41 => match o41 with | .out i42 => some true | .ret r => some r | .next _ => none))
/-! laws.markEntryS -/
def laws_markEntryS_b0 : ((List TEntry) × Int × Int) → Option (Nx ((List TEntry) × Int × Int) (Int × (List TEntry)))
  | (l21, i22, i23) => (if (decide (i23 < ((List.length l21 : Nat) : Int))) = true then (if (0 : Int) ≤ i23 ∧ i23 < ((List.length l21 : Nat) : Int) then ((some (List.set l21 (Int.toNat i23) (⟨i22, (gt l21 i23).R⟩ : TEntry))).bind fun l45 => (if (0 : Int) ≤ i23 ∧ i23 < ((List.length l45 : Nat) : Int) then ((some (List.set l45 (Int.toNat i23) (⟨(gt l45 i23).N, (⟨(wrap64 (i22 + 1)), (gt l45 i23).R.Y0, (gt l45 i23).R.X1, (gt l45 i23).R.Y1⟩ : TBox)⟩ : TEntry))).bind fun l49 => (if (0 : Int) ≤ i23 ∧ i23 < ((List.length l49 : Nat) : Int) then ((some (List.set l49 (Int.toNat i23) (⟨(gt l49 i23).N, (⟨(gt l49 i23).R.X0, (wrap64 ((wrap64 (i22 + 1)) + 1)), (gt l49 i23).R.X1, (gt l49 i23).R.Y1⟩ : TBox)⟩ : TEntry))).bind fun l53 => (if (0 : Int) ≤ i23 ∧ i23 < ((List.length l53 : Nat) : Int) then ((some (List.set l53 (Int.toNat i23) (⟨(gt l53 i23).N, (⟨(gt l53 i23).R.X0, (gt l53 i23).R.Y0, (wrap64 ((wrap64 ((wrap64 (i22 + 1)) + 1)) + 1)), (gt l53 i23).R.Y1⟩ : TBox)⟩ : TEntry))).bind fun l57 => (if (0 : Int) ≤ i23 ∧ i23 < ((List.length l57 : Nat) : Int) then ((some (List.set l57 (Int.toNat i23) (⟨(gt l57 i23).N, (⟨(gt l57 i23).R.X0, (gt l57 i23).R.Y0, (gt l57 i23).R.X1, (wrap64 ((wrap64 ((wrap64 ((wrap64 (i22 + 1)) + 1)) + 1)) + 1))⟩ : TBox)⟩ : TEntry))).bind fun l61 => some (.next (l61, (wrap64 ((wrap64 ((wrap64 ((wrap64 ((wrap64 (i22 + 1)) + 1)) + 1)) + 1)) + 1)), (wrap64 (i23 + 1))))) else none)) else none)) else none)) else none)) else none) else some (.out (l21, i22, i23)))
def laws_markEntryS (k : Nat) (p0 : (List TEntry)) (p1 : Int) : Option (Int × (List TEntry)) := ((loopM (laws_markEntryS_b0) k (p0, p1, 0)).bind fun o64 => match o64 with | .out (l65, i66, i67) => some (i66, l65) | .ret r => some r | .next _ => none)
/-! laws.markChangeS -/
def laws_markChangeS_b0 (k : Nat) : ((List TChange) × Int × Int) → Option (Nx ((List TChange) × Int × Int) (Int × (List TChange)))
  | (l15, i16, i17) => (if (decide (i17 < ((List.length l15 : Nat) : Int))) = true then (if (0 : Int) ≤ i17 ∧ i17 < ((List.length l15 : Nat) : Int) then ((some (List.set l15 (Int.toNat i17) (⟨i16, (gt l15 i17).N⟩ : TChange))).bind fun l33 => (if (0 : Int) ≤ i17 ∧ i17 < ((List.length l33 : Nat) : Int) then ((some (List.set l33 (Int.toNat i17) (⟨(gt l33 i17).Page, (⟨(decide ((Int.tmod (wrap64 (i16 + 1)) 3) = 0)), (gt l33 i17).N.L⟩ : TNode)⟩ : TChange))).bind fun l37 => (if (0 : Int) ≤ i17 ∧ i17 < ((List.length l37 : Nat) : Int) then ((laws_markEntryS k ((gt l37 i17).N.L) (wrap64 ((wrap64 (i16 + 1)) + 1))).bind fun t43 => (if List.length t43.2 = List.length ((gt l37 i17).N.L) then some (.next ((List.set l37 (Int.toNat i17) (⟨(gt l37 i17).Page, (⟨(gt l37 i17).N.Leaf, t43.2⟩ : TNode)⟩ : TChange)), t43.1, (wrap64 (i17 + 1)))) else none)) else none)) else none)) else none) else some (.out (l15, i16, i17)))
def laws_markChangeS (k : Nat) (p0 : (List TChange)) (p1 : Int) : Option (Int × (List TChange)) := ((loopM (laws_markChangeS_b0 k) k (p0, p1, 0)).bind fun o46 => match o46 with | .out (l47, i48, i49) => some (i48, l47) | .ret r => some r | .next _ => none)
/-! laws.markTxS -/
def laws_markTxS_b0 (k : Nat) : ((List TTx) × Int × Int) → Option (Nx ((List TTx) × Int × Int) (Int × (List TTx)))
  | (l19, i20, i21) => (if (decide (i21 < ((List.length l19 : Nat) : Int))) = true then (if (0 : Int) ≤ i21 ∧ i21 < ((List.length l19 : Nat) : Int) then ((some (List.set l19 (Int.toNat i21) (⟨i20, (gt l19 i21).Root, (gt l19 i21).Size, (gt l19 i21).Puts⟩ : TTx))).bind fun l41 => (if (0 : Int) ≤ i21 ∧ i21 < ((List.length l41 : Nat) : Int) then ((some (List.set l41 (Int.toNat i21) (⟨(gt l41 i21).Seq, (wrap64 (i20 + 1)), (gt l41 i21).Size, (gt l41 i21).Puts⟩ : TTx))).bind fun l45 => (if (0 : Int) ≤ i21 ∧ i21 < ((List.length l45 : Nat) : Int) then ((some (List.set l45 (Int.toNat i21) (⟨(gt l45 i21).Seq, (gt l45 i21).Root, (wrap64 ((wrap64 (i20 + 1)) + 1)), (gt l45 i21).Puts⟩ : TTx))).bind fun l49 => (if (0 : Int) ≤ i21 ∧ i21 < ((List.length l49 : Nat) : Int) then ((laws_markChangeS k ((gt l49 i21).Puts) (wrap64 ((wrap64 ((wrap64 (i20 + 1)) + 1)) + 1))).bind fun t55 => (if List.length t55.2 = List.length ((gt l49 i21).Puts) then some (.next ((List.set l49 (Int.toNat i21) (⟨(gt l49 i21).Seq, (gt l49 i21).Root, (gt l49 i21).Size, t55.2⟩ : TTx)), t55.1, (wrap64 (i21 + 1)))) else none)) else none)) else none)) else none)) else none) else some (.out (l19, i20, i21)))
def laws_markTxS (k : Nat) (p0 : (List TTx)) (p1 : Int) : Option (Int × (List TTx)) := ((loopM (laws_markTxS_b0 k) k (p0, p1, 0)).bind fun o58 => match o58 with | .out (l59, i60, i61) => some (i60, l59) | .ret r => some r | .next _ => none)
/-! laws.markIntS -/
def laws_markIntS_b0 : ((List Int) × Int × Int) → Option (Nx ((List Int) × Int × Int) (Int × (List Int)))
  | (l5, i6, i7) => (if (decide (i7 < ((List.length l5 : Nat) : Int))) = true then (if (0 : Int) ≤ i7 ∧ i7 < ((List.length l5 : Nat) : Int) then ((some (List.set l5 (Int.toNat i7) i6)).bind fun l13 => some (.next (l13, (wrap64 (i6 + 1)), (wrap64 (i7 + 1))))) else none) else some (.out (l5, i6, i7)))
def laws_markIntS (k : Nat) (p0 : (List Int)) (p1 : Int) : Option (Int × (List Int)) := ((loopM (laws_markIntS_b0) k (p0, p1, 0)).bind fun o16 => match o16 with | .out (l17, i18, i19) => some (i18, l17) | .ret r => some r | .next _ => none)
/-! laws.heldIntS -/
def laws_heldIntS_b0 (p0 : (List Int)) : (Int × Int) → Option (Nx (Int × Int) (Int))
  | (i2, i3) => (if (decide (i3 < ((List.length p0 : Nat) : Int))) = true then (if (0 : Int) ≤ i3 ∧ i3 < ((List.length p0 : Nat) : Int) then (if (!decide ((gt p0 i3) = i2)) = true then some (.ret (-1)) else some (.next ((wrap64 (i2 + 1)), (wrap64 (i3 + 1))))) else none) else some (.out (i2, i3)))
def laws_heldIntS (k : Nat) (p0 : (List Int)) (p1 : Int) : Option (Int) := ((loopM (laws_heldIntS_b0 p0) k (p1, 0)).bind fun o6 => match o6 with | .out (i7, i8) => some i7 | .ret r => some r | .next _ => none)
/-! laws.FnExactChangedBy -/
def laws_FnExactChangedBy (k : Nat) (p0 : (List TTx)) : Option (Bool) := ((laws_szTxS k p0 1048576).bind fun t1 => (if (decide (t1 < 0)) = true then some true else ((laws_toTxS k p0).bind fun t3 => ((spec_ChangedBy k t3).bind fun t7 => ((laws_toTxS k p0).bind fun t11 => ((impl_ChangedBy k t11).bind fun t15 => ((laws_eqIntS k t15 t7).bind fun t19 => (if (!t19) = true then some false else ((laws_toTxS k p0).bind fun t21 => ((laws_eqTxS k t11 t21).bind fun t25 => (if (!t25) = true then some false else ((laws_markTxS k t11 1).bind fun t27 => (if List.length t27.2 = List.length t11 then (((if (decide (t27.1 < 0)) = true then some true else ((laws_eqIntS k t15 t7).bind fun t31 => some (!t31)))).bind fun c33 => (if c33 = true then some false else ((laws_markIntS k t15 1).bind fun t35 => (if List.length t35.2 = List.length t15 then ((laws_heldIntS k t35.2 1).bind fun t38 => (if (decide (t38 < 0)) = true then some false else (if (!decide (t38 = t35.1)) = true then some false else ((laws_toTxS k p0).bind fun t40 => ((impl_ChangedBy k t40).bind fun t44 => ((laws_eqIntS k t44 t7).bind fun t48 => (if (!t48) = true then some false else ((laws_heldIntS k t35.2 1).bind fun t50 => (if (decide (t50 < 0)) = true then some false else (if (!decide (t50 = t35.1)) = true then some false else some true)))))))))) else none)))) else none)))))))))))))
end Go.Proofs.Sx
