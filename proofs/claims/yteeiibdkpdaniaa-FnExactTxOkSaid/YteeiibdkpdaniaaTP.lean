/- FnExactTxOk: the plain law. -/
import Derived.Test.YteeiibdkpdaniaaTX
import Derived.Test.YteeiibdkpdaniaaLP
namespace Go.Proofs.Sx
open Go.RowKit
set_option maxRecDepth 20000
set_option linter.unusedVariables false
set_option linter.unusedSimpArgs false
theorem impl_in_eq (x a b : Int) : impl_in x a b = some (decide (a ≤ x ∧ x ≤ b)) := by simp [impl_in, Bool.decide_and]

theorem spec_in_eq (x a b : Int) : spec_l1In x a b = some (decide (a ≤ x ∧ x ≤ b)) := by simp [spec_l1In, Bool.decide_and, ge_iff_le]


def boxOkP (b : TBox) : Prop := 0 ≤ b.X0 ∧ b.X0 ≤ b.X1 ∧ b.X1 ≤ 255 ∧ 0 ≤ b.Y0 ∧ b.Y0 ≤ b.Y1 ∧ b.Y1 ≤ 255
instance (b : TBox) : Decidable (boxOkP b) := by unfold boxOkP; infer_instance
theorem spec_boxOk_eq (b : TBox) : spec_BoxOk b = some (decide (boxOkP b)) := by
  simp only [spec_BoxOk, spec_in_eq, some_bind, and_if]
  exact some_dec (by unfold boxOkP; omega)
theorem impl_boxOk_eq (b : TBox) : impl_BoxOk b = some (decide (boxOkP b)) := by
  simp only [impl_BoxOk, impl_in_eq, some_bind, and_if]
  exact some_dec (by unfold boxOkP; omega)

def entryAt (l : List TEntry) (n : Int) : Int := match firstN (fun i => decide ((gt l (i : Int)).N = n)) l.length with
  | some i => (i : Int)
  | none => -1
theorem spec_entryAt_eq {k : Nat} (hk : Big k) {l : List TEntry} (hl : l.length ≤ 2097152) (n : Int) : spec_EntryAt k l n = some (entryAt l n) := by
  have h := loop_first (b := spec_EntryAt_b0 l n) (k := k) (n := l.length) (fun i => (i : Int)) (fun i => decide ((gt l (i : Int)).N = n)) (fun i => .ret (i : Int)) (by omega) hk (fun i t h => by cases h)
    (fun i hi => by
      have c1 : decide ((i : Int) < ((List.length l : Nat) : Int)) = true := by simp; omega
      have c2 : (0 : Int) ≤ (i : Int) ∧ (i : Int) < ((List.length l : Nat) : Int) := by omega
      simp only [spec_EntryAt_b0, if_pos c1, if_pos c2, w64s (n := i) (by omega)]
      split <;> rfl)
    (by simp only [spec_EntryAt_b0]; rw [if_neg (by simp)])
  have h' : loopM (spec_EntryAt_b0 l n) k 0 = _ := h
  rw [spec_EntryAt, h', entryAt]
  cases firstN (fun i => decide ((gt l (i : Int)).N = n)) l.length <;> rfl
theorem impl_entryAt_eq {k : Nat} (hk : Big k) {l : List TEntry} (hl : l.length ≤ 2097152) (n : Int) : impl_EntryAt k l n = some (entryAt l n) := by
  have h := loop_first (b := slices_IndexFunc_impl_Entry_impl_Entry_impl_EntryAt_1_b0 l) (k := k) (n := l.length) (fun i => ((i : Int), n)) (fun i => decide ((gt l (i : Int)).N = n)) (fun i => .ret ((i : Int), n)) (by omega) hk (fun i t h => by cases h)
    (fun i hi => by
      have c1 : decide ((i : Int) < ((List.length l : Nat) : Int)) = true := by simp; omega
      have c2 : (0 : Int) ≤ (i : Int) ∧ (i : Int) < ((List.length l : Nat) : Int) := by omega
      simp only [slices_IndexFunc_impl_Entry_impl_Entry_impl_EntryAt_1_b0, impl_EntryAt_1, some_bind, if_pos c1, if_pos c2, w64s (n := i) (by omega)]
      split <;> rfl)
    (by simp only [slices_IndexFunc_impl_Entry_impl_Entry_impl_EntryAt_1_b0]; rw [if_neg (by simp)])
  have h' : loopM (slices_IndexFunc_impl_Entry_impl_Entry_impl_EntryAt_1_b0 l) k (0, n) = _ := h
  rw [impl_EntryAt, slices_IndexFunc_impl_Entry_impl_Entry_impl_EntryAt_1, h', entryAt]
  cases firstN (fun i => decide ((gt l (i : Int)).N = n)) l.length <;> rfl

def badEntry (p : TNode) (i : Nat) : Prop := ¬ boxOkP (gt p.L (i : Int)).R ∨ entryAt p.L (gt p.L (i : Int)).N ≠ (i : Int) ∨ (p.Leaf = true ∧ ¬ (1 ≤ (gt p.L (i : Int)).N ∧ (gt p.L (i : Int)).N ≤ 999)) ∨ (p.Leaf = false ∧ ¬ (0 ≤ (gt p.L (i : Int)).N ∧ (gt p.L (i : Int)).N ≤ 47))
instance (p : TNode) (i : Nat) : Decidable (badEntry p i) := by unfold badEntry; infer_instance
def nodeOk (p : TNode) : Bool := (firstN (fun i => decide (badEntry p i)) p.L.length).isNone && decide (p.L.length ≤ 4) && (p.Leaf || decide (p.L.length > 0))
theorem spec_nodeOk_eq {k : Nat} (hk : Big k) {p : TNode} (hl : p.L.length ≤ 2097152) : spec_NodeOk k p = some (nodeOk p) := by
  have h := loop_first (b := spec_NodeOk_b0 k p) (k := k) (n := p.L.length) (fun i => (i : Int)) (fun i => decide (badEntry p i)) (fun i => .ret false) (by omega) hk (fun i t h => by cases h)
    (fun i hi => by
      have c1 : decide ((i : Int) < ((List.length p.L : Nat) : Int)) = true := by simp; omega
      have c2 : (0 : Int) ≤ (i : Int) ∧ (i : Int) < ((List.length p.L : Nat) : Int) := by omega
      simp only [spec_NodeOk_b0, if_pos c1, if_pos c2, w64s (n := i) (by omega), spec_boxOk_eq, spec_entryAt_eq hk hl, spec_in_eq, some_bind]
      by_cases hA : boxOkP (gt p.L (i : Int)).R <;> by_cases hB : entryAt p.L (gt p.L (i : Int)).N = (i : Int) <;> cases hL : p.Leaf <;>
        by_cases hC : 1 ≤ (gt p.L (i : Int)).N ∧ (gt p.L (i : Int)).N ≤ 999 <;> by_cases hD : 0 ≤ (gt p.L (i : Int)).N ∧ (gt p.L (i : Int)).N ≤ 47 <;> simp [badEntry, hA, hB, hC, hD, hL])
    (by simp only [spec_NodeOk_b0]; rw [if_neg (by simp)])
  have h' : loopM (spec_NodeOk_b0 k p) k 0 = _ := h
  rw [spec_NodeOk, h', nodeOk]
  cases firstN (fun i => decide (badEntry p i)) p.L.length
  · have e1 : decide (((List.length p.L : Nat) : Int) ≤ 4) = decide (p.L.length ≤ 4) := decide_eq_decide.2 (by omega)
    have e2 : decide (((List.length p.L : Nat) : Int) > 0) = decide (p.L.length > 0) := decide_eq_decide.2 (by omega)
    simp only [some_bind, e1, e2, Option.isNone_none, Bool.true_and]
  · rfl
theorem impl_nodeOk_eq {k : Nat} (hk : Big k) {p : TNode} (hl : p.L.length ≤ 2097152) : impl_NodeOk k p = some (nodeOk p) := by
  have h := loop_first (b := impl_NodeOk_b0 k p) (k := k) (n := p.L.length) (fun i => (i : Int)) (fun i => decide (badEntry p i)) (fun i => .ret false) (by omega) hk (fun i t h => by cases h)
    (fun i hi => by
      have c1 : decide ((i : Int) < ((List.length p.L : Nat) : Int)) = true := by simp; omega
      have c2 : (0 : Int) ≤ (i : Int) ∧ (i : Int) < ((List.length p.L : Nat) : Int) := by omega
      simp only [impl_NodeOk_b0, if_pos c1, if_pos c2, w64s (n := i) (by omega), impl_boxOk_eq, impl_entryAt_eq hk hl, impl_in_eq, some_bind]
      by_cases hA : boxOkP (gt p.L (i : Int)).R <;> by_cases hB : entryAt p.L (gt p.L (i : Int)).N = (i : Int) <;> cases hL : p.Leaf <;>
        by_cases hC : 1 ≤ (gt p.L (i : Int)).N ∧ (gt p.L (i : Int)).N ≤ 999 <;> by_cases hD : 0 ≤ (gt p.L (i : Int)).N ∧ (gt p.L (i : Int)).N ≤ 47 <;> simp [badEntry, hA, hB, hC, hD, hL])
    (by simp only [impl_NodeOk_b0]; rw [if_neg (by simp)])
  have h' : loopM (impl_NodeOk_b0 k p) k 0 = _ := h
  rw [impl_NodeOk, h', nodeOk]
  by_cases h4 : p.L.length ≤ 4
  · have e4 : decide (((List.length p.L : Nat) : Int) > 4) = false := decide_eq_false (by omega)
    by_cases h0 : p.L.length > 0
    · have e0 : decide (((List.length p.L : Nat) : Int) = 0) = false := decide_eq_false (by omega)
      rw [e4, e0, Bool.and_false, if_neg (by decide)]
      cases firstN (fun i => decide (badEntry p i)) p.L.length <;> simp [h4, h0]
    · have e0 : decide (((List.length p.L : Nat) : Int) = 0) = true := decide_eq_true (by omega)
      cases hL : p.Leaf
      · rw [e4, e0, if_pos (by decide)]; simp [h0]
      · rw [e4, e0, if_neg (by decide)]
        cases firstN (fun i => decide (badEntry p i)) p.L.length <;> simp [h4]
  · have e4 : decide (((List.length p.L : Nat) : Int) > 4) = true := decide_eq_true (by omega)
    rw [e4, Bool.true_or, if_pos (by decide)]
    simp [h4]
theorem nodeOk_facts {p : TNode} (h : nodeOk p = true) : p.L.length ≤ 4 ∧ (∀ i, i < p.L.length → ¬ badEntry p i) ∧ (p.Leaf = false → 0 < p.L.length) := by
  unfold nodeOk at h
  simp only [Bool.and_eq_true, decide_eq_true_eq, Bool.or_eq_true, Option.isNone_iff_eq_none] at h
  obtain ⟨⟨h1, h2⟩, h3⟩ := h
  exact ⟨h2, fun i hi => by simpa using firstN_none h1 i hi, fun hL => by rcases h3 with h | h; rw [hL] at h; cases h; exact h⟩

def pg (t : TTx) (i : Nat) : Int := (gt t.Puts (i : Int)).Page
def badTx (t : TTx) (i : Nat) : Bool := !decide (0 ≤ pg t i ∧ pg t i ≤ wrap64 (t.Size - 1)) || (List.range i).any (fun j => decide (pg t j = pg t i)) || !nodeOk (gt t.Puts (i : Int)).N
def numsOk (t : TTx) : Bool := decide (1 ≤ t.Seq ∧ t.Seq ≤ 65535) && decide (1 ≤ t.Size ∧ t.Size ≤ 48) && decide (0 ≤ t.Root ∧ t.Root ≤ wrap64 (t.Size - 1))
def txOk (t : TTx) : Bool := (firstN (badTx t) t.Puts.length).isNone && numsOk t
def smTx (t : TTx) : Prop := t.Puts.length ≤ 2097152 ∧ ∀ y ∈ t.Puts, y.N.L.length ≤ 2097152
theorem spec_txOk_eq {k : Nat} (hk : Big k) {t : TTx} (h : smTx t) : spec_TxOk k t = some (txOk t) := by
  have hl := h.1
  have h2 := loop_first (b := spec_TxOk_b2 k t) (k := k) (n := t.Puts.length) (fun i => (i : Int)) (badTx t) (fun i => .ret false) (by omega) hk (fun i t h => by cases h)
    (fun i hi => by
      have c1 : decide ((i : Int) < ((List.length t.Puts : Nat) : Int)) = true := by simp; omega
      have c2 : (0 : Int) ≤ (i : Int) ∧ (i : Int) < ((List.length t.Puts : Nat) : Int) := by omega
      have hn : (gt t.Puts (i : Int)).N.L.length ≤ 2097152 := by rw [gt_nat hi]; exact h.2 _ (List.getElem_mem hi)
      have h3 := loop_first (b := spec_TxOk_b3 t (i : Int)) (k := k) (n := i) (fun j => (j : Int)) (fun j => decide (pg t j = pg t i)) (fun i => .ret false) (by omega) hk (fun i t h => by cases h)
        (fun j hj => by
          have d1 : decide ((j : Int) < (i : Int)) = true := by simp; omega
          have d2 : (0 : Int) ≤ (j : Int) ∧ (j : Int) < ((List.length t.Puts : Nat) : Int) := by omega
          simp only [spec_TxOk_b3, if_pos d1, if_pos d2, if_pos c2, w64s (n := j) (by omega), pg]
          exact some_ite _ _ _)
        (by simp only [spec_TxOk_b3]; rw [if_neg (by simp)])
      have h3' : loopM (spec_TxOk_b3 t (i : Int)) k 0 = _ := h3
      simp only [spec_TxOk_b2, if_pos c1, if_pos c2, w64s (n := i) (by omega), spec_nodeOk_eq hk hn, spec_in_eq, some_bind, h3', badTx, firstN_any]
      have ep : (gt t.Puts (i : Int)).Page = pg t i := rfl
      rw [ep]
      by_cases hA : 0 ≤ pg t i ∧ pg t i ≤ wrap64 (t.Size - 1) <;> cases hB : nodeOk (gt t.Puts (i : Int)).N <;> cases hC : firstN (fun j => decide (pg t j = pg t i)) i <;> simp [hA])
    (by simp only [spec_TxOk_b2]; rw [if_neg (by simp)])
  have h2' : loopM (spec_TxOk_b2 k t) k 0 = _ := h2
  rw [spec_TxOk, h2', txOk]
  cases firstN (badTx t) t.Puts.length
  · simp only [some_bind, spec_in_eq, Option.isNone_none, Bool.true_and, numsOk]
    generalize decide (1 ≤ t.Seq ∧ t.Seq ≤ 65535) = a
    generalize decide (1 ≤ t.Size ∧ t.Size ≤ 48) = b
    generalize decide (0 ≤ t.Root ∧ t.Root ≤ wrap64 (t.Size - 1)) = c
    cases a <;> cases b <;> cases c <;> rfl
  · rfl
theorem impl_numsOk_eq (t : TTx) : impl_Tx_numbersOk t = some (numsOk t) := by
  simp only [impl_Tx_numbersOk, impl_in_eq, some_bind, numsOk]
  generalize decide (1 ≤ t.Seq ∧ t.Seq ≤ 65535) = a
  generalize decide (1 ≤ t.Size ∧ t.Size ≤ 48) = b
  generalize decide (0 ≤ t.Root ∧ t.Root ≤ wrap64 (t.Size - 1)) = c
  cases a <;> cases b <;> cases c <;> rfl

def mp (t : TTx) : Nat → List (Int × Int)
  | 0 => []
  | i + 1 => mput (mp t i) (pg t i) 1
theorem mp_get (t : TTx) (x : Int) : ∀ i, mget (mp t i) x = if (List.range i).any (fun j => decide (pg t j = x)) = true then 1 else 0
  | 0 => rfl
  | i + 1 => by
    rw [mp, mget_mput, mp_get t x i, List.range_succ, List.any_append]
    by_cases h : x = pg t i
    · subst h; simp
    · have : ¬ pg t i = x := fun e => h e.symm
      simp [h, this]
theorem dec_if (b : Bool) : decide ((if b = true then (1 : Int) else 0) = 1) = b := by cases b <;> rfl
theorem impl_txOk_eq {k : Nat} (hk : Big k) {t : TTx} (h : smTx t) : impl_TxOk k t = some (txOk t) := by
  have hl := h.1
  have h2 := loop_first (b := impl_TxOk_b0 k t) (k := k) (n := t.Puts.length) (fun i => (mp t i, (i : Int))) (badTx t) (fun i => .ret false) (by omega) hk (fun i t h => by cases h)
    (fun i hi => by
      have c1 : decide ((i : Int) < ((List.length t.Puts : Nat) : Int)) = true := by simp; omega
      have c2 : (0 : Int) ≤ (i : Int) ∧ (i : Int) < ((List.length t.Puts : Nat) : Int) := by omega
      have hn : (gt t.Puts (i : Int)).N.L.length ≤ 2097152 := by rw [gt_nat hi]; exact h.2 _ (List.getElem_mem hi)
      have ep : (gt t.Puts (i : Int)).Page = pg t i := rfl
      have eN := impl_nodeOk_eq hk hn
      have eM := mp_get t (pg t i) i
      obtain ⟨nb, hnb⟩ : ∃ nb, nodeOk (gt t.Puts (i : Int)).N = nb := ⟨_, rfl⟩
      obtain ⟨ab, hab⟩ : ∃ ab, (List.range i).any (fun j => decide (pg t j = pg t i)) = ab := ⟨_, rfl⟩
      have eB : badTx t i = (!decide (0 ≤ pg t i ∧ pg t i ≤ wrap64 (t.Size - 1)) || ab || !nb) := by rw [badTx, hab, hnb]
      rw [hnb] at eN
      rw [hab] at eM
      simp only [impl_TxOk_b0, if_pos c1, if_pos c2, w64s (n := i) (by omega), eN, impl_in_eq, some_bind, ep, eM, eB, mp]
      by_cases hA : 0 ≤ pg t i ∧ pg t i ≤ wrap64 (t.Size - 1) <;> cases nb <;> cases ab <;> simp [hA])
    (by simp only [impl_TxOk_b0]; rw [if_neg (by simp)])
  have h2' : loopM (impl_TxOk_b0 k t) k (([] : List (Int × Int)), 0) = _ := h2
  rw [impl_TxOk, h2', txOk, impl_numsOk_eq]
  cases firstN (badTx t) t.Puts.length <;> rfl

theorem txOk_both {k : Nat} (hk : Big k) {t : TTx} (h : smTTx 1048576 t) (w : wfTTx t) : ∃ g, spec_TxOk k t = some g ∧ impl_TxOk k t = some g ∧ True := by
  have hs : smTx t := ⟨by have := h.2.2.2.1; omega, fun y hy => by have := (h.2.2.2.2 y hy).2.2.1; omega⟩
  exact ⟨_, spec_txOk_eq hk hs, impl_txOk_eq hk hs, trivial⟩
theorem laws_FnExactTxOk_true {p0 : TTx} (h0 : wfTTx p0) : ∃ k, laws_FnExactTxOk k p0 = some true := by
  refine ⟨9223372036854775808, ?_⟩
  generalize hK : 9223372036854775808 = k
  have hk : Big k := by rw [Big, hK]; exact Nat.le_refl _
  clear hK
  have hN : (1048576 : Nat) ≤ 1114112 := by omega
  have hM : (1114112 : Nat) ≤ 1114112 := Nat.le_refl _
  rw [laws_FnExactTxOk]
  obtain ⟨r0, e0, l0, g0, s0⟩ := sz_Tx hk p0 h0 (m := 1048576) (by omega) (by omega)
  rw [e0, Option.bind_some]
  by_cases z0 : r0 < 0
  · simp [z0]
  rw [if_neg (by simpa using z0)]
  have hs0 := s0 (by omega)
  obtain ⟨g, eS, eI, hg⟩ := txOk_both hk hs0 h0
  have t0 := to_Tx hk hN p0 hs0
  have q0 := eq_Tx hk hN p0 p0 hs0
  simp [eS, eI, t0, q0, markL_length]

end Go.Proofs.Sx
