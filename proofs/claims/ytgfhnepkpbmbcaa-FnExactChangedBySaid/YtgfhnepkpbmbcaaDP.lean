/- FnExactChangedBy: the plain law. -/
import Derived.Test.YtgfhnepkpbmbcaaDX
import Derived.Test.YtgfhnepkpbmbcaaLP
namespace Go.Proofs.Sx
open Go.RowKit
set_option maxRecDepth 20000
set_option linter.unusedVariables false
set_option linter.unusedSimpArgs false
theorem spec_copyNode_eq {p : TNode} (h : p.L.length ≤ 2097152) : spec_l5Copy p = some p := by
  rw [spec_l5Copy, if_pos (okLen_iff.2 (by simp; omega)), List.nil_append]
theorem impl_copyNode_eq {p : TNode} (h : p.L.length ≤ 2097152) : impl_copyNode p = some p := by
  rw [impl_copyNode, slices_Clone_impl_Entry_impl_Entry, if_pos (okLen_iff.2 (by omega)), some_bind]

def hasPage (t : TTx) (p : Int) : Bool := t.Puts.any fun c => decide (c.Page = p)
def chg (l : List TTx) (p : Int) : Bool := l.any fun t => hasPage t p
def smTxs (l : List TTx) : Prop := l.length ≤ 2097152 ∧ ∀ t ∈ l, t.Puts.length ≤ 2097152 ∧ ∀ y ∈ t.Puts, y.N.L.length ≤ 2097152
theorem any_up {α : Type} [Inhabited α] {l : List α} {c : α → Bool} : (List.range l.length).any (fun i => c (gt l (i : Int))) = l.any c := by
  rw [Bool.eq_iff_iff]
  simp only [List.any_eq_true, List.mem_range]
  constructor
  · rintro ⟨i, hi, h⟩
    rw [gt_nat hi] at h
    exact ⟨_, List.getElem_mem hi, h⟩
  · rintro ⟨x, hx, h⟩
    obtain ⟨i, hi, rfl⟩ := List.getElem_of_mem hx
    exact ⟨i, hi, by rw [gt_nat hi]; exact h⟩
theorem any_down {α : Type} [Inhabited α] {l : List α} {c : α → Bool} : (List.range l.length).any (fun i => c (gt l ((l.length : Int) - 1 - (i : Int)))) = l.any c := by
  rw [Bool.eq_iff_iff]
  simp only [List.any_eq_true, List.mem_range]
  constructor
  · rintro ⟨i, hi, h⟩
    have e : (l.length : Int) - 1 - (i : Int) = ((l.length - 1 - i : Nat) : Int) := by omega
    rw [e, gt_nat (by omega)] at h
    exact ⟨_, List.getElem_mem _, h⟩
  · rintro ⟨x, hx, h⟩
    obtain ⟨i, hi, rfl⟩ := List.getElem_of_mem hx
    refine ⟨l.length - 1 - i, by omega, ?_⟩
    have e : (l.length : Int) - 1 - ((l.length - 1 - i : Nat) : Int) = (i : Int) := by omega
    rw [e, gt_nat hi]; exact h
theorem spec_lastOf {k : Nat} (hk : Big k) {l : List TTx} (h : smTxs l) (p : Int) : ∃ r, spec_LastOf k l p = some r ∧ r.2 = chg l p := by
  have hl := h.1
  have inner : ∀ i : Int, 0 ≤ i ∧ i < (l.length : Int) → ∃ o, loopM (spec_LastOf_b3 l p i) k 0 = some o ∧ if hasPage (gt l i) p = true then ∃ n, o = .ret (n, true) else ∃ s, o = .out s := by
    intro i hi
    have hm : gt l i ∈ l := by obtain ⟨h1, e⟩ := gt_eq hi.1 hi.2; rw [e]; exact List.getElem_mem _
    have hp := (h.2 _ hm).1
    have e := loop_first (b := spec_LastOf_b3 l p i) (k := k) (n := (gt l i).Puts.length) (fun j => (j : Int)) (fun j => decide ((gt (gt l i).Puts (j : Int)).Page = p)) (fun j => .ret ((gt (gt l i).Puts (j : Int)).N, true)) (by omega) hk (fun i t h => by cases h)
      (fun j hj => by
        have c1 : decide ((j : Int) < ((List.length (gt l i).Puts : Nat) : Int)) = true := by simp; omega
        have c2 : (0 : Int) ≤ (j : Int) ∧ (j : Int) < ((List.length (gt l i).Puts : Nat) : Int) := by omega
        have hn : (gt (gt l i).Puts (j : Int)).N.L.length ≤ 2097152 := by rw [gt_nat hj]; exact (h.2 _ hm).2 _ (List.getElem_mem hj)
        simp only [spec_LastOf_b3, if_pos hi, if_pos c1, if_pos c2, spec_copyNode_eq hn, some_bind, w64s (n := j) (by omega)]
        exact some_ite _ _ _)
      (by simp only [spec_LastOf_b3, if_pos hi]; rw [if_neg (by simp)])
    refine ⟨_, e, ?_⟩
    have ea : hasPage (gt l i) p = (firstN (fun j => decide ((gt (gt l i).Puts (j : Int)).Page = p)) (gt l i).Puts.length).isSome := by
      rw [← firstN_any, hasPage, ← any_up]
    rw [ea]
    cases firstN (fun j => decide ((gt (gt l i).Puts (j : Int)).Page = p)) (gt l i).Puts.length with
    | none => exact ⟨_, rfl⟩
    | some j => exact ⟨_, rfl⟩
  have outer : ∃ o, loopM (spec_LastOf_b2 k l p) k ((l.length : Int) - 1) = some o ∧ ((∃ n, o = .ret (n, true) ∧ chg l p = true) ∨ (∃ s, o = .out s ∧ chg l p = false)) := by
    obtain ⟨o, ho, hQ⟩ := loopM_ends (b := spec_LastOf_b2 k l p) (fun i => -1 ≤ i ∧ i < (l.length : Int) ∧ ∀ j : Nat, i < (j : Int) → (hj : j < l.length) → hasPage l[j] p = false) (fun i => (i + 1).toNat) (fun o => (∃ n, o = .ret (n, true) ∧ chg l p = true) ∨ (∃ s, o = .out s ∧ chg l p = false)) (fun i hi => by
      simp only [spec_LastOf_b2]
      by_cases h1 : i ≥ 0
      · rw [if_pos (by simpa using h1)]
        obtain ⟨o, e, ho⟩ := inner i ⟨h1, hi.2.1⟩
        rw [e, some_bind]
        obtain ⟨hlt, eg⟩ := gt_eq h1 hi.2.1
        by_cases hh : hasPage (gt l i) p = true
        · rw [if_pos hh] at ho
          obtain ⟨n, rfl⟩ := ho
          exact ⟨_, rfl, .inl ⟨n, rfl, by simp only [chg, List.any_eq_true]; exact ⟨_, by rw [eg]; exact List.getElem_mem hlt, hh⟩⟩⟩
        · rw [if_neg hh] at ho
          obtain ⟨s, rfl⟩ := ho
          refine ⟨_, rfl, ⟨by rw [w64 (by omega) (by omega)]; omega, by rw [w64 (by omega) (by omega)]; omega, fun j h2 hj => ?_⟩, by rw [w64 (by omega) (by omega)]; omega⟩
          rw [w64 (by omega) (by omega)] at h2
          by_cases h3 : (j : Int) = i
          · have : j = i.toNat := by omega
            subst this
            rw [← eg]; simpa using hh
          · exact hi.2.2 j (by omega) hj
      · rw [if_neg (by simpa using h1)]
        refine ⟨_, rfl, .inr ⟨_, rfl, ?_⟩⟩
        rw [← Bool.not_eq_true]
        intro hc
        simp only [chg, List.any_eq_true] at hc
        obtain ⟨x, hx, h4⟩ := hc
        obtain ⟨j, hj, rfl⟩ := List.getElem_of_mem hx
        rw [hi.2.2 j (by omega) hj] at h4; cases h4) k ((l.length : Int) - 1) ⟨by omega, by omega, fun j h1 h2 => by omega⟩ (by have : 9223372036854775808 ≤ k := hk; omega)
    exact ⟨o, ho, hQ⟩
  obtain ⟨o, ho, hQ⟩ := outer
  rw [spec_LastOf, w64 (by omega) (by omega), ho, some_bind]
  rcases hQ with ⟨n, rfl, hc⟩ | ⟨s, rfl, hc⟩
  · exact ⟨_, rfl, hc.symm⟩
  · exact ⟨_, rfl, hc.symm⟩
theorem impl_lastOf {k : Nat} (hk : Big k) {l : List TTx} (h : smTxs l) (p : Int) : ∃ r, impl_LastOf k l p = some r ∧ r.2 = chg l p := by
  have hl := h.1
  have inner : ∀ i : Int, 0 ≤ i ∧ i < (l.length : Int) → ∃ o, loopM (impl_LastOf_b3 l p i) k (wrap64 (((List.length (gt l i).Puts : Nat) : Int) - 1)) = some o ∧ if hasPage (gt l i) p = true then ∃ n, o = .ret (n, true) else ∃ s, o = .out s := by
    intro i hi
    have hm : gt l i ∈ l := by obtain ⟨h1, e⟩ := gt_eq hi.1 hi.2; rw [e]; exact List.getElem_mem _
    have hp := (h.2 _ hm).1
    have e := loop_first (b := impl_LastOf_b3 l p i) (k := k) (n := (gt l i).Puts.length) (fun j => ((gt l i).Puts.length : Int) - 1 - (j : Int)) (fun j => decide ((gt (gt l i).Puts (((gt l i).Puts.length : Int) - 1 - (j : Int))).Page = p)) (fun j => .ret ((gt (gt l i).Puts (((gt l i).Puts.length : Int) - 1 - (j : Int))).N, true)) (by omega) hk (fun i t h => by cases h)
      (fun j hj => by
        have c1 : decide (((gt l i).Puts.length : Int) - 1 - (j : Int) ≥ 0) = true := by simp; omega
        have c2 : (0 : Int) ≤ ((gt l i).Puts.length : Int) - 1 - (j : Int) ∧ ((gt l i).Puts.length : Int) - 1 - (j : Int) < ((List.length (gt l i).Puts : Nat) : Int) := by omega
        have hn : (gt (gt l i).Puts (((gt l i).Puts.length : Int) - 1 - (j : Int))).N.L.length ≤ 2097152 := by obtain ⟨h1, e⟩ := gt_eq c2.1 c2.2; rw [e]; exact (h.2 _ hm).2 _ (List.getElem_mem _)
        have ew : wrap64 (((gt l i).Puts.length : Int) - 1 - (j : Int) - 1) = ((gt l i).Puts.length : Int) - 1 - ((j + 1 : Nat) : Int) := by rw [w64 (by omega) (by omega)]; omega
        simp only [impl_LastOf_b3, if_pos c1, if_pos hi, if_pos c2, impl_copyNode_eq hn, some_bind, ew]
        exact some_ite _ _ _)
      (by simp only [impl_LastOf_b3]; rw [if_neg (by simp; omega)])
    have e0 : wrap64 (((List.length (gt l i).Puts : Nat) : Int) - 1) = ((gt l i).Puts.length : Int) - 1 - ((0 : Nat) : Int) := by rw [w64 (by omega) (by omega)]; omega
    rw [e0]
    refine ⟨_, e, ?_⟩
    have ea : hasPage (gt l i) p = (firstN (fun j => decide ((gt (gt l i).Puts (((gt l i).Puts.length : Int) - 1 - (j : Int))).Page = p)) (gt l i).Puts.length).isSome := by
      rw [← firstN_any, hasPage, ← any_down]
    rw [ea]
    cases firstN (fun j => decide ((gt (gt l i).Puts (((gt l i).Puts.length : Int) - 1 - (j : Int))).Page = p)) (gt l i).Puts.length with
    | none => exact ⟨_, rfl⟩
    | some j => exact ⟨_, rfl⟩
  have outer : ∃ o, loopM (impl_LastOf_b2 k l p) k ((l.length : Int) - 1) = some o ∧ ((∃ n, o = .ret (n, true) ∧ chg l p = true) ∨ (∃ s, o = .out s ∧ chg l p = false)) := by
    obtain ⟨o, ho, hQ⟩ := loopM_ends (b := impl_LastOf_b2 k l p) (fun i => -1 ≤ i ∧ i < (l.length : Int) ∧ ∀ j : Nat, i < (j : Int) → (hj : j < l.length) → hasPage l[j] p = false) (fun i => (i + 1).toNat) (fun o => (∃ n, o = .ret (n, true) ∧ chg l p = true) ∨ (∃ s, o = .out s ∧ chg l p = false)) (fun i hi => by
      simp only [impl_LastOf_b2]
      by_cases h1 : i ≥ 0
      · rw [if_pos (by simpa using h1), if_pos ⟨h1, hi.2.1⟩]
        obtain ⟨o, e, ho⟩ := inner i ⟨h1, hi.2.1⟩
        rw [e, some_bind]
        obtain ⟨hlt, eg⟩ := gt_eq h1 hi.2.1
        by_cases hh : hasPage (gt l i) p = true
        · rw [if_pos hh] at ho
          obtain ⟨n, rfl⟩ := ho
          exact ⟨_, rfl, .inl ⟨n, rfl, by simp only [chg, List.any_eq_true]; exact ⟨_, by rw [eg]; exact List.getElem_mem hlt, hh⟩⟩⟩
        · rw [if_neg hh] at ho
          obtain ⟨s, rfl⟩ := ho
          refine ⟨_, rfl, ⟨by rw [w64 (by omega) (by omega)]; omega, by rw [w64 (by omega) (by omega)]; omega, fun j h2 hj => ?_⟩, by rw [w64 (by omega) (by omega)]; omega⟩
          rw [w64 (by omega) (by omega)] at h2
          by_cases h3 : (j : Int) = i
          · have : j = i.toNat := by omega
            subst this
            rw [← eg]; simpa using hh
          · exact hi.2.2 j (by omega) hj
      · rw [if_neg (by simpa using h1)]
        refine ⟨_, rfl, .inr ⟨_, rfl, ?_⟩⟩
        rw [← Bool.not_eq_true]
        intro hc
        simp only [chg, List.any_eq_true] at hc
        obtain ⟨x, hx, h4⟩ := hc
        obtain ⟨j, hj, rfl⟩ := List.getElem_of_mem hx
        rw [hi.2.2 j (by omega) hj] at h4; cases h4) k ((l.length : Int) - 1) ⟨by omega, by omega, fun j h1 h2 => by omega⟩ (by have : 9223372036854775808 ≤ k := hk; omega)
    exact ⟨o, ho, hQ⟩
  obtain ⟨o, ho, hQ⟩ := outer
  rw [impl_LastOf, w64 (by omega) (by omega), ho, some_bind]
  rcases hQ with ⟨n, rfl, hc⟩ | ⟨s, rfl, hc⟩
  · exact ⟨_, rfl, hc.symm⟩
  · exact ⟨_, rfl, hc.symm⟩

def chgL (l : List TTx) : Nat → List Int
  | 0 => []
  | i + 1 => if chg l (i : Int) = true then chgL l i ++ [(i : Int)] else chgL l i
theorem chgL_len (l : List TTx) : ∀ i, (chgL l i).length ≤ i
  | 0 => Nat.le_refl _
  | i + 1 => by have := chgL_len l i; rw [chgL]; split <;> simp <;> omega
theorem changedBy_both {k : Nat} (hk : Big k) {l : List TTx} (h : smL 1048576 (smTTx 1048576) l) (w : wfL wfTTx l) : ∃ g, spec_ChangedBy k l = some g ∧ impl_ChangedBy k l = some g ∧ smL 1114112 (smT 1114112) g := by
  have hs : smTxs l := ⟨by have := h.1; omega, fun t ht => ⟨by have := (h.2 t ht).2.2.2.1; omega, fun y hy => by have := ((h.2 t ht).2.2.2.2 y hy).2.2.1; omega⟩⟩
  have e1 := loopM_run0 (b := spec_ChangedBy_b0 k l) (k := k) (fun i => (chgL l i, (i : Int))) 48 (r := .out (chgL l 48, ((48 : Nat) : Int))) (fun t h => by cases h) (fun j hj => by
      obtain ⟨r, e, hr⟩ := spec_lastOf hk hs (j : Int)
      have hl := chgL_len l j
      simp only [spec_ChangedBy_b0]
      rw [if_pos (by simp; omega), e, some_bind, hr, if_pos (c := okLen _ = true) (okLen_iff.2 (by simp; omega)), w64s (by omega), chgL]
      split <;> rfl) (by simp only [spec_ChangedBy_b0]; rw [if_neg (by simp)]) (by have : 9223372036854775808 ≤ k := hk; omega)
  have e2 := loopM_run0 (b := impl_ChangedBy_b0 k l) (k := k) (fun i => (chgL l i, (i : Int))) 48 (r := .out (chgL l 48, ((48 : Nat) : Int))) (fun t h => by cases h) (fun j hj => by
      obtain ⟨r, e, hr⟩ := impl_lastOf hk hs (j : Int)
      have hl := chgL_len l j
      simp only [impl_ChangedBy_b0]
      rw [if_pos (by simp; omega), e, some_bind, hr, if_pos (c := okLen _ = true) (okLen_iff.2 (by simp; omega)), w64s (by omega), chgL]
      split <;> rfl) (by simp only [impl_ChangedBy_b0]; rw [if_neg (by simp)]) (by have : 9223372036854775808 ≤ k := hk; omega)
  have e1' : loopM (spec_ChangedBy_b0 k l) k ([], 0) = _ := e1
  have e2' : loopM (impl_ChangedBy_b0 k l) k ([], 0) = _ := e2
  have := chgL_len l 48
  exact ⟨chgL l 48, by rw [spec_ChangedBy, e1', some_bind], by rw [impl_ChangedBy, e2', some_bind], by omega, fun _ _ => trivial⟩
theorem laws_FnExactChangedBy_true {p0 : (List TTx)} (h0 : (wfL wfTTx) p0) : ∃ k, laws_FnExactChangedBy k p0 = some true := by
  refine ⟨9223372036854775808, ?_⟩
  generalize hK : 9223372036854775808 = k
  have hk : Big k := by rw [Big, hK]; exact Nat.le_refl _
  clear hK
  have hN : (1048576 : Nat) ≤ 1114112 := by omega
  have hM : (1114112 : Nat) ≤ 1114112 := Nat.le_refl _
  rw [laws_FnExactChangedBy]
  obtain ⟨r0, e0, l0, g0, s0⟩ := sz_TxS hk p0 h0 (m := 1048576) (by omega) (by omega)
  rw [e0, Option.bind_some]
  by_cases z0 : r0 < 0
  · simp [z0]
  rw [if_neg (by simpa using z0)]
  have hs0 := s0 (by omega)
  obtain ⟨g, eS, eI, hg⟩ := changedBy_both hk hs0 h0
  have t0 := to_TxS hk hN p0 hs0
  have q0 := eq_TxS hk hN p0 p0 hs0
  have b0_0 := bd_TxS hN p0 (hs0)
  have k0 := mark_TxS hk hN p0 hs0 (m := 1) (by omega) (by omega)
  have zp0 : ¬ (1 + (sumL cn_Tx p0 : Int) < 0) := by omega
  have qr0 := eq_IntS hk hM g g (hg)
  have br0_0 := bd_IntS hM g (hg)
  have kr0 := mark_IntS hk hM g (hg) (m := 1) (by omega) (by omega)
  have hr0 := held_IntS hk hM g (hg) (m := 1) (by omega) (by omega)
  have zr0 : ¬ (1 + (sumL cn_Int g : Int) < 0) := by omega
  simp [eS, eI, t0, q0, k0, zp0, qr0, kr0, hr0, zr0, markL_length]

end Go.Proofs.Sx
