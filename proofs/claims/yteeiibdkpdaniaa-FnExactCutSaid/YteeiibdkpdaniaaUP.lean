/- FnExactCut: the plain law. -/
import Derived.Test.YteeiibdkpdaniaaUX
import Derived.Test.YteeiibdkpdaniaaLP
namespace Go.Proofs.Sx
open Go.RowKit
set_option maxRecDepth 20000
set_option linter.unusedVariables false
set_option linter.unusedSimpArgs false
def okNode (M : Nat) (p : TNode) : Prop := p.L.length ≤ M
theorem spec_copyNode_eq {p : TNode} (h : p.L.length ≤ 2097152) : spec_l5Copy p = some p := by
  rw [spec_l5Copy, if_pos (okLen_iff.2 (by simp; omega)), List.nil_append]
theorem impl_copyNode_eq {p : TNode} (h : p.L.length ≤ 2097152) : impl_copyNode p = some p := by
  rw [impl_copyNode, slices_Clone_impl_Entry_impl_Entry, if_pos (okLen_iff.2 (by omega)), some_bind]
def smBook (p : TBook) : Prop := p.L.length ≤ 2097152 ∧ ∀ y ∈ p.L, y.N.L.length ≤ 2097152
theorem spec_copyBook_eq {k : Nat} (hk : Big k) {p : TBook} (h : smBook p) : spec_l7Copy k p = some p := by
  have hl := h.1
  have e := loop_app2 (b := spec_l7Copy_b0 p) (k := k) (f := fun x : TPage => [x]) (p := p.L) (z := []) (B := 1) (by omega) hk (fun _ _ => Nat.le_refl _) (fun i hi l hl2 => by
      simp only [List.length_nil] at hl2
      have c1 : decide ((i : Int) < ((List.length p.L : Nat) : Int)) = true := by simp; omega
      have c2 : (0 : Int) ≤ (i : Int) ∧ (i : Int) < ((List.length p.L : Nat) : Int) := by omega
      have hn := h.2 _ (List.getElem_mem hi)
      simp only [spec_l7Copy_b0, if_pos c1, if_pos c2, gt_nat hi, spec_copyNode_eq hn, some_bind]
      rw [if_pos (okLen_iff.2 (by simp; omega)), w64s (by omega)])
    (fun l => by simp only [spec_l7Copy_b0]; rw [if_neg (by simp)])
  rw [spec_l7Copy, e, some_bind]
  simp only [List.nil_append, fm_single]
theorem impl_copyBook_eq {k : Nat} (hk : Big k) {p : TBook} (h : smBook p) : impl_copyBook k p = some p := by
  have hl := h.1
  have e := loop_app (b := impl_copyBook_b0 p) (k := k) (f := fun x : TPage => [x]) (p := p.L) (z := []) (B := 1) (by omega) hk (fun _ _ => Nat.le_refl _) (fun i hi l hl2 => by
      simp only [List.length_nil] at hl2
      have c1 : decide ((i : Int) < ((List.length p.L : Nat) : Int)) = true := by simp; omega
      have c2 : (0 : Int) ≤ (i : Int) ∧ (i : Int) < ((List.length p.L : Nat) : Int) := by omega
      have hn := h.2 _ (List.getElem_mem hi)
      simp only [impl_copyBook_b0, if_pos c1, if_pos c2, gt_nat hi, impl_copyNode_eq hn, some_bind]
      rw [if_pos (okLen_iff.2 (by simp; omega)), w64s (by omega)])
    (fun l => by simp only [impl_copyBook_b0]; rw [if_neg (by simp)])
  rw [impl_copyBook, e, some_bind]
  simp only [List.nil_append, fm_single]

def lastUsed (l : List TPage) : Int := match firstN (fun j => (gt l ((l.length : Int) - 1 - (j : Int))).Used) l.length with
  | some j => (l.length : Int) - 1 - (j : Int)
  | none => -1
theorem lastUsed_le (l : List TPage) : -1 ≤ lastUsed l ∧ lastUsed l < (l.length : Int) := by
  unfold lastUsed
  split
  · rename_i j h
    have := (firstN_some h).1
    omega
  · omega
theorem spec_lastUsed_eq {k : Nat} (hk : Big k) {p : TBook} (hl : p.L.length ≤ 2097152) : spec_LastUsed k p = some (lastUsed p.L) := by
  have h := loop_first (b := spec_LastUsed_b0 p) (k := k) (n := p.L.length) (fun i => (p.L.length : Int) - 1 - (i : Int)) (fun j => (gt p.L ((p.L.length : Int) - 1 - (j : Int))).Used) (fun i => .ret ((p.L.length : Int) - 1 - (i : Int))) (by omega) hk (fun i t h => by cases h)
    (fun i hi => by
      have c1 : decide ((p.L.length : Int) - 1 - (i : Int) ≥ 0) = true := by simp; omega
      have c2 : (0 : Int) ≤ (p.L.length : Int) - 1 - (i : Int) ∧ (p.L.length : Int) - 1 - (i : Int) < ((List.length p.L : Nat) : Int) := by omega
      have e : wrap64 ((p.L.length : Int) - 1 - (i : Int) - 1) = (p.L.length : Int) - 1 - ((i + 1 : Nat) : Int) := by rw [w64 (by omega) (by omega)]; omega
      simp only [spec_LastUsed_b0, if_pos c1, if_pos c2, e]
      split <;> rfl)
    (by simp only [spec_LastUsed_b0]; rw [if_neg (by simp; omega)])
  have e0 : wrap64 (((List.length p.L : Nat) : Int) - 1) = (p.L.length : Int) - 1 - ((0 : Nat) : Int) := by rw [w64 (by omega) (by omega)]; omega
  rw [spec_LastUsed, e0, h, lastUsed]
  cases firstN (fun j => (gt p.L ((p.L.length : Int) - 1 - (j : Int))).Used) p.L.length <;> rfl
theorem impl_lastUsed_eq {k : Nat} (hk : Big k) {p : TBook} (hl : p.L.length ≤ 2097152) : impl_LastUsed k p = some (lastUsed p.L) := by
  rw [← spec_lastUsed_eq hk hl]; rfl

theorem smBook_of {N : Nat} (hN : N ≤ 1114112) {p : TBook} (h : smTBook N p) : smBook p := ⟨by have := h.2.1; omega, fun y hy => by have := (h.2.2 y hy).2.2.1; omega⟩

def cutBook (p : TBook) : TBook := ⟨p.Root, p.L.take ((if lastUsed p.L < 0 then 0 else lastUsed p.L) + 1).toNat⟩
theorem spec_cut_eq {k : Nat} (hk : Big k) {p : TBook} (h : smBook p) : spec_Cut k p = some (cutBook p) := by
  have hl := h.1
  have hu := lastUsed_le p.L
  rw [spec_Cut, spec_copyBook_eq hk h, some_bind, spec_lastUsed_eq hk hl, some_bind, w64 (by omega) (by omega), spec_Most]
  have e : (if decide (lastUsed p.L + 1 > 1) = true then some (lastUsed p.L + 1) else some 1) = some ((if lastUsed p.L < 0 then 0 else lastUsed p.L) + 1) := by
    by_cases h0 : lastUsed p.L < 0
    · rw [if_pos h0, if_neg (by simp; omega)]; rfl
    · rw [if_neg h0]
      by_cases h1 : lastUsed p.L = 0
      · rw [h1]; rfl
      · rw [if_pos (by simp; omega)]
  rw [e, some_bind, cutBook]
  by_cases h0 : lastUsed p.L < 0
  · rw [if_pos h0]
    by_cases h1 : 0 + 1 < ((List.length p.L : Nat) : Int)
    · rw [if_pos (by simpa using h1), if_pos (by omega), slc_zero]
    · rw [if_neg (by simpa using h1), List.take_of_length_le (by omega)]
  · rw [if_neg h0]
    by_cases h1 : lastUsed p.L + 1 < ((List.length p.L : Nat) : Int)
    · rw [if_pos (by simpa using h1), if_pos (by omega), slc_zero]
    · rw [if_neg (by simpa using h1), List.take_of_length_le (by omega)]
theorem impl_cut_eq {k : Nat} (hk : Big k) {p : TBook} (h : smBook p) : impl_Cut k p = some (cutBook p) := by
  have hl := h.1
  have hu := lastUsed_le p.L
  rw [impl_Cut, impl_copyBook_eq hk h, some_bind, impl_lastUsed_eq hk hl, some_bind, cutBook]
  have e : (if 0 > lastUsed p.L then 0 else lastUsed p.L) = (if lastUsed p.L < 0 then 0 else lastUsed p.L) := rfl
  rw [e]
  generalize hm : (if lastUsed p.L < 0 then 0 else lastUsed p.L) = m
  have hm2 : 0 ≤ m ∧ m ≤ (p.L.length : Int) := by subst hm; split <;> omega
  rw [w64 (by omega) (by omega)]
  by_cases h1 : m + 1 < ((List.length p.L : Nat) : Int)
  · rw [if_pos h1, if_pos (by omega), slc_zero]
  · rw [if_neg h1, if_pos (by omega), slc_zero, List.take_of_length_le (by omega), List.take_of_length_le (by omega)]

theorem cut_both {k : Nat} (hk : Big k) {p : TBook} (h : smTBook 1048576 p) (w : wfTBook p) : ∃ g, spec_Cut k p = some g ∧ impl_Cut k p = some g ∧ smTBook 1114112 g := by
  have hs := smBook_of (by omega) h
  refine ⟨_, spec_cut_eq hk hs, impl_cut_eq hk hs, trivial, ?_, fun y hy => ?_⟩
  · have := h.2.1
    simp only [cutBook, List.length_take]; omega
  · have hy2 := h.2.2 y (List.mem_of_mem_take hy)
    exact ⟨trivial, trivial, by have := hy2.2.2.1; omega, fun _ _ => ⟨trivial, trivial, trivial, trivial, trivial⟩⟩
theorem laws_FnExactCut_true {p0 : TBook} (h0 : wfTBook p0) : ∃ k, laws_FnExactCut k p0 = some true := by
  refine ⟨9223372036854775808, ?_⟩
  generalize hK : 9223372036854775808 = k
  have hk : Big k := by rw [Big, hK]; exact Nat.le_refl _
  clear hK
  have hN : (1048576 : Nat) ≤ 1114112 := by omega
  have hM : (1114112 : Nat) ≤ 1114112 := Nat.le_refl _
  rw [laws_FnExactCut]
  obtain ⟨r0, e0, l0, g0, s0⟩ := sz_Book hk p0 h0 (m := 1048576) (by omega) (by omega)
  rw [e0, Option.bind_some]
  by_cases z0 : r0 < 0
  · simp [z0]
  rw [if_neg (by simpa using z0)]
  have hs0 := s0 (by omega)
  obtain ⟨g, eS, eI, hg⟩ := cut_both hk hs0 h0
  have t0 := to_Book hk hN p0 hs0
  have q0 := eq_Book hk hN p0 p0 hs0
  have b0_0 := bd_PageS hN p0.L (hs0.2)
  have k0 := mark_Book hk hN p0 hs0 (m := 1) (by omega) (by omega)
  have zp0 : ¬ (1 + (sumL cn_Page p0.L : Int) < 0) := by omega
  have qr0 := eq_Book hk hM g g (hg)
  have br0_0 := bd_PageS hM g.L ((hg).2)
  have kr0 := mark_Book hk hM g (hg) (m := 1) (by omega) (by omega)
  have hr0 := held_Book hk hM g (hg) (m := 1) (by omega) (by omega)
  have zr0 : ¬ (1 + (sumL cn_Page g.L : Int) < 0) := by omega
  simp [eS, eI, t0, q0, k0, zp0, qr0, kr0, hr0, zr0, markL_length]

end Go.Proofs.Sx
