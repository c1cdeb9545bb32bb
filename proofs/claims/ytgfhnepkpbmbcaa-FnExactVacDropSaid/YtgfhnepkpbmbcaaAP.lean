/- FnExactVacDrop: the plain law. -/
import Derived.Test.YtgfhnepkpbmbcaaAX
import Derived.Test.YtgfhnepkpbmbcaaLP
namespace Go.Proofs.Sx
open Go.RowKit
set_option maxRecDepth 20000
set_option linter.unusedVariables false
set_option linter.unusedSimpArgs false
theorem spec_copyNode_eq {p : TNode} (h : p.L.length ≤ 2097152) : spec_l5Copy p = some p := by
  rw [spec_l5Copy, if_pos (okLen_iff.2 (by simp; omega)), List.nil_append]
theorem impl_copyNode_eq {p : TNode} (h : p.L.length ≤ 2097152) : impl_copyNode p = some p := by
  rw [impl_copyNode, slices_Clone_impl_Entry_impl_Entry, if_pos (okLen_iff.2 (by omega)), some_bind]

def okNode (M : Nat) (p : TNode) : Prop := p.L.length ≤ M
def smBook (p : TBook) : Prop := p.L.length ≤ 2097152 ∧ ∀ y ∈ p.L, y.N.L.length ≤ 2097152
theorem spec_copyBook_eq {k : Nat} (hk : Big k) {p : TBook} (h : smBook p) : spec_l7Copy k p = some p := by
  have hl := h.1
  have e := loop_app2 (b := spec_l7Copy_b0 p) (k := k) (f := fun x : TPage => [x]) (p := p.L) (z := []) (B := 1) (by omega) hk (fun _ _ => Nat.le_refl _) (fun i hi l hl2 => by
      simp only [List.length_nil] at hl2
      have c1 : decide ((i : Int) < ((List.length p.L : Nat) : Int)) = true := by simp; omega
      have c2 : (0 : Int) ≤ (i : Int) ∧ (i : Int) < ((List.length p.L : Nat) : Int) := by omega
      have hn := h.2 _ (List.getElem_mem hi)
      simp only [spec_l7Copy_b0, if_pos c1, if_pos c2, gt_nat hi, spec_copyNode_eq hn, some_bind]
      rw [if_pos (okLen_iff.2 (by simp; omega)), w64s (by omega)])
    (fun l => by simp only [spec_l7Copy_b0]; rw [if_neg (by simp)])
  rw [spec_l7Copy, e, some_bind]
  simp only [List.nil_append, fm_single]
theorem impl_copyBook_eq {k : Nat} (hk : Big k) {p : TBook} (h : smBook p) : impl_copyBook k p = some p := by
  have hl := h.1
  have e := loop_app (b := impl_copyBook_b0 p) (k := k) (f := fun x : TPage => [x]) (p := p.L) (z := []) (B := 1) (by omega) hk (fun _ _ => Nat.le_refl _) (fun i hi l hl2 => by
      simp only [List.length_nil] at hl2
      have c1 : decide ((i : Int) < ((List.length p.L : Nat) : Int)) = true := by simp; omega
      have c2 : (0 : Int) ≤ (i : Int) ∧ (i : Int) < ((List.length p.L : Nat) : Int) := by omega
      have hn := h.2 _ (List.getElem_mem hi)
      simp only [impl_copyBook_b0, if_pos c1, if_pos c2, gt_nat hi, impl_copyNode_eq hn, some_bind]
      rw [if_pos (okLen_iff.2 (by simp; omega)), w64s (by omega)])
    (fun l => by simp only [impl_copyBook_b0]; rw [if_neg (by simp)])
  rw [impl_copyBook, e, some_bind]
  simp only [List.nil_append, fm_single]

theorem impl_in_eq (x a b : Int) : impl_in x a b = some (decide (a ≤ x ∧ x ≤ b)) := by simp [impl_in, Bool.decide_and]

theorem spec_in_eq (x a b : Int) : spec_l1In x a b = some (decide (a ≤ x ∧ x ≤ b)) := by simp [spec_l1In, Bool.decide_and, ge_iff_le]


def noPage : TPage := ⟨false, ⟨false, []⟩⟩
def setFree (l : List TPage) (x : Int) : List TPage := if 0 ≤ x ∧ x < (l.length : Int) then l.set x.toNat noPage else l
theorem setFree_len (l : List TPage) (x : Int) : (setFree l x).length = l.length := by unfold setFree; split <;> simp
def freeBook (p : TBook) (l : List Int) : TBook := ⟨p.Root, l.foldl setFree p.L⟩
theorem foldFree_len : ∀ (l : List Int) (q : List TPage), (l.foldl setFree q).length = q.length
  | [], q => rfl
  | x :: l, q => by rw [List.foldl_cons, foldFree_len l, setFree_len]
theorem setFree_mem {l : List TPage} {x : Int} : ∀ y ∈ setFree l x, y ∈ l ∨ y = noPage := by
  intro y hy
  unfold setFree at hy
  split at hy
  · exact (List.mem_or_eq_of_mem_set hy).imp id id
  · exact .inl hy
theorem foldFree_mem : ∀ (l : List Int) (q : List TPage), ∀ y ∈ l.foldl setFree q, y ∈ q ∨ y = noPage
  | [], q, y, hy => .inl hy
  | x :: l, q, y, hy => by
    rw [List.foldl_cons] at hy
    rcases foldFree_mem l _ y hy with h | h
    · exact setFree_mem y h
    · exact .inr h
theorem freeBook_sm {p : TBook} (h : smBook p) (l : List Int) : smBook (freeBook p l) := by
  refine ⟨by simp only [freeBook]; rw [foldFree_len]; exact h.1, fun y hy => ?_⟩
  rcases foldFree_mem l p.L y hy with h1 | rfl
  · exact h.2 y h1
  · simp [noPage]
theorem spec_free_eq {k : Nat} (hk : Big k) {p : TBook} (h : smBook p) {l : List Int} (hl : l.length ≤ 2097152) : spec_Free k p l = some (freeBook p l) := by
  have hp := h.1
  have e := loop_fold2 (b := spec_Free_b0 p l) (k := k) (f := setFree) (p := l) (z := p.L) (fun a => a.length = p.L.length) rfl (fun a x ha _ => (setFree_len a x).trans ha) (by omega) hk (fun i hi a ha => by
      have c1 : decide ((i : Int) < ((List.length l : Nat) : Int)) = true := by simp; omega
      have c2 : (0 : Int) ≤ (i : Int) ∧ (i : Int) < ((List.length l : Nat) : Int) := by omega
      simp only [spec_Free_b0, if_pos c1, if_pos c2, gt_nat hi, spec_in_eq, some_bind, w64 (n := ((List.length p.L : Nat) : Int) - 1) (by omega) (by omega), w64s (n := i) (by omega)]
      by_cases hx : 0 ≤ l[i] ∧ l[i] ≤ ((List.length p.L : Nat) : Int) - 1
      · have hx2 : 0 ≤ l[i] ∧ l[i] < ((List.length a : Nat) : Int) := by omega
        rw [if_pos (by simpa using hx), if_pos hx2]
        simp only [setFree, if_pos hx2]; rfl
      · have hx2 : ¬ (0 ≤ l[i] ∧ l[i] < ((List.length a : Nat) : Int)) := by omega
        rw [if_neg (by simpa using hx)]
        simp only [setFree, if_neg hx2])
    (fun a => by simp only [spec_Free_b0]; rw [if_neg (by simp)])
  rw [spec_Free, spec_copyBook_eq hk h, some_bind, e, some_bind]; rfl
theorem impl_free_eq {k : Nat} (hk : Big k) {p : TBook} (h : smBook p) {l : List Int} (hl : l.length ≤ 2097152) : impl_Free k p l = some (freeBook p l) := by
  have hp := h.1
  have e := loop_fold2 (b := impl_Free_b0 p l) (k := k) (f := setFree) (p := l) (z := p.L) (fun a => a.length = p.L.length) rfl (fun a x ha _ => (setFree_len a x).trans ha) (by omega) hk (fun i hi a ha => by
      have c1 : decide ((i : Int) < ((List.length l : Nat) : Int)) = true := by simp; omega
      have c2 : (0 : Int) ≤ (i : Int) ∧ (i : Int) < ((List.length l : Nat) : Int) := by omega
      simp only [impl_Free_b0, if_pos c1, if_pos c2, gt_nat hi, impl_exists, some_bind, w64s (n := i) (by omega)]
      by_cases hx : 0 ≤ l[i] ∧ l[i] < ((List.length a : Nat) : Int)
      · rw [if_pos (by simp; omega), if_pos hx]
        simp only [setFree, if_pos hx]; rfl
      · rw [if_neg (by simp; omega)]
        simp only [setFree, if_neg hx])
    (fun a => by simp only [impl_Free_b0]; rw [if_neg (by simp)])
  rw [impl_Free, impl_copyBook_eq hk h, some_bind, e, some_bind]; rfl

theorem smBook_of {N : Nat} (hN : N ≤ 1114112) {p : TBook} (h : smTBook N p) : smBook p := ⟨by have := h.2.1; omega, fun y hy => by have := (h.2.2 y hy).2.2.1; omega⟩

theorem smBook_to {N : Nat} {p : TBook} (h1 : p.L.length ≤ N) (h2 : ∀ y ∈ p.L, y.N.L.length ≤ N) : smTBook N p := ⟨trivial, h1, fun y hy => ⟨trivial, trivial, h2 y hy, fun _ _ => ⟨trivial, trivial, trivial, trivial, trivial⟩⟩⟩

theorem vacDrop_both {k : Nat} (hk : Big k) {p : TBook} {v : TVac} (h : smTBook 1048576 p) (hv : smTVac 1048576 v) (w : wfTBook p) (w2 : wfTVac v) : ∃ g, spec_VacDrop k p v = some g ∧ impl_VacDrop k p v = some g ∧ smTBook 1114112 g := by
  have hs := smBook_of (by omega) h
  have hl : v.Made.length ≤ 2097152 := by have := hv.2.2.2.2.2.1; omega
  have h1 := h.2.1
  have h2 : ∀ y ∈ p.L, y.N.L.length ≤ 1114112 := fun y hy => by have := (h.2.2 y hy).2.2.1; omega
  rw [spec_VacDrop, impl_VacDrop, impl_building, spec_in_eq, impl_in_eq, spec_copyBook_eq hk hs, impl_copyBook_eq hk hs, spec_free_eq hk hs hl, impl_free_eq hk hs hl]
  simp only [some_bind]
  by_cases hp : 1 ≤ v.Phase ∧ v.Phase ≤ 4
  · refine ⟨freeBook p v.Made, by simp [hp], by simp [hp], smBook_to (by simp only [freeBook]; rw [foldFree_len]; omega) fun y hy => ?_⟩
    rcases foldFree_mem v.Made p.L y hy with hm | rfl
    · exact h2 y hm
    · simp [noPage]
  · exact ⟨p, by simp [hp], by simp [hp], smBook_to (by omega) h2⟩
theorem laws_FnExactVacDrop_true {p0 : TBook} {p1 : TVac} (h0 : wfTBook p0) (h1 : wfTVac p1) : ∃ k, laws_FnExactVacDrop k p0 p1 = some true := by
  refine ⟨9223372036854775808, ?_⟩
  generalize hK : 9223372036854775808 = k
  have hk : Big k := by rw [Big, hK]; exact Nat.le_refl _
  clear hK
  have hN : (1048576 : Nat) ≤ 1114112 := by omega
  have hM : (1114112 : Nat) ≤ 1114112 := Nat.le_refl _
  rw [laws_FnExactVacDrop]
  obtain ⟨r0, e0, l0, g0, s0⟩ := sz_Book hk p0 h0 (m := 1048576) (by omega) (by omega)
  rw [e0, Option.bind_some]
  by_cases z0 : r0 < 0
  · simp [z0]
  rw [if_neg (by simpa using z0)]
  have hs0 := s0 (by omega)
  obtain ⟨r1, e1, l1, g1, s1⟩ := sz_Vac hk p1 h1 (m := r0) (by omega) (by omega)
  rw [e1, Option.bind_some]
  by_cases z1 : r1 < 0
  · simp [z1]
  rw [if_neg (by simpa using z1)]
  have hs1 := s1 (by omega)
  obtain ⟨g, eS, eI, hg⟩ := vacDrop_both hk hs0 hs1 h0 h1
  have t0 := to_Book hk hN p0 hs0
  have q0 := eq_Book hk hN p0 p0 hs0
  have b0_0 := bd_PageS hN p0.L (hs0.2)
  have k0 := mark_Book hk hN p0 hs0 (m := 1) (by omega) (by omega)
  have zp0 : ¬ (1 + (sumL cn_Page p0.L : Int) < 0) := by omega
  have t1 := to_Vac hk hN p1 hs1
  have q1 := eq_Vac hk hN p1 p1 hs1
  have b1_0 := bd_IntS hN p1.Todo (hs1.2.1)
  have b1_1 := bd_ItemS hN p1.Run (hs1.2.2.1)
  have b1_2 := bd_EntryS hN p1.Row (hs1.2.2.2.1)
  have b1_3 := bd_EntryS hN p1.Next (hs1.2.2.2.2.1)
  have b1_4 := bd_IntS hN p1.Made (hs1.2.2.2.2.2)
  have k1 := mark_Vac hk hN p1 hs1 (m := 1 + (sumL cn_Page p0.L : Nat)) (by omega) (by omega)
  have zp1 : ¬ (1 + (sumL cn_Page p0.L : Int) + (sumL cn_Int p1.Todo : Int) + (sumL cn_Item p1.Run : Int) + (sumL cn_Entry p1.Row : Int) + (sumL cn_Entry p1.Next : Int) + (sumL cn_Int p1.Made : Int) < 0) := by omega
  have qr0 := eq_Book hk hM g g (hg)
  have br0_0 := bd_PageS hM g.L ((hg).2)
  have kr0 := mark_Book hk hM g (hg) (m := 1) (by omega) (by omega)
  have hr0 := held_Book hk hM g (hg) (m := 1) (by omega) (by omega)
  have zr0 : ¬ (1 + (sumL cn_Page g.L : Int) < 0) := by omega
  simp [eS, eI, t0, q0, k0, zp0, t1, q1, k1, zp1, qr0, kr0, hr0, zr0, markL_length]

end Go.Proofs.Sx
