/- Plain facts about the functions that copy, compare and measure. -/
import Derived.Test.YtgfhnepkpbmbcaaAD
namespace Go.Proofs.Sx
open Go.RowKit
set_option linter.unusedVariables false
set_option linter.unusedSimpArgs false
def smTBox (N : Nat) (x : TBox) : Prop := (smT N) x.X0 ∧ (smT N) x.Y0 ∧ (smT N) x.X1 ∧ (smT N) x.Y1
theorem to_Box {k : Nat} (hk : Big k) {N : Nat} (hN : N ≤ 1114112) (p : TBox) (h : (smTBox N) p) : laws_toBox p = some p := by
  simp only [laws_toBox, Option.bind_some]
def smTEntry (N : Nat) (x : TEntry) : Prop := (smT N) x.N ∧ (smTBox N) x.R
theorem to_Entry {k : Nat} (hk : Big k) {N : Nat} (hN : N ≤ 1114112) (p : TEntry) (h : (smTEntry N) p) : laws_toEntry p = some p := by
  simp only [laws_toEntry, to_Box hk hN _ (h.2), Option.bind_some]
theorem to_EntryS {k : Nat} (hk : Big k) {N : Nat} (hN : N ≤ 1114112) (p : (List TEntry)) (h : (smL N (smTEntry N)) p) : laws_toEntryS k p = some p := by
  rw [laws_toEntryS]
  have hl := h.1
  rw [if_pos ⟨by omega, okLen_iff.2 (by simp; omega)⟩, Int.toNat_natCast]
  rw [loop_fill (f := id) (p := p) (by simp) (by omega) hk]
  · simp
  · intro l i hi hl2
    have c1 : decide ((i : Int) < ((List.length p : Nat) : Int)) = true := by simp; omega
    have c2 : (0 : Int) ≤ (i : Int) ∧ (i : Int) < ((List.length p : Nat) : Int) := by omega
    have c3 : (0 : Int) ≤ (i : Int) ∧ (i : Int) < ((List.length l : Nat) : Int) := by omega
    simp only [laws_toEntryS_b0, if_pos c1, if_pos c2, if_pos c3, gt_nat hi, to_Entry hk hN _ (h.2 _ (List.getElem_mem hi)), Option.bind_some, Int.toNat_natCast, id, w64s (n := i) (by omega), some_bind]
  · intro l
    have c1 : ¬ decide (((List.length p : Nat) : Int) < ((List.length p : Nat) : Int)) = true := by simp
    simp only [laws_toEntryS_b0, if_neg c1]
def smTNode (N : Nat) (x : TNode) : Prop := (smT N) x.Leaf ∧ (smL N (smTEntry N)) x.L
theorem to_Node {k : Nat} (hk : Big k) {N : Nat} (hN : N ≤ 1114112) (p : TNode) (h : (smTNode N) p) : laws_toNode k p = some p := by
  simp only [laws_toNode, to_EntryS hk hN _ (h.2), Option.bind_some]
def smTPage (N : Nat) (x : TPage) : Prop := (smT N) x.Used ∧ (smTNode N) x.N
theorem to_Page {k : Nat} (hk : Big k) {N : Nat} (hN : N ≤ 1114112) (p : TPage) (h : (smTPage N) p) : laws_toPage k p = some p := by
  simp only [laws_toPage, to_Node hk hN _ (h.2), Option.bind_some]
theorem to_PageS {k : Nat} (hk : Big k) {N : Nat} (hN : N ≤ 1114112) (p : (List TPage)) (h : (smL N (smTPage N)) p) : laws_toPageS k p = some p := by
  rw [laws_toPageS]
  have hl := h.1
  rw [if_pos ⟨by omega, okLen_iff.2 (by simp; omega)⟩, Int.toNat_natCast]
  rw [loop_fill (f := id) (p := p) (by simp) (by omega) hk]
  · simp
  · intro l i hi hl2
    have c1 : decide ((i : Int) < ((List.length p : Nat) : Int)) = true := by simp; omega
    have c2 : (0 : Int) ≤ (i : Int) ∧ (i : Int) < ((List.length p : Nat) : Int) := by omega
    have c3 : (0 : Int) ≤ (i : Int) ∧ (i : Int) < ((List.length l : Nat) : Int) := by omega
    simp only [laws_toPageS_b0, if_pos c1, if_pos c2, if_pos c3, gt_nat hi, to_Page hk hN _ (h.2 _ (List.getElem_mem hi)), Option.bind_some, Int.toNat_natCast, id, w64s (n := i) (by omega), some_bind]
  · intro l
    have c1 : ¬ decide (((List.length p : Nat) : Int) < ((List.length p : Nat) : Int)) = true := by simp
    simp only [laws_toPageS_b0, if_neg c1]
def smTBook (N : Nat) (x : TBook) : Prop := (smT N) x.Root ∧ (smL N (smTPage N)) x.L
theorem to_Book {k : Nat} (hk : Big k) {N : Nat} (hN : N ≤ 1114112) (p : TBook) (h : (smTBook N) p) : laws_toBook k p = some p := by
  simp only [laws_toBook, to_PageS hk hN _ (h.2), Option.bind_some]
theorem to_IntS {k : Nat} (hk : Big k) {N : Nat} (hN : N ≤ 1114112) (p : (List Int)) (h : (smL N (smT N)) p) : laws_toIntS k p = some p := by
  rw [laws_toIntS]
  have hl := h.1
  rw [if_pos ⟨by omega, okLen_iff.2 (by simp; omega)⟩, Int.toNat_natCast]
  rw [loop_fill (f := id) (p := p) (by simp) (by omega) hk]
  · simp
  · intro l i hi hl2
    have c1 : decide ((i : Int) < ((List.length p : Nat) : Int)) = true := by simp; omega
    have c2 : (0 : Int) ≤ (i : Int) ∧ (i : Int) < ((List.length p : Nat) : Int) := by omega
    have c3 : (0 : Int) ≤ (i : Int) ∧ (i : Int) < ((List.length l : Nat) : Int) := by omega
    simp only [laws_toIntS_b0, if_pos c1, if_pos c2, if_pos c3, gt_nat hi, Int.toNat_natCast, id, w64s (n := i) (by omega), some_bind]
  · intro l
    have c1 : ¬ decide (((List.length p : Nat) : Int) < ((List.length p : Nat) : Int)) = true := by simp
    simp only [laws_toIntS_b0, if_neg c1]
def smTItem (N : Nat) (x : TItem) : Prop := (smT N) x.Id ∧ (smTBox N) x.R
theorem to_Item {k : Nat} (hk : Big k) {N : Nat} (hN : N ≤ 1114112) (p : TItem) (h : (smTItem N) p) : laws_toItem p = some p := by
  simp only [laws_toItem, to_Box hk hN _ (h.2), Option.bind_some]
theorem to_ItemS {k : Nat} (hk : Big k) {N : Nat} (hN : N ≤ 1114112) (p : (List TItem)) (h : (smL N (smTItem N)) p) : laws_toItemS k p = some p := by
  rw [laws_toItemS]
  have hl := h.1
  rw [if_pos ⟨by omega, okLen_iff.2 (by simp; omega)⟩, Int.toNat_natCast]
  rw [loop_fill (f := id) (p := p) (by simp) (by omega) hk]
  · simp
  · intro l i hi hl2
    have c1 : decide ((i : Int) < ((List.length p : Nat) : Int)) = true := by simp; omega
    have c2 : (0 : Int) ≤ (i : Int) ∧ (i : Int) < ((List.length p : Nat) : Int) := by omega
    have c3 : (0 : Int) ≤ (i : Int) ∧ (i : Int) < ((List.length l : Nat) : Int) := by omega
    simp only [laws_toItemS_b0, if_pos c1, if_pos c2, if_pos c3, gt_nat hi, to_Item hk hN _ (h.2 _ (List.getElem_mem hi)), Option.bind_some, Int.toNat_natCast, id, w64s (n := i) (by omega), some_bind]
  · intro l
    have c1 : ¬ decide (((List.length p : Nat) : Int) < ((List.length p : Nat) : Int)) = true := by simp
    simp only [laws_toItemS_b0, if_neg c1]
def smTVac (N : Nat) (x : TVac) : Prop := (smT N) x.Phase ∧ (smL N (smT N)) x.Todo ∧ (smL N (smTItem N)) x.Run ∧ (smL N (smTEntry N)) x.Row ∧ (smL N (smTEntry N)) x.Next ∧ (smL N (smT N)) x.Made
theorem to_Vac {k : Nat} (hk : Big k) {N : Nat} (hN : N ≤ 1114112) (p : TVac) (h : (smTVac N) p) : laws_toVac k p = some p := by
  simp only [laws_toVac, to_IntS hk hN _ (h.2.1), to_ItemS hk hN _ (h.2.2.1), to_EntryS hk hN _ (h.2.2.2.1), to_EntryS hk hN _ (h.2.2.2.2.1), to_IntS hk hN _ (h.2.2.2.2.2), Option.bind_some]
theorem eq_Box {k : Nat} (hk : Big k) {N : Nat} (hN : N ≤ 1114112) (p q : TBox) (h : (smTBox N) p) : laws_eqBox p q = some (decide (p = q)) := by
  obtain ⟨p0, p1, p2, p3⟩ := p
  obtain ⟨q0, q1, q2, q3⟩ := q
  simp only [laws_eqBox, Option.bind_some, TBox.mk.injEq]
  repeat' split
  all_goals (try simp_all)
theorem eq_Entry {k : Nat} (hk : Big k) {N : Nat} (hN : N ≤ 1114112) (p q : TEntry) (h : (smTEntry N) p) : laws_eqEntry p q = some (decide (p = q)) := by
  obtain ⟨p0, p1⟩ := p
  obtain ⟨q0, q1⟩ := q
  simp only [laws_eqEntry, eq_Box hk hN _ _ (h.2), Option.bind_some, TEntry.mk.injEq]
  repeat' split
  all_goals (try simp_all)
theorem eq_EntryS {k : Nat} (hk : Big k) {N : Nat} (hN : N ≤ 1114112) (p q : (List TEntry)) (h : (smL N (smTEntry N)) p) : laws_eqEntryS k p q = some (decide (p = q)) := by
  rw [laws_eqEntryS]
  have hl := h.1
  by_cases he : p.length = q.length
  · rw [if_neg (by simp [he])]
    rw [loop_all (c := fun i => decide (p[i]? = q[i]?)) (n := p.length) (r := false) (by omega) hk]
    · by_cases hpq : p = q
      · subst hpq; simp
      · rw [if_neg, decide_eq_false hpq]
        · rfl
        · intro hh
          exact hpq (List.ext_getElem? fun i => by
            by_cases hi : i < p.length
            · simpa using hh i hi
            · rw [List.getElem?_eq_none (by omega), List.getElem?_eq_none (by omega)])
    · intro i hi
      have c1 : decide ((i : Int) < ((List.length p : Nat) : Int)) = true := by simp; omega
      have c2 : (0 : Int) ≤ (i : Int) ∧ (i : Int) < ((List.length p : Nat) : Int) := by omega
      have c3 : (0 : Int) ≤ (i : Int) ∧ (i : Int) < ((List.length q : Nat) : Int) := by omega
      have hq : i < q.length := by omega
      simp only [laws_eqEntryS_b0, if_pos c1, if_pos c2, if_pos c3, gt_nat hi, gt_nat hq, eq_Entry hk hN _ _ (h.2 _ (List.getElem_mem hi)), Option.bind_some, w64s (n := i) (by omega), List.getElem?_eq_getElem hi, List.getElem?_eq_getElem hq, Option.some.injEq]
      by_cases hv : p[i] = q[i] <;> simp [hv]
    · have c1 : ¬ decide (((List.length p : Nat) : Int) < ((List.length p : Nat) : Int)) = true := by simp
      simp only [laws_eqEntryS_b0, if_neg c1]
  · rw [if_pos (by simp; omega), decide_eq_false]
    rintro rfl; exact he rfl
theorem eq_Node {k : Nat} (hk : Big k) {N : Nat} (hN : N ≤ 1114112) (p q : TNode) (h : (smTNode N) p) : laws_eqNode k p q = some (decide (p = q)) := by
  obtain ⟨p0, p1⟩ := p
  obtain ⟨q0, q1⟩ := q
  simp only [laws_eqNode, eq_EntryS hk hN _ _ (h.2), Option.bind_some, TNode.mk.injEq]
  repeat' split
  all_goals (try simp_all)
theorem eq_Page {k : Nat} (hk : Big k) {N : Nat} (hN : N ≤ 1114112) (p q : TPage) (h : (smTPage N) p) : laws_eqPage k p q = some (decide (p = q)) := by
  obtain ⟨p0, p1⟩ := p
  obtain ⟨q0, q1⟩ := q
  simp only [laws_eqPage, eq_Node hk hN _ _ (h.2), Option.bind_some, TPage.mk.injEq]
  repeat' split
  all_goals (try simp_all)
theorem eq_PageS {k : Nat} (hk : Big k) {N : Nat} (hN : N ≤ 1114112) (p q : (List TPage)) (h : (smL N (smTPage N)) p) : laws_eqPageS k p q = some (decide (p = q)) := by
  rw [laws_eqPageS]
  have hl := h.1
  by_cases he : p.length = q.length
  · rw [if_neg (by simp [he])]
    rw [loop_all (c := fun i => decide (p[i]? = q[i]?)) (n := p.length) (r := false) (by omega) hk]
    · by_cases hpq : p = q
      · subst hpq; simp
      · rw [if_neg, decide_eq_false hpq]
        · rfl
        · intro hh
          exact hpq (List.ext_getElem? fun i => by
            by_cases hi : i < p.length
            · simpa using hh i hi
            · rw [List.getElem?_eq_none (by omega), List.getElem?_eq_none (by omega)])
    · intro i hi
      have c1 : decide ((i : Int) < ((List.length p : Nat) : Int)) = true := by simp; omega
      have c2 : (0 : Int) ≤ (i : Int) ∧ (i : Int) < ((List.length p : Nat) : Int) := by omega
      have c3 : (0 : Int) ≤ (i : Int) ∧ (i : Int) < ((List.length q : Nat) : Int) := by omega
      have hq : i < q.length := by omega
      simp only [laws_eqPageS_b0, if_pos c1, if_pos c2, if_pos c3, gt_nat hi, gt_nat hq, eq_Page hk hN _ _ (h.2 _ (List.getElem_mem hi)), Option.bind_some, w64s (n := i) (by omega), List.getElem?_eq_getElem hi, List.getElem?_eq_getElem hq, Option.some.injEq]
      by_cases hv : p[i] = q[i] <;> simp [hv]
    · have c1 : ¬ decide (((List.length p : Nat) : Int) < ((List.length p : Nat) : Int)) = true := by simp
      simp only [laws_eqPageS_b0, if_neg c1]
  · rw [if_pos (by simp; omega), decide_eq_false]
    rintro rfl; exact he rfl
theorem eq_Book {k : Nat} (hk : Big k) {N : Nat} (hN : N ≤ 1114112) (p q : TBook) (h : (smTBook N) p) : laws_eqBook k p q = some (decide (p = q)) := by
  obtain ⟨p0, p1⟩ := p
  obtain ⟨q0, q1⟩ := q
  simp only [laws_eqBook, eq_PageS hk hN _ _ (h.2), Option.bind_some, TBook.mk.injEq]
  repeat' split
  all_goals (try simp_all)
theorem eq_IntS {k : Nat} (hk : Big k) {N : Nat} (hN : N ≤ 1114112) (p q : (List Int)) (h : (smL N (smT N)) p) : laws_eqIntS k p q = some (decide (p = q)) := by
  rw [laws_eqIntS]
  have hl := h.1
  by_cases he : p.length = q.length
  · rw [if_neg (by simp [he])]
    rw [loop_all (c := fun i => decide (p[i]? = q[i]?)) (n := p.length) (r := false) (by omega) hk]
    · by_cases hpq : p = q
      · subst hpq; simp
      · rw [if_neg, decide_eq_false hpq]
        · rfl
        · intro hh
          exact hpq (List.ext_getElem? fun i => by
            by_cases hi : i < p.length
            · simpa using hh i hi
            · rw [List.getElem?_eq_none (by omega), List.getElem?_eq_none (by omega)])
    · intro i hi
      have c1 : decide ((i : Int) < ((List.length p : Nat) : Int)) = true := by simp; omega
      have c2 : (0 : Int) ≤ (i : Int) ∧ (i : Int) < ((List.length p : Nat) : Int) := by omega
      have c3 : (0 : Int) ≤ (i : Int) ∧ (i : Int) < ((List.length q : Nat) : Int) := by omega
      have hq : i < q.length := by omega
      simp only [laws_eqIntS_b0, if_pos c1, if_pos c2, if_pos c3, gt_nat hi, gt_nat hq, w64s (n := i) (by omega), List.getElem?_eq_getElem hi, List.getElem?_eq_getElem hq, Option.some.injEq]
      by_cases hv : p[i] = q[i] <;> simp [hv]
    · have c1 : ¬ decide (((List.length p : Nat) : Int) < ((List.length p : Nat) : Int)) = true := by simp
      simp only [laws_eqIntS_b0, if_neg c1]
  · rw [if_pos (by simp; omega), decide_eq_false]
    rintro rfl; exact he rfl
theorem eq_Item {k : Nat} (hk : Big k) {N : Nat} (hN : N ≤ 1114112) (p q : TItem) (h : (smTItem N) p) : laws_eqItem p q = some (decide (p = q)) := by
  obtain ⟨p0, p1⟩ := p
  obtain ⟨q0, q1⟩ := q
  simp only [laws_eqItem, eq_Box hk hN _ _ (h.2), Option.bind_some, TItem.mk.injEq]
  repeat' split
  all_goals (try simp_all)
theorem eq_ItemS {k : Nat} (hk : Big k) {N : Nat} (hN : N ≤ 1114112) (p q : (List TItem)) (h : (smL N (smTItem N)) p) : laws_eqItemS k p q = some (decide (p = q)) := by
  rw [laws_eqItemS]
  have hl := h.1
  by_cases he : p.length = q.length
  · rw [if_neg (by simp [he])]
    rw [loop_all (c := fun i => decide (p[i]? = q[i]?)) (n := p.length) (r := false) (by omega) hk]
    · by_cases hpq : p = q
      · subst hpq; simp
      · rw [if_neg, decide_eq_false hpq]
        · rfl
        · intro hh
          exact hpq (List.ext_getElem? fun i => by
            by_cases hi : i < p.length
            · simpa using hh i hi
            · rw [List.getElem?_eq_none (by omega), List.getElem?_eq_none (by omega)])
    · intro i hi
      have c1 : decide ((i : Int) < ((List.length p : Nat) : Int)) = true := by simp; omega
      have c2 : (0 : Int) ≤ (i : Int) ∧ (i : Int) < ((List.length p : Nat) : Int) := by omega
      have c3 : (0 : Int) ≤ (i : Int) ∧ (i : Int) < ((List.length q : Nat) : Int) := by omega
      have hq : i < q.length := by omega
      simp only [laws_eqItemS_b0, if_pos c1, if_pos c2, if_pos c3, gt_nat hi, gt_nat hq, eq_Item hk hN _ _ (h.2 _ (List.getElem_mem hi)), Option.bind_some, w64s (n := i) (by omega), List.getElem?_eq_getElem hi, List.getElem?_eq_getElem hq, Option.some.injEq]
      by_cases hv : p[i] = q[i] <;> simp [hv]
    · have c1 : ¬ decide (((List.length p : Nat) : Int) < ((List.length p : Nat) : Int)) = true := by simp
      simp only [laws_eqItemS_b0, if_neg c1]
  · rw [if_pos (by simp; omega), decide_eq_false]
    rintro rfl; exact he rfl
theorem eq_Vac {k : Nat} (hk : Big k) {N : Nat} (hN : N ≤ 1114112) (p q : TVac) (h : (smTVac N) p) : laws_eqVac k p q = some (decide (p = q)) := by
  obtain ⟨p0, p1, p2, p3, p4, p5⟩ := p
  obtain ⟨q0, q1, q2, q3, q4, q5⟩ := q
  simp only [laws_eqVac, eq_IntS hk hN _ _ (h.2.1), eq_ItemS hk hN _ _ (h.2.2.1), eq_EntryS hk hN _ _ (h.2.2.2.1), eq_EntryS hk hN _ _ (h.2.2.2.2.1), eq_IntS hk hN _ _ (h.2.2.2.2.2), Option.bind_some, TVac.mk.injEq]
  repeat' split
  all_goals (try simp_all)
theorem sz_EntryS {k : Nat} (hk : Big k) (p : (List TEntry)) (w : (wfL wfTEntry) p) {m : Int} (h0 : 0 ≤ m) (h1 : m ≤ 1048576) : ∃ r, laws_szEntryS p m = some r ∧ r ≤ m ∧ -1 ≤ r ∧ (0 ≤ r → (smL 1048576 (smTEntry 1048576)) p) := by
  rw [laws_szEntryS]
  have hl := w.1
  have hm : maxLen = 9223372036854775807 := rfl
  rw [w64 (by omega) (by omega)]
  by_cases z : m - ((List.length p : Nat) : Int) < 0
  · exact ⟨-1, by simp [z], by omega, by omega, fun h => by omega⟩
  · rw [if_neg (by simpa using z)]
    exact ⟨_, rfl, by omega, by omega, fun _ => ⟨by omega, fun _ _ => ⟨trivial, ⟨trivial, trivial, trivial, trivial⟩⟩⟩⟩
theorem sz_Node {k : Nat} (hk : Big k) (p : TNode) (w : wfTNode p) {m : Int} (h0 : 0 ≤ m) (h1 : m ≤ 1048576) : ∃ r, laws_szNode p m = some r ∧ r ≤ m ∧ -1 ≤ r ∧ (0 ≤ r → (smTNode 1048576) p) := by
  rw [laws_szNode]
  obtain ⟨r0, e0, l0, g0, s0⟩ := sz_EntryS (m := m) hk _ (w.2) h0 h1
  rw [e0, Option.bind_some]
  by_cases z0 : r0 < 0
  · exact ⟨-1, by simp [z0], by omega, by omega, fun h => by omega⟩
  rw [if_neg (by simpa using z0)]
  exact ⟨_, rfl, by omega, by omega, fun _ => ⟨trivial, s0 (by omega)⟩⟩
theorem sz_Page {k : Nat} (hk : Big k) (p : TPage) (w : wfTPage p) {m : Int} (h0 : 0 ≤ m) (h1 : m ≤ 1048576) : ∃ r, laws_szPage p m = some r ∧ r ≤ m ∧ -1 ≤ r ∧ (0 ≤ r → (smTPage 1048576) p) := by
  rw [laws_szPage]
  obtain ⟨r0, e0, l0, g0, s0⟩ := sz_Node (m := m) hk _ (w.2) h0 h1
  rw [e0, Option.bind_some]
  by_cases z0 : r0 < 0
  · exact ⟨-1, by simp [z0], by omega, by omega, fun h => by omega⟩
  rw [if_neg (by simpa using z0)]
  exact ⟨_, rfl, by omega, by omega, fun _ => ⟨trivial, s0 (by omega)⟩⟩
theorem sz_PageS {k : Nat} (hk : Big k) (p : (List TPage)) (w : (wfL wfTPage) p) {m : Int} (h0 : 0 ≤ m) (h1 : m ≤ 1048576) : ∃ r, laws_szPageS k p m = some r ∧ r ≤ m ∧ -1 ≤ r ∧ (0 ≤ r → (smL 1048576 (smTPage 1048576)) p) := by
  rw [laws_szPageS]
  have hl := w.1
  have hm : maxLen = 9223372036854775807 := rfl
  rw [w64 (by omega) (by omega)]
  by_cases z : m - ((List.length p : Nat) : Int) < 0
  · exact ⟨-1, by simp [z], by omega, by omega, fun h => by omega⟩
  · rw [if_neg (by simpa using z)]
    have key1 : ∀ (i : Nat) (hi : i < p.length) (q : Int), 0 ≤ q → q ≤ 1048576 → ∃ r, r ≤ q ∧ -1 ≤ r ∧ (0 ≤ r → (smTPage 1048576) p[i]) ∧ laws_szPageS_b0 p (q, (i : Int)) = some (if r < 0 then .ret (-1) else .next (r, ((i + 1 : Nat) : Int))) := by
      intro i hi q q0 q1
      obtain ⟨r, e, r1, r2, r3⟩ := sz_Page hk p[i] (w.2 _ (List.getElem_mem hi)) q0 q1
      refine ⟨r, r1, r2, r3, ?_⟩
      have c1 : decide ((i : Int) < ((List.length p : Nat) : Int)) = true := by simp; omega
      have c2 : (0 : Int) ≤ (i : Int) ∧ (i : Int) < ((List.length p : Nat) : Int) := by omega
      simp only [laws_szPageS_b0, if_pos c1, if_pos c2, gt_nat hi, e, Option.bind_some, w64s (n := i) (by omega)]
      by_cases hr : r < 0 <;> simp [hr]
    have key2 : ∀ q, laws_szPageS_b0 p (q, (p.length : Int)) = some (.out (q, (p.length : Int))) := by
      intro q
      have c1 : ¬ decide (((List.length p : Nat) : Int) < ((List.length p : Nat) : Int)) = true := by simp
      simp only [laws_szPageS_b0, if_neg c1]
    obtain ⟨o, e, ho⟩ := loop_sz (k := k) (m0 := m - ((List.length p : Nat) : Int)) (by omega) hk (by omega) (by omega) key1 key2
    rw [e, Option.bind_some]
    rcases ho with rfl | ⟨r, rfl, r0, r1, hall⟩
    · exact ⟨-1, rfl, by omega, by omega, fun h => by omega⟩
    · exact ⟨r, rfl, by omega, by omega, fun _ => ⟨by omega, hall⟩⟩
theorem sz_Book {k : Nat} (hk : Big k) (p : TBook) (w : wfTBook p) {m : Int} (h0 : 0 ≤ m) (h1 : m ≤ 1048576) : ∃ r, laws_szBook k p m = some r ∧ r ≤ m ∧ -1 ≤ r ∧ (0 ≤ r → (smTBook 1048576) p) := by
  rw [laws_szBook]
  obtain ⟨r0, e0, l0, g0, s0⟩ := sz_PageS (m := m) hk _ (w.2) h0 h1
  rw [e0, Option.bind_some]
  by_cases z0 : r0 < 0
  · exact ⟨-1, by simp [z0], by omega, by omega, fun h => by omega⟩
  rw [if_neg (by simpa using z0)]
  exact ⟨_, rfl, by omega, by omega, fun _ => ⟨trivial, s0 (by omega)⟩⟩
theorem sz_IntS {k : Nat} (hk : Big k) (p : (List Int)) (w : (wfL wfI) p) {m : Int} (h0 : 0 ≤ m) (h1 : m ≤ 1048576) : ∃ r, laws_szIntS p m = some r ∧ r ≤ m ∧ -1 ≤ r ∧ (0 ≤ r → (smL 1048576 (smT 1048576)) p) := by
  rw [laws_szIntS]
  have hl := w.1
  have hm : maxLen = 9223372036854775807 := rfl
  rw [w64 (by omega) (by omega)]
  by_cases z : m - ((List.length p : Nat) : Int) < 0
  · exact ⟨-1, by simp [z], by omega, by omega, fun h => by omega⟩
  · rw [if_neg (by simpa using z)]
    exact ⟨_, rfl, by omega, by omega, fun _ => ⟨by omega, fun _ _ => trivial⟩⟩
theorem sz_ItemS {k : Nat} (hk : Big k) (p : (List TItem)) (w : (wfL wfTItem) p) {m : Int} (h0 : 0 ≤ m) (h1 : m ≤ 1048576) : ∃ r, laws_szItemS p m = some r ∧ r ≤ m ∧ -1 ≤ r ∧ (0 ≤ r → (smL 1048576 (smTItem 1048576)) p) := by
  rw [laws_szItemS]
  have hl := w.1
  have hm : maxLen = 9223372036854775807 := rfl
  rw [w64 (by omega) (by omega)]
  by_cases z : m - ((List.length p : Nat) : Int) < 0
  · exact ⟨-1, by simp [z], by omega, by omega, fun h => by omega⟩
  · rw [if_neg (by simpa using z)]
    exact ⟨_, rfl, by omega, by omega, fun _ => ⟨by omega, fun _ _ => ⟨trivial, ⟨trivial, trivial, trivial, trivial⟩⟩⟩⟩
theorem sz_Vac {k : Nat} (hk : Big k) (p : TVac) (w : wfTVac p) {m : Int} (h0 : 0 ≤ m) (h1 : m ≤ 1048576) : ∃ r, laws_szVac p m = some r ∧ r ≤ m ∧ -1 ≤ r ∧ (0 ≤ r → (smTVac 1048576) p) := by
  rw [laws_szVac]
  obtain ⟨r0, e0, l0, g0, s0⟩ := sz_IntS (m := m) hk _ (w.2.1) h0 h1
  rw [e0, Option.bind_some]
  by_cases z0 : r0 < 0
  · exact ⟨-1, by simp [z0], by omega, by omega, fun h => by omega⟩
  rw [if_neg (by simpa using z0)]
  obtain ⟨r1, e1, l1, g1, s1⟩ := sz_ItemS (m := r0) hk _ (w.2.2.1) (by omega) (by omega)
  rw [e1, Option.bind_some]
  by_cases z1 : r1 < 0
  · exact ⟨-1, by simp [z1], by omega, by omega, fun h => by omega⟩
  rw [if_neg (by simpa using z1)]
  obtain ⟨r2, e2, l2, g2, s2⟩ := sz_EntryS (m := r1) hk _ (w.2.2.2.1) (by omega) (by omega)
  rw [e2, Option.bind_some]
  by_cases z2 : r2 < 0
  · exact ⟨-1, by simp [z2], by omega, by omega, fun h => by omega⟩
  rw [if_neg (by simpa using z2)]
  obtain ⟨r3, e3, l3, g3, s3⟩ := sz_EntryS (m := r2) hk _ (w.2.2.2.2.1) (by omega) (by omega)
  rw [e3, Option.bind_some]
  by_cases z3 : r3 < 0
  · exact ⟨-1, by simp [z3], by omega, by omega, fun h => by omega⟩
  rw [if_neg (by simpa using z3)]
  obtain ⟨r4, e4, l4, g4, s4⟩ := sz_IntS (m := r3) hk _ (w.2.2.2.2.2) (by omega) (by omega)
  rw [e4, Option.bind_some]
  by_cases z4 : r4 < 0
  · exact ⟨-1, by simp [z4], by omega, by omega, fun h => by omega⟩
  rw [if_neg (by simpa using z4)]
  exact ⟨_, rfl, by omega, by omega, fun _ => ⟨trivial, s0 (by omega), s1 (by omega), s2 (by omega), s3 (by omega), s4 (by omega)⟩⟩
def mk_Entry (x : TEntry) (m : Int) : TEntry := (⟨m, (⟨(m + 1), (m + 2), (m + 3), (m + 4)⟩ : TBox)⟩ : TEntry)
def cn_Entry (x : TEntry) : Nat := 5
theorem bd_EntryS {N : Nat} (hN : N ≤ 1114112) (p : (List TEntry)) (h : (smL N (smTEntry N)) p) : sumL cn_Entry p ≤ 5570560 := by
  have h1 : sumL cn_Entry p ≤ p.length * 5 := sumL_le fun y hy => by
    exact Nat.le_refl _
  have h2 : p.length * 5 ≤ 1114112 * 5 := Nat.mul_le_mul_right _ (Nat.le_trans h.1 hN)
  omega
theorem mark_EntryS {k : Nat} (hk : Big k) {N : Nat} (hN : N ≤ 1114112) (p : (List TEntry)) (h : (smL N (smTEntry N)) p) {m : Int} (h0 : 0 ≤ m) (h1 : m + (sumL cn_Entry p : Nat) ≤ 9223372036854775807) : laws_markEntryS k p m = some (m + (sumL cn_Entry p : Nat), markL mk_Entry cn_Entry p m) := by
  have hb := bd_EntryS hN p h
  have hn : p.length ≤ 1114112 := Nat.le_trans h.1 hN
  rw [laws_markEntryS, loop_mark (F := mk_Entry) (c := cn_Entry) (by omega) hk h0 h1]
  · rfl
  · intro l i hi q hl hg q0 q1
    have hc0 : ((cn_Entry p[i] : Nat) : Int) = 5 := rfl
    have hgt := gt_eq_of hg
    have hi2 : (i : Int) < (p.length : Int) := by omega
    have hi0 : (0 : Int) ≤ (i : Int) := by omega
    have hil : i < l.length := by omega
    simp (disch := omega) only [laws_markEntryS_b0, hl, hi2, hi0, hgt, hil, decide_true, if_true, and_self, Option.bind_some, Int.toNat_natCast, List.length_set, gt_set_self, List.set_set, w64, Int.add_assoc, Int.reduceAdd, markL_length]
    try simp only [mk_Entry, cn_Entry]
    try rfl
    try (congr 3; omega)
  · intro l q hl
    simp only [laws_markEntryS_b0, hl, Int.lt_irrefl, decide_false, Bool.false_eq_true, if_false]
theorem held_EntryS {k : Nat} (hk : Big k) {N : Nat} (hN : N ≤ 1114112) (p : (List TEntry)) (h : (smL N (smTEntry N)) p) {m : Int} (h0 : 0 ≤ m) (h1 : m + (sumL cn_Entry p : Nat) ≤ 9223372036854775807) : laws_heldEntryS k (markL mk_Entry cn_Entry p m) m = some (m + (sumL cn_Entry p : Nat)) := by
  have hb := bd_EntryS hN p h
  have hn : p.length ≤ 1114112 := Nat.le_trans h.1 hN
  rw [laws_heldEntryS, loop_held (F := mk_Entry) (c := cn_Entry) (p := p) (by omega) hk h0 h1]
  · rfl
  · intro i hi q hg q0 q1
    have hc0 : ((cn_Entry p[i] : Nat) : Int) = 5 := rfl
    have hgt := gt_eq_of hg
    have hi2 : (i : Int) < (p.length : Int) := by omega
    have hi0 : (0 : Int) ≤ (i : Int) := by omega
    have hng : ∀ z : Int, 0 ≤ z → decide (z < 0) = false := fun z hz => by simp; omega
    simp (disch := omega) only [laws_heldEntryS_b0, markL_length, hi2, hi0, hgt, decide_true, if_true, and_self, Option.bind_some, w64, Int.add_assoc, Int.reduceAdd, mk_Entry, Bool.not_true, Bool.false_eq_true, if_false, beq_self_eq_true, hng]
    try rfl
    try (congr 3; omega)
  · intro q
    simp only [laws_heldEntryS_b0, markL_length, Int.lt_irrefl, decide_false, Bool.false_eq_true, if_false]
def mk_Page (x : TPage) (m : Int) : TPage := (⟨(decide (Int.tmod m 3 = 0)), (⟨(decide (Int.tmod (m + 1) 3 = 0)), (markL mk_Entry cn_Entry x.N.L (m + 2))⟩ : TNode)⟩ : TPage)
def cn_Page (x : TPage) : Nat := 2 + sumL cn_Entry x.N.L
theorem bd_PageS {N : Nat} (hN : N ≤ 1114112) (p : (List TPage)) (h : (smL N (smTPage N)) p) : sumL cn_Page p ≤ 6206229970944 := by
  have h1 : sumL cn_Page p ≤ p.length * 5570562 := sumL_le fun y hy => by
    have := bd_EntryS hN y.N.L ((h.2 y hy).2.2)
    simp only [cn_Page]; omega
  have h2 : p.length * 5570562 ≤ 1114112 * 5570562 := Nat.mul_le_mul_right _ (Nat.le_trans h.1 hN)
  omega
theorem mark_PageS {k : Nat} (hk : Big k) {N : Nat} (hN : N ≤ 1114112) (p : (List TPage)) (h : (smL N (smTPage N)) p) {m : Int} (h0 : 0 ≤ m) (h1 : m + (sumL cn_Page p : Nat) ≤ 9223372036854775807) : laws_markPageS k p m = some (m + (sumL cn_Page p : Nat), markL mk_Page cn_Page p m) := by
  have hb := bd_PageS hN p h
  have hn : p.length ≤ 1114112 := Nat.le_trans h.1 hN
  rw [laws_markPageS, loop_mark (F := mk_Page) (c := cn_Page) (by omega) hk h0 h1]
  · rfl
  · intro l i hi q hl hg q0 q1
    have hc : cn_Page p[i] = 2 + sumL cn_Entry p[i].N.L := rfl
    have hgt := gt_eq_of hg
    have hi2 : (i : Int) < (p.length : Int) := by omega
    have hi0 : (0 : Int) ≤ (i : Int) := by omega
    have hil : i < l.length := by omega
    simp (disch := omega) only [laws_markPageS_b0, hl, hi2, hi0, hgt, hil, decide_true, if_true, and_self, Option.bind_some, Int.toNat_natCast, List.length_set, gt_set_self, List.set_set, w64, Int.add_assoc, Int.reduceAdd, mark_EntryS hk hN p[i].N.L ((h.2 p[i] (List.getElem_mem hi)).2.2) (m := (q + 2)) (by omega) (by omega), markL_length]
    try simp only [mk_Page, cn_Page]
    try rfl
    try (congr 3; omega)
  · intro l q hl
    simp only [laws_markPageS_b0, hl, Int.lt_irrefl, decide_false, Bool.false_eq_true, if_false]
theorem held_PageS {k : Nat} (hk : Big k) {N : Nat} (hN : N ≤ 1114112) (p : (List TPage)) (h : (smL N (smTPage N)) p) {m : Int} (h0 : 0 ≤ m) (h1 : m + (sumL cn_Page p : Nat) ≤ 9223372036854775807) : laws_heldPageS k (markL mk_Page cn_Page p m) m = some (m + (sumL cn_Page p : Nat)) := by
  have hb := bd_PageS hN p h
  have hn : p.length ≤ 1114112 := Nat.le_trans h.1 hN
  rw [laws_heldPageS, loop_held (F := mk_Page) (c := cn_Page) (p := p) (by omega) hk h0 h1]
  · rfl
  · intro i hi q hg q0 q1
    have hc : cn_Page p[i] = 2 + sumL cn_Entry p[i].N.L := rfl
    have hgt := gt_eq_of hg
    have hi2 : (i : Int) < (p.length : Int) := by omega
    have hi0 : (0 : Int) ≤ (i : Int) := by omega
    have hng : ∀ z : Int, 0 ≤ z → decide (z < 0) = false := fun z hz => by simp; omega
    simp (disch := omega) only [laws_heldPageS_b0, markL_length, hi2, hi0, hgt, decide_true, if_true, and_self, Option.bind_some, w64, Int.add_assoc, Int.reduceAdd, held_EntryS hk hN p[i].N.L ((h.2 p[i] (List.getElem_mem hi)).2.2) (m := (q + 2)) (by omega) (by omega), mk_Page, Bool.not_true, Bool.false_eq_true, if_false, beq_self_eq_true, hng]
    try rfl
    try (congr 3; omega)
  · intro q
    simp only [laws_heldPageS_b0, markL_length, Int.lt_irrefl, decide_false, Bool.false_eq_true, if_false]
theorem mark_Book {k : Nat} (hk : Big k) {N : Nat} (hN : N ≤ 1114112) (p : TBook) (h : (smTBook N) p) {m : Int} (h0 : 0 ≤ m) (h1 : m ≤ 1000000000000000000) : laws_markBook k p m = some (m + (sumL cn_Page p.L : Nat), markL mk_Page cn_Page p.L m) := by
  have b1 := bd_PageS hN p.L (h.2)
  simp only [laws_markBook]
  rw [mark_PageS hk hN p.L (h.2) (m := m) (by omega) (by omega)]
  simp only [Option.bind_some, markL_length, if_true]
  try rfl
theorem held_Book {k : Nat} (hk : Big k) {N : Nat} (hN : N ≤ 1114112) (p : TBook) (h : (smTBook N) p) {m : Int} (h0 : 0 ≤ m) (h1 : m ≤ 1000000000000000000) : laws_heldBook k (⟨p.Root, (markL mk_Page cn_Page p.L m)⟩ : TBook) m = some (m + (sumL cn_Page p.L : Nat)) := by
  have b1 := bd_PageS hN p.L (h.2)
  simp only [laws_heldBook]
  rw [held_PageS hk hN p.L (h.2) (m := m) (by omega) (by omega)]
  simp only [Option.bind_some]
  repeat (rw [if_neg (by simp; omega)]; try simp only [Option.bind_some])
  try rfl
def mk_Int (x : Int) (m : Int) : Int := m
def cn_Int (x : Int) : Nat := 1
theorem bd_IntS {N : Nat} (hN : N ≤ 1114112) (p : (List Int)) (h : (smL N (smT N)) p) : sumL cn_Int p ≤ 1114112 := by
  have h1 : sumL cn_Int p ≤ p.length * 1 := sumL_le fun y hy => by
    exact Nat.le_refl _
  have h2 : p.length * 1 ≤ 1114112 * 1 := Nat.mul_le_mul_right _ (Nat.le_trans h.1 hN)
  omega
theorem mark_IntS {k : Nat} (hk : Big k) {N : Nat} (hN : N ≤ 1114112) (p : (List Int)) (h : (smL N (smT N)) p) {m : Int} (h0 : 0 ≤ m) (h1 : m + (sumL cn_Int p : Nat) ≤ 9223372036854775807) : laws_markIntS k p m = some (m + (sumL cn_Int p : Nat), markL mk_Int cn_Int p m) := by
  have hb := bd_IntS hN p h
  have hn : p.length ≤ 1114112 := Nat.le_trans h.1 hN
  rw [laws_markIntS, loop_mark (F := mk_Int) (c := cn_Int) (by omega) hk h0 h1]
  · rfl
  · intro l i hi q hl hg q0 q1
    have hc0 : ((cn_Int p[i] : Nat) : Int) = 1 := rfl
    have hgt := gt_eq_of hg
    have hi2 : (i : Int) < (p.length : Int) := by omega
    have hi0 : (0 : Int) ≤ (i : Int) := by omega
    have hil : i < l.length := by omega
    simp (disch := omega) only [laws_markIntS_b0, hl, hi2, hi0, hgt, hil, decide_true, if_true, and_self, Option.bind_some, Int.toNat_natCast, List.length_set, gt_set_self, List.set_set, w64, Int.add_assoc, Int.reduceAdd, markL_length]
    try simp only [mk_Int, cn_Int]
    try rfl
    try (congr 3; omega)
  · intro l q hl
    simp only [laws_markIntS_b0, hl, Int.lt_irrefl, decide_false, Bool.false_eq_true, if_false]
def mk_Item (x : TItem) (m : Int) : TItem := (⟨m, (⟨(m + 1), (m + 2), (m + 3), (m + 4)⟩ : TBox)⟩ : TItem)
def cn_Item (x : TItem) : Nat := 5
theorem bd_ItemS {N : Nat} (hN : N ≤ 1114112) (p : (List TItem)) (h : (smL N (smTItem N)) p) : sumL cn_Item p ≤ 5570560 := by
  have h1 : sumL cn_Item p ≤ p.length * 5 := sumL_le fun y hy => by
    exact Nat.le_refl _
  have h2 : p.length * 5 ≤ 1114112 * 5 := Nat.mul_le_mul_right _ (Nat.le_trans h.1 hN)
  omega
theorem mark_ItemS {k : Nat} (hk : Big k) {N : Nat} (hN : N ≤ 1114112) (p : (List TItem)) (h : (smL N (smTItem N)) p) {m : Int} (h0 : 0 ≤ m) (h1 : m + (sumL cn_Item p : Nat) ≤ 9223372036854775807) : laws_markItemS k p m = some (m + (sumL cn_Item p : Nat), markL mk_Item cn_Item p m) := by
  have hb := bd_ItemS hN p h
  have hn : p.length ≤ 1114112 := Nat.le_trans h.1 hN
  rw [laws_markItemS, loop_mark (F := mk_Item) (c := cn_Item) (by omega) hk h0 h1]
  · rfl
  · intro l i hi q hl hg q0 q1
    have hc0 : ((cn_Item p[i] : Nat) : Int) = 5 := rfl
    have hgt := gt_eq_of hg
    have hi2 : (i : Int) < (p.length : Int) := by omega
    have hi0 : (0 : Int) ≤ (i : Int) := by omega
    have hil : i < l.length := by omega
    simp (disch := omega) only [laws_markItemS_b0, hl, hi2, hi0, hgt, hil, decide_true, if_true, and_self, Option.bind_some, Int.toNat_natCast, List.length_set, gt_set_self, List.set_set, w64, Int.add_assoc, Int.reduceAdd, markL_length]
    try simp only [mk_Item, cn_Item]
    try rfl
    try (congr 3; omega)
  · intro l q hl
    simp only [laws_markItemS_b0, hl, Int.lt_irrefl, decide_false, Bool.false_eq_true, if_false]
theorem mark_Vac {k : Nat} (hk : Big k) {N : Nat} (hN : N ≤ 1114112) (p : TVac) (h : (smTVac N) p) {m : Int} (h0 : 0 ≤ m) (h1 : m ≤ 1000000000000000000) : laws_markVac k p m = some (m + (sumL cn_Int p.Todo : Nat) + (sumL cn_Item p.Run : Nat) + (sumL cn_Entry p.Row : Nat) + (sumL cn_Entry p.Next : Nat) + (sumL cn_Int p.Made : Nat), markL mk_Int cn_Int p.Todo m, markL mk_Item cn_Item p.Run (m + (sumL cn_Int p.Todo : Nat)), markL mk_Entry cn_Entry p.Row (m + (sumL cn_Int p.Todo : Nat) + (sumL cn_Item p.Run : Nat)), markL mk_Entry cn_Entry p.Next (m + (sumL cn_Int p.Todo : Nat) + (sumL cn_Item p.Run : Nat) + (sumL cn_Entry p.Row : Nat)), markL mk_Int cn_Int p.Made (m + (sumL cn_Int p.Todo : Nat) + (sumL cn_Item p.Run : Nat) + (sumL cn_Entry p.Row : Nat) + (sumL cn_Entry p.Next : Nat))) := by
  have b1 := bd_IntS hN p.Todo (h.2.1)
  have b2 := bd_ItemS hN p.Run (h.2.2.1)
  have b3 := bd_EntryS hN p.Row (h.2.2.2.1)
  have b4 := bd_EntryS hN p.Next (h.2.2.2.2.1)
  have b5 := bd_IntS hN p.Made (h.2.2.2.2.2)
  simp only [laws_markVac]
  rw [mark_IntS hk hN p.Todo (h.2.1) (m := m) (by omega) (by omega)]
  simp only [Option.bind_some, markL_length, if_true]
  rw [mark_ItemS hk hN p.Run (h.2.2.1) (m := m + (sumL cn_Int p.Todo : Nat)) (by omega) (by omega)]
  simp only [Option.bind_some, markL_length, if_true]
  rw [mark_EntryS hk hN p.Row (h.2.2.2.1) (m := m + (sumL cn_Int p.Todo : Nat) + (sumL cn_Item p.Run : Nat)) (by omega) (by omega)]
  simp only [Option.bind_some, markL_length, if_true]
  rw [mark_EntryS hk hN p.Next (h.2.2.2.2.1) (m := m + (sumL cn_Int p.Todo : Nat) + (sumL cn_Item p.Run : Nat) + (sumL cn_Entry p.Row : Nat)) (by omega) (by omega)]
  simp only [Option.bind_some, markL_length, if_true]
  rw [mark_IntS hk hN p.Made (h.2.2.2.2.2) (m := m + (sumL cn_Int p.Todo : Nat) + (sumL cn_Item p.Run : Nat) + (sumL cn_Entry p.Row : Nat) + (sumL cn_Entry p.Next : Nat)) (by omega) (by omega)]
  simp only [Option.bind_some, markL_length, if_true]
  try rfl
end Go.Proofs.Sx
