/- Plain facts about the functions that copy, compare and measure. -/
import Derived.Test.YtjajoekfofjeiaaBD
namespace Go.Proofs.Sx
open Go.RowKit
set_option linter.unusedVariables false
set_option linter.unusedSimpArgs false
theorem to_IntS {k : Nat} (hk : Big k) (p : (List Int)) (h : (smL smT) p) : laws_toIntS k p = some p := by
  rw [laws_toIntS]
  have hl := h.1
  rw [if_pos ⟨by omega, okLen_iff.2 (by simp; omega)⟩, Int.toNat_natCast]
  rw [loop_fill (f := id) (p := p) (by simp) (by omega) hk]
  · simp
  · intro l i hi hl2
    have c1 : decide ((i : Int) < ((List.length p : Nat) : Int)) = true := by simp; omega
    have c2 : (0 : Int) ≤ (i : Int) ∧ (i : Int) < ((List.length p : Nat) : Int) := by omega
    have c3 : (0 : Int) ≤ (i : Int) ∧ (i : Int) < ((List.length l : Nat) : Int) := by omega
    simp only [laws_toIntS_b0, if_pos c1, if_pos c2, if_pos c3, gt_nat hi, Int.toNat_natCast, id, w64s (n := i) (by omega)]
  · intro l
    have c1 : ¬ decide (((List.length p : Nat) : Int) < ((List.length p : Nat) : Int)) = true := by simp
    simp only [laws_toIntS_b0, if_neg c1]
def smTBox (x : TBox) : Prop := smT x.X0 ∧ smT x.Y0 ∧ smT x.X1 ∧ smT x.Y1
theorem to_Box {k : Nat} (hk : Big k) (p : TBox) (h : smTBox p) : laws_toBox p = some p := by
  simp only [laws_toBox, Option.bind_some]
def smTItem (x : TItem) : Prop := smT x.Id ∧ smTBox x.R
theorem to_Item {k : Nat} (hk : Big k) (p : TItem) (h : smTItem p) : laws_toItem p = some p := by
  simp only [laws_toItem, to_Box hk _ (h.2), Option.bind_some]
theorem to_ItemS {k : Nat} (hk : Big k) (p : (List TItem)) (h : (smL smTItem) p) : laws_toItemS k p = some p := by
  rw [laws_toItemS]
  have hl := h.1
  rw [if_pos ⟨by omega, okLen_iff.2 (by simp; omega)⟩, Int.toNat_natCast]
  rw [loop_fill (f := id) (p := p) (by simp) (by omega) hk]
  · simp
  · intro l i hi hl2
    have c1 : decide ((i : Int) < ((List.length p : Nat) : Int)) = true := by simp; omega
    have c2 : (0 : Int) ≤ (i : Int) ∧ (i : Int) < ((List.length p : Nat) : Int) := by omega
    have c3 : (0 : Int) ≤ (i : Int) ∧ (i : Int) < ((List.length l : Nat) : Int) := by omega
    simp only [laws_toItemS_b0, if_pos c1, if_pos c2, if_pos c3, gt_nat hi, to_Item hk _ (h.2 _ (List.getElem_mem hi)), Option.bind_some, Int.toNat_natCast, id, w64s (n := i) (by omega)]
  · intro l
    have c1 : ¬ decide (((List.length p : Nat) : Int) < ((List.length p : Nat) : Int)) = true := by simp
    simp only [laws_toItemS_b0, if_neg c1]
def smTEntry (x : TEntry) : Prop := smT x.N ∧ smTBox x.R
theorem to_Entry {k : Nat} (hk : Big k) (p : TEntry) (h : smTEntry p) : laws_toEntry p = some p := by
  simp only [laws_toEntry, to_Box hk _ (h.2), Option.bind_some]
theorem to_EntryS {k : Nat} (hk : Big k) (p : (List TEntry)) (h : (smL smTEntry) p) : laws_toEntryS k p = some p := by
  rw [laws_toEntryS]
  have hl := h.1
  rw [if_pos ⟨by omega, okLen_iff.2 (by simp; omega)⟩, Int.toNat_natCast]
  rw [loop_fill (f := id) (p := p) (by simp) (by omega) hk]
  · simp
  · intro l i hi hl2
    have c1 : decide ((i : Int) < ((List.length p : Nat) : Int)) = true := by simp; omega
    have c2 : (0 : Int) ≤ (i : Int) ∧ (i : Int) < ((List.length p : Nat) : Int) := by omega
    have c3 : (0 : Int) ≤ (i : Int) ∧ (i : Int) < ((List.length l : Nat) : Int) := by omega
    simp only [laws_toEntryS_b0, if_pos c1, if_pos c2, if_pos c3, gt_nat hi, to_Entry hk _ (h.2 _ (List.getElem_mem hi)), Option.bind_some, Int.toNat_natCast, id, w64s (n := i) (by omega)]
  · intro l
    have c1 : ¬ decide (((List.length p : Nat) : Int) < ((List.length p : Nat) : Int)) = true := by simp
    simp only [laws_toEntryS_b0, if_neg c1]
def smTVac (x : TVac) : Prop := smT x.Phase ∧ (smL smT) x.Todo ∧ (smL smTItem) x.Run ∧ (smL smTEntry) x.Row ∧ (smL smTEntry) x.Next ∧ (smL smT) x.Made
theorem to_Vac {k : Nat} (hk : Big k) (p : TVac) (h : smTVac p) : laws_toVac k p = some p := by
  simp only [laws_toVac, to_IntS hk _ (h.2.1), to_ItemS hk _ (h.2.2.1), to_EntryS hk _ (h.2.2.2.1), to_EntryS hk _ (h.2.2.2.2.1), to_IntS hk _ (h.2.2.2.2.2), Option.bind_some]
theorem eq_IntS {k : Nat} (hk : Big k) (p q : (List Int)) (h : (smL smT) p) : laws_eqIntS k p q = some (decide (p = q)) := by
  rw [laws_eqIntS]
  have hl := h.1
  by_cases he : p.length = q.length
  · rw [if_neg (by simp [he])]
    rw [loop_all (c := fun i => decide (p[i]? = q[i]?)) (n := p.length) (r := false) (by omega) hk]
    · by_cases hpq : p = q
      · subst hpq; simp
      · rw [if_neg, decide_eq_false hpq]
        · rfl
        · intro hh
          exact hpq (List.ext_getElem? fun i => by
            by_cases hi : i < p.length
            · simpa using hh i hi
            · rw [List.getElem?_eq_none (by omega), List.getElem?_eq_none (by omega)])
    · intro i hi
      have c1 : decide ((i : Int) < ((List.length p : Nat) : Int)) = true := by simp; omega
      have c2 : (0 : Int) ≤ (i : Int) ∧ (i : Int) < ((List.length p : Nat) : Int) := by omega
      have c3 : (0 : Int) ≤ (i : Int) ∧ (i : Int) < ((List.length q : Nat) : Int) := by omega
      have hq : i < q.length := by omega
      simp only [laws_eqIntS_b0, if_pos c1, if_pos c2, if_pos c3, gt_nat hi, gt_nat hq, w64s (n := i) (by omega), List.getElem?_eq_getElem hi, List.getElem?_eq_getElem hq, Option.some.injEq]
      by_cases hv : p[i] = q[i] <;> simp [hv]
    · have c1 : ¬ decide (((List.length p : Nat) : Int) < ((List.length p : Nat) : Int)) = true := by simp
      simp only [laws_eqIntS_b0, if_neg c1]
  · rw [if_pos (by simp; omega), decide_eq_false]
    rintro rfl; exact he rfl
theorem eq_Box {k : Nat} (hk : Big k) (p q : TBox) (h : smTBox p) : laws_eqBox p q = some (decide (p = q)) := by
  obtain ⟨p0, p1, p2, p3⟩ := p
  obtain ⟨q0, q1, q2, q3⟩ := q
  simp only [laws_eqBox, Option.bind_some, TBox.mk.injEq]
  repeat' split
  all_goals (try simp_all)
theorem eq_Item {k : Nat} (hk : Big k) (p q : TItem) (h : smTItem p) : laws_eqItem p q = some (decide (p = q)) := by
  obtain ⟨p0, p1⟩ := p
  obtain ⟨q0, q1⟩ := q
  simp only [laws_eqItem, eq_Box hk _ _ (h.2), Option.bind_some, TItem.mk.injEq]
  repeat' split
  all_goals (try simp_all)
theorem eq_ItemS {k : Nat} (hk : Big k) (p q : (List TItem)) (h : (smL smTItem) p) : laws_eqItemS k p q = some (decide (p = q)) := by
  rw [laws_eqItemS]
  have hl := h.1
  by_cases he : p.length = q.length
  · rw [if_neg (by simp [he])]
    rw [loop_all (c := fun i => decide (p[i]? = q[i]?)) (n := p.length) (r := false) (by omega) hk]
    · by_cases hpq : p = q
      · subst hpq; simp
      · rw [if_neg, decide_eq_false hpq]
        · rfl
        · intro hh
          exact hpq (List.ext_getElem? fun i => by
            by_cases hi : i < p.length
            · simpa using hh i hi
            · rw [List.getElem?_eq_none (by omega), List.getElem?_eq_none (by omega)])
    · intro i hi
      have c1 : decide ((i : Int) < ((List.length p : Nat) : Int)) = true := by simp; omega
      have c2 : (0 : Int) ≤ (i : Int) ∧ (i : Int) < ((List.length p : Nat) : Int) := by omega
      have c3 : (0 : Int) ≤ (i : Int) ∧ (i : Int) < ((List.length q : Nat) : Int) := by omega
      have hq : i < q.length := by omega
      simp only [laws_eqItemS_b0, if_pos c1, if_pos c2, if_pos c3, gt_nat hi, gt_nat hq, eq_Item hk _ _ (h.2 _ (List.getElem_mem hi)), Option.bind_some, w64s (n := i) (by omega), List.getElem?_eq_getElem hi, List.getElem?_eq_getElem hq, Option.some.injEq]
      by_cases hv : p[i] = q[i] <;> simp [hv]
    · have c1 : ¬ decide (((List.length p : Nat) : Int) < ((List.length p : Nat) : Int)) = true := by simp
      simp only [laws_eqItemS_b0, if_neg c1]
  · rw [if_pos (by simp; omega), decide_eq_false]
    rintro rfl; exact he rfl
theorem eq_Entry {k : Nat} (hk : Big k) (p q : TEntry) (h : smTEntry p) : laws_eqEntry p q = some (decide (p = q)) := by
  obtain ⟨p0, p1⟩ := p
  obtain ⟨q0, q1⟩ := q
  simp only [laws_eqEntry, eq_Box hk _ _ (h.2), Option.bind_some, TEntry.mk.injEq]
  repeat' split
  all_goals (try simp_all)
theorem eq_EntryS {k : Nat} (hk : Big k) (p q : (List TEntry)) (h : (smL smTEntry) p) : laws_eqEntryS k p q = some (decide (p = q)) := by
  rw [laws_eqEntryS]
  have hl := h.1
  by_cases he : p.length = q.length
  · rw [if_neg (by simp [he])]
    rw [loop_all (c := fun i => decide (p[i]? = q[i]?)) (n := p.length) (r := false) (by omega) hk]
    · by_cases hpq : p = q
      · subst hpq; simp
      · rw [if_neg, decide_eq_false hpq]
        · rfl
        · intro hh
          exact hpq (List.ext_getElem? fun i => by
            by_cases hi : i < p.length
            · simpa using hh i hi
            · rw [List.getElem?_eq_none (by omega), List.getElem?_eq_none (by omega)])
    · intro i hi
      have c1 : decide ((i : Int) < ((List.length p : Nat) : Int)) = true := by simp; omega
      have c2 : (0 : Int) ≤ (i : Int) ∧ (i : Int) < ((List.length p : Nat) : Int) := by omega
      have c3 : (0 : Int) ≤ (i : Int) ∧ (i : Int) < ((List.length q : Nat) : Int) := by omega
      have hq : i < q.length := by omega
      simp only [laws_eqEntryS_b0, if_pos c1, if_pos c2, if_pos c3, gt_nat hi, gt_nat hq, eq_Entry hk _ _ (h.2 _ (List.getElem_mem hi)), Option.bind_some, w64s (n := i) (by omega), List.getElem?_eq_getElem hi, List.getElem?_eq_getElem hq, Option.some.injEq]
      by_cases hv : p[i] = q[i] <;> simp [hv]
    · have c1 : ¬ decide (((List.length p : Nat) : Int) < ((List.length p : Nat) : Int)) = true := by simp
      simp only [laws_eqEntryS_b0, if_neg c1]
  · rw [if_pos (by simp; omega), decide_eq_false]
    rintro rfl; exact he rfl
theorem eq_Vac {k : Nat} (hk : Big k) (p q : TVac) (h : smTVac p) : laws_eqVac k p q = some (decide (p = q)) := by
  obtain ⟨p0, p1, p2, p3, p4, p5⟩ := p
  obtain ⟨q0, q1, q2, q3, q4, q5⟩ := q
  simp only [laws_eqVac, eq_IntS hk _ _ (h.2.1), eq_ItemS hk _ _ (h.2.2.1), eq_EntryS hk _ _ (h.2.2.2.1), eq_EntryS hk _ _ (h.2.2.2.2.1), eq_IntS hk _ _ (h.2.2.2.2.2), Option.bind_some, TVac.mk.injEq]
  repeat' split
  all_goals (try simp_all)
theorem sz_IntS {k : Nat} (hk : Big k) (p : (List Int)) (w : (wfL wfI) p) {m : Int} (h0 : 0 ≤ m) (h1 : m ≤ 1048576) : ∃ r, laws_szIntS p m = some r ∧ r ≤ m ∧ -1 ≤ r ∧ (0 ≤ r → (smL smT) p) := by
  rw [laws_szIntS]
  have hl := w.1
  have hm : maxLen = 9223372036854775807 := rfl
  rw [w64 (by omega) (by omega)]
  by_cases z : m - ((List.length p : Nat) : Int) < 0
  · exact ⟨-1, by simp [z], by omega, by omega, fun h => by omega⟩
  · rw [if_neg (by simpa using z)]
    exact ⟨_, rfl, by omega, by omega, fun _ => ⟨by omega, fun _ _ => trivial⟩⟩
theorem sz_ItemS {k : Nat} (hk : Big k) (p : (List TItem)) (w : (wfL wfTItem) p) {m : Int} (h0 : 0 ≤ m) (h1 : m ≤ 1048576) : ∃ r, laws_szItemS p m = some r ∧ r ≤ m ∧ -1 ≤ r ∧ (0 ≤ r → (smL smTItem) p) := by
  rw [laws_szItemS]
  have hl := w.1
  have hm : maxLen = 9223372036854775807 := rfl
  rw [w64 (by omega) (by omega)]
  by_cases z : m - ((List.length p : Nat) : Int) < 0
  · exact ⟨-1, by simp [z], by omega, by omega, fun h => by omega⟩
  · rw [if_neg (by simpa using z)]
    exact ⟨_, rfl, by omega, by omega, fun _ => ⟨by omega, fun _ _ => ⟨trivial, ⟨trivial, trivial, trivial, trivial⟩⟩⟩⟩
theorem sz_EntryS {k : Nat} (hk : Big k) (p : (List TEntry)) (w : (wfL wfTEntry) p) {m : Int} (h0 : 0 ≤ m) (h1 : m ≤ 1048576) : ∃ r, laws_szEntryS p m = some r ∧ r ≤ m ∧ -1 ≤ r ∧ (0 ≤ r → (smL smTEntry) p) := by
  rw [laws_szEntryS]
  have hl := w.1
  have hm : maxLen = 9223372036854775807 := rfl
  rw [w64 (by omega) (by omega)]
  by_cases z : m - ((List.length p : Nat) : Int) < 0
  · exact ⟨-1, by simp [z], by omega, by omega, fun h => by omega⟩
  · rw [if_neg (by simpa using z)]
    exact ⟨_, rfl, by omega, by omega, fun _ => ⟨by omega, fun _ _ => ⟨trivial, ⟨trivial, trivial, trivial, trivial⟩⟩⟩⟩
theorem sz_Vac {k : Nat} (hk : Big k) (p : TVac) (w : wfTVac p) {m : Int} (h0 : 0 ≤ m) (h1 : m ≤ 1048576) : ∃ r, laws_szVac p m = some r ∧ r ≤ m ∧ -1 ≤ r ∧ (0 ≤ r → smTVac p) := by
  rw [laws_szVac]
  obtain ⟨r0, e0, l0, g0, s0⟩ := sz_IntS (m := m) hk _ (w.2.1) h0 h1
  rw [e0, Option.bind_some]
  by_cases z0 : r0 < 0
  · exact ⟨-1, by simp [z0], by omega, by omega, fun h => by omega⟩
  rw [if_neg (by simpa using z0)]
  obtain ⟨r1, e1, l1, g1, s1⟩ := sz_ItemS (m := r0) hk _ (w.2.2.1) (by omega) (by omega)
  rw [e1, Option.bind_some]
  by_cases z1 : r1 < 0
  · exact ⟨-1, by simp [z1], by omega, by omega, fun h => by omega⟩
  rw [if_neg (by simpa using z1)]
  obtain ⟨r2, e2, l2, g2, s2⟩ := sz_EntryS (m := r1) hk _ (w.2.2.2.1) (by omega) (by omega)
  rw [e2, Option.bind_some]
  by_cases z2 : r2 < 0
  · exact ⟨-1, by simp [z2], by omega, by omega, fun h => by omega⟩
  rw [if_neg (by simpa using z2)]
  obtain ⟨r3, e3, l3, g3, s3⟩ := sz_EntryS (m := r2) hk _ (w.2.2.2.2.1) (by omega) (by omega)
  rw [e3, Option.bind_some]
  by_cases z3 : r3 < 0
  · exact ⟨-1, by simp [z3], by omega, by omega, fun h => by omega⟩
  rw [if_neg (by simpa using z3)]
  obtain ⟨r4, e4, l4, g4, s4⟩ := sz_IntS (m := r3) hk _ (w.2.2.2.2.2) (by omega) (by omega)
  rw [e4, Option.bind_some]
  by_cases z4 : r4 < 0
  · exact ⟨-1, by simp [z4], by omega, by omega, fun h => by omega⟩
  rw [if_neg (by simpa using z4)]
  exact ⟨_, rfl, by omega, by omega, fun _ => ⟨trivial, s0 (by omega), s1 (by omega), s2 (by omega), s3 (by omega), s4 (by omega)⟩⟩
end Go.Proofs.Sx
