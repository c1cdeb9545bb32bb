/- Plain facts about the functions that copy, compare and measure. -/
import Derived.Test.YtgfhnepkpbmbcaaCD
namespace Go.Proofs.Sx
open Go.RowKit
set_option linter.unusedVariables false
set_option linter.unusedSimpArgs false
theorem to_ByteS {k : Nat} (hk : Big k) {N : Nat} (hN : N ≤ 1114112) (p : (List Int)) (h : (smL N (smT N)) p) : laws_toByteS k p = some p := by
  rw [laws_toByteS]
  have hl := h.1
  rw [if_pos ⟨by omega, okLen_iff.2 (by simp; omega)⟩, Int.toNat_natCast]
  rw [loop_fill (f := id) (p := p) (by simp) (by omega) hk]
  · simp
  · intro l i hi hl2
    have c1 : decide ((i : Int) < ((List.length p : Nat) : Int)) = true := by simp; omega
    have c2 : (0 : Int) ≤ (i : Int) ∧ (i : Int) < ((List.length p : Nat) : Int) := by omega
    have c3 : (0 : Int) ≤ (i : Int) ∧ (i : Int) < ((List.length l : Nat) : Int) := by omega
    simp only [laws_toByteS_b0, if_pos c1, if_pos c2, if_pos c3, gt_nat hi, Int.toNat_natCast, id, w64s (n := i) (by omega), some_bind]
  · intro l
    have c1 : ¬ decide (((List.length p : Nat) : Int) < ((List.length p : Nat) : Int)) = true := by simp
    simp only [laws_toByteS_b0, if_neg c1]
def smTCell (N : Nat) (x : TCell) : Prop := (smT N) x.Bad ∧ (smL N (smT N)) x.B
theorem to_Cell {k : Nat} (hk : Big k) {N : Nat} (hN : N ≤ 1114112) (p : TCell) (h : (smTCell N) p) : laws_toCell k p = some p := by
  simp only [laws_toCell, to_ByteS hk hN _ (h.2), Option.bind_some]
theorem to_CellS {k : Nat} (hk : Big k) {N : Nat} (hN : N ≤ 1114112) (p : (List TCell)) (h : (smL N (smTCell N)) p) : laws_toCellS k p = some p := by
  rw [laws_toCellS]
  have hl := h.1
  rw [if_pos ⟨by omega, okLen_iff.2 (by simp; omega)⟩, Int.toNat_natCast]
  rw [loop_fill (f := id) (p := p) (by simp) (by omega) hk]
  · simp
  · intro l i hi hl2
    have c1 : decide ((i : Int) < ((List.length p : Nat) : Int)) = true := by simp; omega
    have c2 : (0 : Int) ≤ (i : Int) ∧ (i : Int) < ((List.length p : Nat) : Int) := by omega
    have c3 : (0 : Int) ≤ (i : Int) ∧ (i : Int) < ((List.length l : Nat) : Int) := by omega
    simp only [laws_toCellS_b0, if_pos c1, if_pos c2, if_pos c3, gt_nat hi, to_Cell hk hN _ (h.2 _ (List.getElem_mem hi)), Option.bind_some, Int.toNat_natCast, id, w64s (n := i) (by omega), some_bind]
  · intro l
    have c1 : ¬ decide (((List.length p : Nat) : Int) < ((List.length p : Nat) : Int)) = true := by simp
    simp only [laws_toCellS_b0, if_neg c1]
def smTWet (N : Nat) (x : TWet) : Prop := (smT N) x.At ∧ (smL N (smT N)) x.B
theorem to_Wet {k : Nat} (hk : Big k) {N : Nat} (hN : N ≤ 1114112) (p : TWet) (h : (smTWet N) p) : laws_toWet k p = some p := by
  simp only [laws_toWet, to_ByteS hk hN _ (h.2), Option.bind_some]
theorem to_WetS {k : Nat} (hk : Big k) {N : Nat} (hN : N ≤ 1114112) (p : (List TWet)) (h : (smL N (smTWet N)) p) : laws_toWetS k p = some p := by
  rw [laws_toWetS]
  have hl := h.1
  rw [if_pos ⟨by omega, okLen_iff.2 (by simp; omega)⟩, Int.toNat_natCast]
  rw [loop_fill (f := id) (p := p) (by simp) (by omega) hk]
  · simp
  · intro l i hi hl2
    have c1 : decide ((i : Int) < ((List.length p : Nat) : Int)) = true := by simp; omega
    have c2 : (0 : Int) ≤ (i : Int) ∧ (i : Int) < ((List.length p : Nat) : Int) := by omega
    have c3 : (0 : Int) ≤ (i : Int) ∧ (i : Int) < ((List.length l : Nat) : Int) := by omega
    simp only [laws_toWetS_b0, if_pos c1, if_pos c2, if_pos c3, gt_nat hi, to_Wet hk hN _ (h.2 _ (List.getElem_mem hi)), Option.bind_some, Int.toNat_natCast, id, w64s (n := i) (by omega), some_bind]
  · intro l
    have c1 : ¬ decide (((List.length p : Nat) : Int) < ((List.length p : Nat) : Int)) = true := by simp
    simp only [laws_toWetS_b0, if_neg c1]
def smTDisk (N : Nat) (x : TDisk) : Prop := (smL N (smTCell N)) x.Cells ∧ (smL N (smTWet N)) x.Wet ∧ (smT N) x.Fuse ∧ (smT N) x.Dead
theorem to_Disk {k : Nat} (hk : Big k) {N : Nat} (hN : N ≤ 1114112) (p : TDisk) (h : (smTDisk N) p) : laws_toDisk k p = some p := by
  simp only [laws_toDisk, to_CellS hk hN _ (h.1), to_WetS hk hN _ (h.2.1), Option.bind_some]
def smTBox (N : Nat) (x : TBox) : Prop := (smT N) x.X0 ∧ (smT N) x.Y0 ∧ (smT N) x.X1 ∧ (smT N) x.Y1
theorem eq_Box {k : Nat} (hk : Big k) {N : Nat} (hN : N ≤ 1114112) (p q : TBox) (h : (smTBox N) p) : laws_eqBox p q = some (decide (p = q)) := by
  obtain ⟨p0, p1, p2, p3⟩ := p
  obtain ⟨q0, q1, q2, q3⟩ := q
  simp only [laws_eqBox, Option.bind_some, TBox.mk.injEq]
  repeat' split
  all_goals (try simp_all)
def smTEntry (N : Nat) (x : TEntry) : Prop := (smT N) x.N ∧ (smTBox N) x.R
theorem eq_Entry {k : Nat} (hk : Big k) {N : Nat} (hN : N ≤ 1114112) (p q : TEntry) (h : (smTEntry N) p) : laws_eqEntry p q = some (decide (p = q)) := by
  obtain ⟨p0, p1⟩ := p
  obtain ⟨q0, q1⟩ := q
  simp only [laws_eqEntry, eq_Box hk hN _ _ (h.2), Option.bind_some, TEntry.mk.injEq]
  repeat' split
  all_goals (try simp_all)
theorem eq_EntryS {k : Nat} (hk : Big k) {N : Nat} (hN : N ≤ 1114112) (p q : (List TEntry)) (h : (smL N (smTEntry N)) p) : laws_eqEntryS k p q = some (decide (p = q)) := by
  rw [laws_eqEntryS]
  have hl := h.1
  by_cases he : p.length = q.length
  · rw [if_neg (by simp [he])]
    rw [loop_all (c := fun i => decide (p[i]? = q[i]?)) (n := p.length) (r := false) (by omega) hk]
    · by_cases hpq : p = q
      · subst hpq; simp
      · rw [if_neg, decide_eq_false hpq]
        · rfl
        · intro hh
          exact hpq (List.ext_getElem? fun i => by
            by_cases hi : i < p.length
            · simpa using hh i hi
            · rw [List.getElem?_eq_none (by omega), List.getElem?_eq_none (by omega)])
    · intro i hi
      have c1 : decide ((i : Int) < ((List.length p : Nat) : Int)) = true := by simp; omega
      have c2 : (0 : Int) ≤ (i : Int) ∧ (i : Int) < ((List.length p : Nat) : Int) := by omega
      have c3 : (0 : Int) ≤ (i : Int) ∧ (i : Int) < ((List.length q : Nat) : Int) := by omega
      have hq : i < q.length := by omega
      simp only [laws_eqEntryS_b0, if_pos c1, if_pos c2, if_pos c3, gt_nat hi, gt_nat hq, eq_Entry hk hN _ _ (h.2 _ (List.getElem_mem hi)), Option.bind_some, w64s (n := i) (by omega), List.getElem?_eq_getElem hi, List.getElem?_eq_getElem hq, Option.some.injEq]
      by_cases hv : p[i] = q[i] <;> simp [hv]
    · have c1 : ¬ decide (((List.length p : Nat) : Int) < ((List.length p : Nat) : Int)) = true := by simp
      simp only [laws_eqEntryS_b0, if_neg c1]
  · rw [if_pos (by simp; omega), decide_eq_false]
    rintro rfl; exact he rfl
def smTNode (N : Nat) (x : TNode) : Prop := (smT N) x.Leaf ∧ (smL N (smTEntry N)) x.L
theorem eq_Node {k : Nat} (hk : Big k) {N : Nat} (hN : N ≤ 1114112) (p q : TNode) (h : (smTNode N) p) : laws_eqNode k p q = some (decide (p = q)) := by
  obtain ⟨p0, p1⟩ := p
  obtain ⟨q0, q1⟩ := q
  simp only [laws_eqNode, eq_EntryS hk hN _ _ (h.2), Option.bind_some, TNode.mk.injEq]
  repeat' split
  all_goals (try simp_all)
def smTChange (N : Nat) (x : TChange) : Prop := (smT N) x.Page ∧ (smTNode N) x.N
theorem eq_Change {k : Nat} (hk : Big k) {N : Nat} (hN : N ≤ 1114112) (p q : TChange) (h : (smTChange N) p) : laws_eqChange k p q = some (decide (p = q)) := by
  obtain ⟨p0, p1⟩ := p
  obtain ⟨q0, q1⟩ := q
  simp only [laws_eqChange, eq_Node hk hN _ _ (h.2), Option.bind_some, TChange.mk.injEq]
  repeat' split
  all_goals (try simp_all)
theorem eq_ChangeS {k : Nat} (hk : Big k) {N : Nat} (hN : N ≤ 1114112) (p q : (List TChange)) (h : (smL N (smTChange N)) p) : laws_eqChangeS k p q = some (decide (p = q)) := by
  rw [laws_eqChangeS]
  have hl := h.1
  by_cases he : p.length = q.length
  · rw [if_neg (by simp [he])]
    rw [loop_all (c := fun i => decide (p[i]? = q[i]?)) (n := p.length) (r := false) (by omega) hk]
    · by_cases hpq : p = q
      · subst hpq; simp
      · rw [if_neg, decide_eq_false hpq]
        · rfl
        · intro hh
          exact hpq (List.ext_getElem? fun i => by
            by_cases hi : i < p.length
            · simpa using hh i hi
            · rw [List.getElem?_eq_none (by omega), List.getElem?_eq_none (by omega)])
    · intro i hi
      have c1 : decide ((i : Int) < ((List.length p : Nat) : Int)) = true := by simp; omega
      have c2 : (0 : Int) ≤ (i : Int) ∧ (i : Int) < ((List.length p : Nat) : Int) := by omega
      have c3 : (0 : Int) ≤ (i : Int) ∧ (i : Int) < ((List.length q : Nat) : Int) := by omega
      have hq : i < q.length := by omega
      simp only [laws_eqChangeS_b0, if_pos c1, if_pos c2, if_pos c3, gt_nat hi, gt_nat hq, eq_Change hk hN _ _ (h.2 _ (List.getElem_mem hi)), Option.bind_some, w64s (n := i) (by omega), List.getElem?_eq_getElem hi, List.getElem?_eq_getElem hq, Option.some.injEq]
      by_cases hv : p[i] = q[i] <;> simp [hv]
    · have c1 : ¬ decide (((List.length p : Nat) : Int) < ((List.length p : Nat) : Int)) = true := by simp
      simp only [laws_eqChangeS_b0, if_neg c1]
  · rw [if_pos (by simp; omega), decide_eq_false]
    rintro rfl; exact he rfl
def smTTx (N : Nat) (x : TTx) : Prop := (smT N) x.Seq ∧ (smT N) x.Root ∧ (smT N) x.Size ∧ (smL N (smTChange N)) x.Puts
theorem eq_Tx {k : Nat} (hk : Big k) {N : Nat} (hN : N ≤ 1114112) (p q : TTx) (h : (smTTx N) p) : laws_eqTx k p q = some (decide (p = q)) := by
  obtain ⟨p0, p1, p2, p3⟩ := p
  obtain ⟨q0, q1, q2, q3⟩ := q
  simp only [laws_eqTx, eq_ChangeS hk hN _ _ (h.2.2.2), Option.bind_some, TTx.mk.injEq]
  repeat' split
  all_goals (try simp_all)
theorem eq_TxS {k : Nat} (hk : Big k) {N : Nat} (hN : N ≤ 1114112) (p q : (List TTx)) (h : (smL N (smTTx N)) p) : laws_eqTxS k p q = some (decide (p = q)) := by
  rw [laws_eqTxS]
  have hl := h.1
  by_cases he : p.length = q.length
  · rw [if_neg (by simp [he])]
    rw [loop_all (c := fun i => decide (p[i]? = q[i]?)) (n := p.length) (r := false) (by omega) hk]
    · by_cases hpq : p = q
      · subst hpq; simp
      · rw [if_neg, decide_eq_false hpq]
        · rfl
        · intro hh
          exact hpq (List.ext_getElem? fun i => by
            by_cases hi : i < p.length
            · simpa using hh i hi
            · rw [List.getElem?_eq_none (by omega), List.getElem?_eq_none (by omega)])
    · intro i hi
      have c1 : decide ((i : Int) < ((List.length p : Nat) : Int)) = true := by simp; omega
      have c2 : (0 : Int) ≤ (i : Int) ∧ (i : Int) < ((List.length p : Nat) : Int) := by omega
      have c3 : (0 : Int) ≤ (i : Int) ∧ (i : Int) < ((List.length q : Nat) : Int) := by omega
      have hq : i < q.length := by omega
      simp only [laws_eqTxS_b0, if_pos c1, if_pos c2, if_pos c3, gt_nat hi, gt_nat hq, eq_Tx hk hN _ _ (h.2 _ (List.getElem_mem hi)), Option.bind_some, w64s (n := i) (by omega), List.getElem?_eq_getElem hi, List.getElem?_eq_getElem hq, Option.some.injEq]
      by_cases hv : p[i] = q[i] <;> simp [hv]
    · have c1 : ¬ decide (((List.length p : Nat) : Int) < ((List.length p : Nat) : Int)) = true := by simp
      simp only [laws_eqTxS_b0, if_neg c1]
  · rw [if_pos (by simp; omega), decide_eq_false]
    rintro rfl; exact he rfl
theorem eq_ByteS {k : Nat} (hk : Big k) {N : Nat} (hN : N ≤ 1114112) (p q : (List Int)) (h : (smL N (smT N)) p) : laws_eqByteS k p q = some (decide (p = q)) := by
  rw [laws_eqByteS]
  have hl := h.1
  by_cases he : p.length = q.length
  · rw [if_neg (by simp [he])]
    rw [loop_all (c := fun i => decide (p[i]? = q[i]?)) (n := p.length) (r := false) (by omega) hk]
    · by_cases hpq : p = q
      · subst hpq; simp
      · rw [if_neg, decide_eq_false hpq]
        · rfl
        · intro hh
          exact hpq (List.ext_getElem? fun i => by
            by_cases hi : i < p.length
            · simpa using hh i hi
            · rw [List.getElem?_eq_none (by omega), List.getElem?_eq_none (by omega)])
    · intro i hi
      have c1 : decide ((i : Int) < ((List.length p : Nat) : Int)) = true := by simp; omega
      have c2 : (0 : Int) ≤ (i : Int) ∧ (i : Int) < ((List.length p : Nat) : Int) := by omega
      have c3 : (0 : Int) ≤ (i : Int) ∧ (i : Int) < ((List.length q : Nat) : Int) := by omega
      have hq : i < q.length := by omega
      simp only [laws_eqByteS_b0, if_pos c1, if_pos c2, if_pos c3, gt_nat hi, gt_nat hq, w64s (n := i) (by omega), List.getElem?_eq_getElem hi, List.getElem?_eq_getElem hq, Option.some.injEq]
      by_cases hv : p[i] = q[i] <;> simp [hv]
    · have c1 : ¬ decide (((List.length p : Nat) : Int) < ((List.length p : Nat) : Int)) = true := by simp
      simp only [laws_eqByteS_b0, if_neg c1]
  · rw [if_pos (by simp; omega), decide_eq_false]
    rintro rfl; exact he rfl
theorem eq_Cell {k : Nat} (hk : Big k) {N : Nat} (hN : N ≤ 1114112) (p q : TCell) (h : (smTCell N) p) : laws_eqCell k p q = some (decide (p = q)) := by
  obtain ⟨p0, p1⟩ := p
  obtain ⟨q0, q1⟩ := q
  simp only [laws_eqCell, eq_ByteS hk hN _ _ (h.2), Option.bind_some, TCell.mk.injEq]
  repeat' split
  all_goals (try simp_all)
theorem eq_CellS {k : Nat} (hk : Big k) {N : Nat} (hN : N ≤ 1114112) (p q : (List TCell)) (h : (smL N (smTCell N)) p) : laws_eqCellS k p q = some (decide (p = q)) := by
  rw [laws_eqCellS]
  have hl := h.1
  by_cases he : p.length = q.length
  · rw [if_neg (by simp [he])]
    rw [loop_all (c := fun i => decide (p[i]? = q[i]?)) (n := p.length) (r := false) (by omega) hk]
    · by_cases hpq : p = q
      · subst hpq; simp
      · rw [if_neg, decide_eq_false hpq]
        · rfl
        · intro hh
          exact hpq (List.ext_getElem? fun i => by
            by_cases hi : i < p.length
            · simpa using hh i hi
            · rw [List.getElem?_eq_none (by omega), List.getElem?_eq_none (by omega)])
    · intro i hi
      have c1 : decide ((i : Int) < ((List.length p : Nat) : Int)) = true := by simp; omega
      have c2 : (0 : Int) ≤ (i : Int) ∧ (i : Int) < ((List.length p : Nat) : Int) := by omega
      have c3 : (0 : Int) ≤ (i : Int) ∧ (i : Int) < ((List.length q : Nat) : Int) := by omega
      have hq : i < q.length := by omega
      simp only [laws_eqCellS_b0, if_pos c1, if_pos c2, if_pos c3, gt_nat hi, gt_nat hq, eq_Cell hk hN _ _ (h.2 _ (List.getElem_mem hi)), Option.bind_some, w64s (n := i) (by omega), List.getElem?_eq_getElem hi, List.getElem?_eq_getElem hq, Option.some.injEq]
      by_cases hv : p[i] = q[i] <;> simp [hv]
    · have c1 : ¬ decide (((List.length p : Nat) : Int) < ((List.length p : Nat) : Int)) = true := by simp
      simp only [laws_eqCellS_b0, if_neg c1]
  · rw [if_pos (by simp; omega), decide_eq_false]
    rintro rfl; exact he rfl
theorem eq_Wet {k : Nat} (hk : Big k) {N : Nat} (hN : N ≤ 1114112) (p q : TWet) (h : (smTWet N) p) : laws_eqWet k p q = some (decide (p = q)) := by
  obtain ⟨p0, p1⟩ := p
  obtain ⟨q0, q1⟩ := q
  simp only [laws_eqWet, eq_ByteS hk hN _ _ (h.2), Option.bind_some, TWet.mk.injEq]
  repeat' split
  all_goals (try simp_all)
theorem eq_WetS {k : Nat} (hk : Big k) {N : Nat} (hN : N ≤ 1114112) (p q : (List TWet)) (h : (smL N (smTWet N)) p) : laws_eqWetS k p q = some (decide (p = q)) := by
  rw [laws_eqWetS]
  have hl := h.1
  by_cases he : p.length = q.length
  · rw [if_neg (by simp [he])]
    rw [loop_all (c := fun i => decide (p[i]? = q[i]?)) (n := p.length) (r := false) (by omega) hk]
    · by_cases hpq : p = q
      · subst hpq; simp
      · rw [if_neg, decide_eq_false hpq]
        · rfl
        · intro hh
          exact hpq (List.ext_getElem? fun i => by
            by_cases hi : i < p.length
            · simpa using hh i hi
            · rw [List.getElem?_eq_none (by omega), List.getElem?_eq_none (by omega)])
    · intro i hi
      have c1 : decide ((i : Int) < ((List.length p : Nat) : Int)) = true := by simp; omega
      have c2 : (0 : Int) ≤ (i : Int) ∧ (i : Int) < ((List.length p : Nat) : Int) := by omega
      have c3 : (0 : Int) ≤ (i : Int) ∧ (i : Int) < ((List.length q : Nat) : Int) := by omega
      have hq : i < q.length := by omega
      simp only [laws_eqWetS_b0, if_pos c1, if_pos c2, if_pos c3, gt_nat hi, gt_nat hq, eq_Wet hk hN _ _ (h.2 _ (List.getElem_mem hi)), Option.bind_some, w64s (n := i) (by omega), List.getElem?_eq_getElem hi, List.getElem?_eq_getElem hq, Option.some.injEq]
      by_cases hv : p[i] = q[i] <;> simp [hv]
    · have c1 : ¬ decide (((List.length p : Nat) : Int) < ((List.length p : Nat) : Int)) = true := by simp
      simp only [laws_eqWetS_b0, if_neg c1]
  · rw [if_pos (by simp; omega), decide_eq_false]
    rintro rfl; exact he rfl
theorem eq_Disk {k : Nat} (hk : Big k) {N : Nat} (hN : N ≤ 1114112) (p q : TDisk) (h : (smTDisk N) p) : laws_eqDisk k p q = some (decide (p = q)) := by
  obtain ⟨p0, p1, p2, p3⟩ := p
  obtain ⟨q0, q1, q2, q3⟩ := q
  simp only [laws_eqDisk, eq_CellS hk hN _ _ (h.1), eq_WetS hk hN _ _ (h.2.1), Option.bind_some, TDisk.mk.injEq]
  repeat' split
  all_goals (try simp_all)
theorem sz_ByteS {k : Nat} (hk : Big k) (p : (List Int)) (w : (wfL wfU8) p) {m : Int} (h0 : 0 ≤ m) (h1 : m ≤ 1048576) : ∃ r, laws_szByteS p m = some r ∧ r ≤ m ∧ -1 ≤ r ∧ (0 ≤ r → (smL 1048576 (smT 1048576)) p) := by
  rw [laws_szByteS]
  have hl := w.1
  have hm : maxLen = 9223372036854775807 := rfl
  rw [w64 (by omega) (by omega)]
  by_cases z : m - ((List.length p : Nat) : Int) < 0
  · exact ⟨-1, by simp [z], by omega, by omega, fun h => by omega⟩
  · rw [if_neg (by simpa using z)]
    exact ⟨_, rfl, by omega, by omega, fun _ => ⟨by omega, fun _ _ => trivial⟩⟩
theorem sz_Cell {k : Nat} (hk : Big k) (p : TCell) (w : wfTCell p) {m : Int} (h0 : 0 ≤ m) (h1 : m ≤ 1048576) : ∃ r, laws_szCell p m = some r ∧ r ≤ m ∧ -1 ≤ r ∧ (0 ≤ r → (smTCell 1048576) p) := by
  rw [laws_szCell]
  obtain ⟨r0, e0, l0, g0, s0⟩ := sz_ByteS (m := m) hk _ (w.2) h0 h1
  rw [e0, Option.bind_some]
  by_cases z0 : r0 < 0
  · exact ⟨-1, by simp [z0], by omega, by omega, fun h => by omega⟩
  rw [if_neg (by simpa using z0)]
  exact ⟨_, rfl, by omega, by omega, fun _ => ⟨trivial, s0 (by omega)⟩⟩
theorem sz_CellS {k : Nat} (hk : Big k) (p : (List TCell)) (w : (wfL wfTCell) p) {m : Int} (h0 : 0 ≤ m) (h1 : m ≤ 1048576) : ∃ r, laws_szCellS k p m = some r ∧ r ≤ m ∧ -1 ≤ r ∧ (0 ≤ r → (smL 1048576 (smTCell 1048576)) p) := by
  rw [laws_szCellS]
  have hl := w.1
  have hm : maxLen = 9223372036854775807 := rfl
  rw [w64 (by omega) (by omega)]
  by_cases z : m - ((List.length p : Nat) : Int) < 0
  · exact ⟨-1, by simp [z], by omega, by omega, fun h => by omega⟩
  · rw [if_neg (by simpa using z)]
    have key1 : ∀ (i : Nat) (hi : i < p.length) (q : Int), 0 ≤ q → q ≤ 1048576 → ∃ r, r ≤ q ∧ -1 ≤ r ∧ (0 ≤ r → (smTCell 1048576) p[i]) ∧ laws_szCellS_b0 p (q, (i : Int)) = some (if r < 0 then .ret (-1) else .next (r, ((i + 1 : Nat) : Int))) := by
      intro i hi q q0 q1
      obtain ⟨r, e, r1, r2, r3⟩ := sz_Cell hk p[i] (w.2 _ (List.getElem_mem hi)) q0 q1
      refine ⟨r, r1, r2, r3, ?_⟩
      have c1 : decide ((i : Int) < ((List.length p : Nat) : Int)) = true := by simp; omega
      have c2 : (0 : Int) ≤ (i : Int) ∧ (i : Int) < ((List.length p : Nat) : Int) := by omega
      simp only [laws_szCellS_b0, if_pos c1, if_pos c2, gt_nat hi, e, Option.bind_some, w64s (n := i) (by omega)]
      by_cases hr : r < 0 <;> simp [hr]
    have key2 : ∀ q, laws_szCellS_b0 p (q, (p.length : Int)) = some (.out (q, (p.length : Int))) := by
      intro q
      have c1 : ¬ decide (((List.length p : Nat) : Int) < ((List.length p : Nat) : Int)) = true := by simp
      simp only [laws_szCellS_b0, if_neg c1]
    obtain ⟨o, e, ho⟩ := loop_sz (k := k) (m0 := m - ((List.length p : Nat) : Int)) (by omega) hk (by omega) (by omega) key1 key2
    rw [e, Option.bind_some]
    rcases ho with rfl | ⟨r, rfl, r0, r1, hall⟩
    · exact ⟨-1, rfl, by omega, by omega, fun h => by omega⟩
    · exact ⟨r, rfl, by omega, by omega, fun _ => ⟨by omega, hall⟩⟩
theorem sz_Wet {k : Nat} (hk : Big k) (p : TWet) (w : wfTWet p) {m : Int} (h0 : 0 ≤ m) (h1 : m ≤ 1048576) : ∃ r, laws_szWet p m = some r ∧ r ≤ m ∧ -1 ≤ r ∧ (0 ≤ r → (smTWet 1048576) p) := by
  rw [laws_szWet]
  obtain ⟨r0, e0, l0, g0, s0⟩ := sz_ByteS (m := m) hk _ (w.2) h0 h1
  rw [e0, Option.bind_some]
  by_cases z0 : r0 < 0
  · exact ⟨-1, by simp [z0], by omega, by omega, fun h => by omega⟩
  rw [if_neg (by simpa using z0)]
  exact ⟨_, rfl, by omega, by omega, fun _ => ⟨trivial, s0 (by omega)⟩⟩
theorem sz_WetS {k : Nat} (hk : Big k) (p : (List TWet)) (w : (wfL wfTWet) p) {m : Int} (h0 : 0 ≤ m) (h1 : m ≤ 1048576) : ∃ r, laws_szWetS k p m = some r ∧ r ≤ m ∧ -1 ≤ r ∧ (0 ≤ r → (smL 1048576 (smTWet 1048576)) p) := by
  rw [laws_szWetS]
  have hl := w.1
  have hm : maxLen = 9223372036854775807 := rfl
  rw [w64 (by omega) (by omega)]
  by_cases z : m - ((List.length p : Nat) : Int) < 0
  · exact ⟨-1, by simp [z], by omega, by omega, fun h => by omega⟩
  · rw [if_neg (by simpa using z)]
    have key1 : ∀ (i : Nat) (hi : i < p.length) (q : Int), 0 ≤ q → q ≤ 1048576 → ∃ r, r ≤ q ∧ -1 ≤ r ∧ (0 ≤ r → (smTWet 1048576) p[i]) ∧ laws_szWetS_b0 p (q, (i : Int)) = some (if r < 0 then .ret (-1) else .next (r, ((i + 1 : Nat) : Int))) := by
      intro i hi q q0 q1
      obtain ⟨r, e, r1, r2, r3⟩ := sz_Wet hk p[i] (w.2 _ (List.getElem_mem hi)) q0 q1
      refine ⟨r, r1, r2, r3, ?_⟩
      have c1 : decide ((i : Int) < ((List.length p : Nat) : Int)) = true := by simp; omega
      have c2 : (0 : Int) ≤ (i : Int) ∧ (i : Int) < ((List.length p : Nat) : Int) := by omega
      simp only [laws_szWetS_b0, if_pos c1, if_pos c2, gt_nat hi, e, Option.bind_some, w64s (n := i) (by omega)]
      by_cases hr : r < 0 <;> simp [hr]
    have key2 : ∀ q, laws_szWetS_b0 p (q, (p.length : Int)) = some (.out (q, (p.length : Int))) := by
      intro q
      have c1 : ¬ decide (((List.length p : Nat) : Int) < ((List.length p : Nat) : Int)) = true := by simp
      simp only [laws_szWetS_b0, if_neg c1]
    obtain ⟨o, e, ho⟩ := loop_sz (k := k) (m0 := m - ((List.length p : Nat) : Int)) (by omega) hk (by omega) (by omega) key1 key2
    rw [e, Option.bind_some]
    rcases ho with rfl | ⟨r, rfl, r0, r1, hall⟩
    · exact ⟨-1, rfl, by omega, by omega, fun h => by omega⟩
    · exact ⟨r, rfl, by omega, by omega, fun _ => ⟨by omega, hall⟩⟩
theorem sz_Disk {k : Nat} (hk : Big k) (p : TDisk) (w : wfTDisk p) {m : Int} (h0 : 0 ≤ m) (h1 : m ≤ 1048576) : ∃ r, laws_szDisk k p m = some r ∧ r ≤ m ∧ -1 ≤ r ∧ (0 ≤ r → (smTDisk 1048576) p) := by
  rw [laws_szDisk]
  obtain ⟨r0, e0, l0, g0, s0⟩ := sz_CellS (m := m) hk _ (w.1) h0 h1
  rw [e0, Option.bind_some]
  by_cases z0 : r0 < 0
  · exact ⟨-1, by simp [z0], by omega, by omega, fun h => by omega⟩
  rw [if_neg (by simpa using z0)]
  obtain ⟨r1, e1, l1, g1, s1⟩ := sz_WetS (m := r0) hk _ (w.2.1) (by omega) (by omega)
  rw [e1, Option.bind_some]
  by_cases z1 : r1 < 0
  · exact ⟨-1, by simp [z1], by omega, by omega, fun h => by omega⟩
  rw [if_neg (by simpa using z1)]
  exact ⟨_, rfl, by omega, by omega, fun _ => ⟨s0 (by omega), s1 (by omega), trivial, trivial⟩⟩
def mk_Byte (x : Int) (m : Int) : Int := (IntKind.u8.wrap m)
def cn_Byte (x : Int) : Nat := 1
theorem bd_ByteS {N : Nat} (hN : N ≤ 1114112) (p : (List Int)) (h : (smL N (smT N)) p) : sumL cn_Byte p ≤ 1114112 := by
  have h1 : sumL cn_Byte p ≤ p.length * 1 := sumL_le fun y hy => by
    exact Nat.le_refl _
  have h2 : p.length * 1 ≤ 1114112 * 1 := Nat.mul_le_mul_right _ (Nat.le_trans h.1 hN)
  omega
theorem mark_ByteS {k : Nat} (hk : Big k) {N : Nat} (hN : N ≤ 1114112) (p : (List Int)) (h : (smL N (smT N)) p) {m : Int} (h0 : 0 ≤ m) (h1 : m + (sumL cn_Byte p : Nat) ≤ 9223372036854775807) : laws_markByteS k p m = some (m + (sumL cn_Byte p : Nat), markL mk_Byte cn_Byte p m) := by
  have hb := bd_ByteS hN p h
  have hn : p.length ≤ 1114112 := Nat.le_trans h.1 hN
  rw [laws_markByteS, loop_mark (F := mk_Byte) (c := cn_Byte) (by omega) hk h0 h1]
  · rfl
  · intro l i hi q hl hg q0 q1
    have hc0 : ((cn_Byte p[i] : Nat) : Int) = 1 := rfl
    have hgt := gt_eq_of hg
    have hi2 : (i : Int) < (p.length : Int) := by omega
    have hi0 : (0 : Int) ≤ (i : Int) := by omega
    have hil : i < l.length := by omega
    simp (disch := omega) only [laws_markByteS_b0, hl, hi2, hi0, hgt, hil, decide_true, if_true, and_self, Option.bind_some, Int.toNat_natCast, List.length_set, gt_set_self, List.set_set, w64, Int.add_assoc, Int.reduceAdd, markL_length]
    try simp only [mk_Byte, cn_Byte]
    try rfl
    try (congr 3; omega)
  · intro l q hl
    simp only [laws_markByteS_b0, hl, Int.lt_irrefl, decide_false, Bool.false_eq_true, if_false]
def mk_Cell (x : TCell) (m : Int) : TCell := (⟨(decide (Int.tmod m 3 = 0)), (markL mk_Byte cn_Byte x.B (m + 1))⟩ : TCell)
def cn_Cell (x : TCell) : Nat := 1 + sumL cn_Byte x.B
theorem bd_CellS {N : Nat} (hN : N ≤ 1114112) (p : (List TCell)) (h : (smL N (smTCell N)) p) : sumL cn_Cell p ≤ 1241246662656 := by
  have h1 : sumL cn_Cell p ≤ p.length * 1114113 := sumL_le fun y hy => by
    have := bd_ByteS hN y.B ((h.2 y hy).2)
    simp only [cn_Cell]; omega
  have h2 : p.length * 1114113 ≤ 1114112 * 1114113 := Nat.mul_le_mul_right _ (Nat.le_trans h.1 hN)
  omega
theorem mark_CellS {k : Nat} (hk : Big k) {N : Nat} (hN : N ≤ 1114112) (p : (List TCell)) (h : (smL N (smTCell N)) p) {m : Int} (h0 : 0 ≤ m) (h1 : m + (sumL cn_Cell p : Nat) ≤ 9223372036854775807) : laws_markCellS k p m = some (m + (sumL cn_Cell p : Nat), markL mk_Cell cn_Cell p m) := by
  have hb := bd_CellS hN p h
  have hn : p.length ≤ 1114112 := Nat.le_trans h.1 hN
  rw [laws_markCellS, loop_mark (F := mk_Cell) (c := cn_Cell) (by omega) hk h0 h1]
  · rfl
  · intro l i hi q hl hg q0 q1
    have hc : cn_Cell p[i] = 1 + sumL cn_Byte p[i].B := rfl
    have hgt := gt_eq_of hg
    have hi2 : (i : Int) < (p.length : Int) := by omega
    have hi0 : (0 : Int) ≤ (i : Int) := by omega
    have hil : i < l.length := by omega
    simp (disch := omega) only [laws_markCellS_b0, hl, hi2, hi0, hgt, hil, decide_true, if_true, and_self, Option.bind_some, Int.toNat_natCast, List.length_set, gt_set_self, List.set_set, w64, Int.add_assoc, Int.reduceAdd, mark_ByteS hk hN p[i].B ((h.2 p[i] (List.getElem_mem hi)).2) (m := (q + 1)) (by omega) (by omega), markL_length]
    try simp only [mk_Cell, cn_Cell]
    try rfl
    try (congr 3; omega)
  · intro l q hl
    simp only [laws_markCellS_b0, hl, Int.lt_irrefl, decide_false, Bool.false_eq_true, if_false]
def mk_Wet (x : TWet) (m : Int) : TWet := (⟨m, (markL mk_Byte cn_Byte x.B (m + 1))⟩ : TWet)
def cn_Wet (x : TWet) : Nat := 1 + sumL cn_Byte x.B
theorem bd_WetS {N : Nat} (hN : N ≤ 1114112) (p : (List TWet)) (h : (smL N (smTWet N)) p) : sumL cn_Wet p ≤ 1241246662656 := by
  have h1 : sumL cn_Wet p ≤ p.length * 1114113 := sumL_le fun y hy => by
    have := bd_ByteS hN y.B ((h.2 y hy).2)
    simp only [cn_Wet]; omega
  have h2 : p.length * 1114113 ≤ 1114112 * 1114113 := Nat.mul_le_mul_right _ (Nat.le_trans h.1 hN)
  omega
theorem mark_WetS {k : Nat} (hk : Big k) {N : Nat} (hN : N ≤ 1114112) (p : (List TWet)) (h : (smL N (smTWet N)) p) {m : Int} (h0 : 0 ≤ m) (h1 : m + (sumL cn_Wet p : Nat) ≤ 9223372036854775807) : laws_markWetS k p m = some (m + (sumL cn_Wet p : Nat), markL mk_Wet cn_Wet p m) := by
  have hb := bd_WetS hN p h
  have hn : p.length ≤ 1114112 := Nat.le_trans h.1 hN
  rw [laws_markWetS, loop_mark (F := mk_Wet) (c := cn_Wet) (by omega) hk h0 h1]
  · rfl
  · intro l i hi q hl hg q0 q1
    have hc : cn_Wet p[i] = 1 + sumL cn_Byte p[i].B := rfl
    have hgt := gt_eq_of hg
    have hi2 : (i : Int) < (p.length : Int) := by omega
    have hi0 : (0 : Int) ≤ (i : Int) := by omega
    have hil : i < l.length := by omega
    simp (disch := omega) only [laws_markWetS_b0, hl, hi2, hi0, hgt, hil, decide_true, if_true, and_self, Option.bind_some, Int.toNat_natCast, List.length_set, gt_set_self, List.set_set, w64, Int.add_assoc, Int.reduceAdd, mark_ByteS hk hN p[i].B ((h.2 p[i] (List.getElem_mem hi)).2) (m := (q + 1)) (by omega) (by omega), markL_length]
    try simp only [mk_Wet, cn_Wet]
    try rfl
    try (congr 3; omega)
  · intro l q hl
    simp only [laws_markWetS_b0, hl, Int.lt_irrefl, decide_false, Bool.false_eq_true, if_false]
theorem mark_Disk {k : Nat} (hk : Big k) {N : Nat} (hN : N ≤ 1114112) (p : TDisk) (h : (smTDisk N) p) {m : Int} (h0 : 0 ≤ m) (h1 : m ≤ 1000000000000000000) : laws_markDisk k p m = some (m + (sumL cn_Cell p.Cells : Nat) + (sumL cn_Wet p.Wet : Nat), markL mk_Cell cn_Cell p.Cells m, markL mk_Wet cn_Wet p.Wet (m + (sumL cn_Cell p.Cells : Nat))) := by
  have b0 := bd_CellS hN p.Cells (h.1)
  have b1 := bd_WetS hN p.Wet (h.2.1)
  simp only [laws_markDisk]
  rw [mark_CellS hk hN p.Cells (h.1) (m := m) (by omega) (by omega)]
  simp only [Option.bind_some, markL_length, if_true]
  rw [mark_WetS hk hN p.Wet (h.2.1) (m := m + (sumL cn_Cell p.Cells : Nat)) (by omega) (by omega)]
  simp only [Option.bind_some, markL_length, if_true]
  try rfl
def mk_Entry (x : TEntry) (m : Int) : TEntry := (⟨m, (⟨(m + 1), (m + 2), (m + 3), (m + 4)⟩ : TBox)⟩ : TEntry)
def cn_Entry (x : TEntry) : Nat := 5
theorem bd_EntryS {N : Nat} (hN : N ≤ 1114112) (p : (List TEntry)) (h : (smL N (smTEntry N)) p) : sumL cn_Entry p ≤ 5570560 := by
  have h1 : sumL cn_Entry p ≤ p.length * 5 := sumL_le fun y hy => by
    exact Nat.le_refl _
  have h2 : p.length * 5 ≤ 1114112 * 5 := Nat.mul_le_mul_right _ (Nat.le_trans h.1 hN)
  omega
theorem mark_EntryS {k : Nat} (hk : Big k) {N : Nat} (hN : N ≤ 1114112) (p : (List TEntry)) (h : (smL N (smTEntry N)) p) {m : Int} (h0 : 0 ≤ m) (h1 : m + (sumL cn_Entry p : Nat) ≤ 9223372036854775807) : laws_markEntryS k p m = some (m + (sumL cn_Entry p : Nat), markL mk_Entry cn_Entry p m) := by
  have hb := bd_EntryS hN p h
  have hn : p.length ≤ 1114112 := Nat.le_trans h.1 hN
  rw [laws_markEntryS, loop_mark (F := mk_Entry) (c := cn_Entry) (by omega) hk h0 h1]
  · rfl
  · intro l i hi q hl hg q0 q1
    have hc0 : ((cn_Entry p[i] : Nat) : Int) = 5 := rfl
    have hgt := gt_eq_of hg
    have hi2 : (i : Int) < (p.length : Int) := by omega
    have hi0 : (0 : Int) ≤ (i : Int) := by omega
    have hil : i < l.length := by omega
    simp (disch := omega) only [laws_markEntryS_b0, hl, hi2, hi0, hgt, hil, decide_true, if_true, and_self, Option.bind_some, Int.toNat_natCast, List.length_set, gt_set_self, List.set_set, w64, Int.add_assoc, Int.reduceAdd, markL_length]
    try simp only [mk_Entry, cn_Entry]
    try rfl
    try (congr 3; omega)
  · intro l q hl
    simp only [laws_markEntryS_b0, hl, Int.lt_irrefl, decide_false, Bool.false_eq_true, if_false]
theorem held_EntryS {k : Nat} (hk : Big k) {N : Nat} (hN : N ≤ 1114112) (p : (List TEntry)) (h : (smL N (smTEntry N)) p) {m : Int} (h0 : 0 ≤ m) (h1 : m + (sumL cn_Entry p : Nat) ≤ 9223372036854775807) : laws_heldEntryS k (markL mk_Entry cn_Entry p m) m = some (m + (sumL cn_Entry p : Nat)) := by
  have hb := bd_EntryS hN p h
  have hn : p.length ≤ 1114112 := Nat.le_trans h.1 hN
  rw [laws_heldEntryS, loop_held (F := mk_Entry) (c := cn_Entry) (p := p) (by omega) hk h0 h1]
  · rfl
  · intro i hi q hg q0 q1
    have hc0 : ((cn_Entry p[i] : Nat) : Int) = 5 := rfl
    have hgt := gt_eq_of hg
    have hi2 : (i : Int) < (p.length : Int) := by omega
    have hi0 : (0 : Int) ≤ (i : Int) := by omega
    have hng : ∀ z : Int, 0 ≤ z → decide (z < 0) = false := fun z hz => by simp; omega
    simp (disch := omega) only [laws_heldEntryS_b0, markL_length, hi2, hi0, hgt, decide_true, if_true, and_self, Option.bind_some, w64, Int.add_assoc, Int.reduceAdd, mk_Entry, Bool.not_true, Bool.false_eq_true, if_false, beq_self_eq_true, hng]
    try rfl
    try (congr 3; omega)
  · intro q
    simp only [laws_heldEntryS_b0, markL_length, Int.lt_irrefl, decide_false, Bool.false_eq_true, if_false]
def mk_Change (x : TChange) (m : Int) : TChange := (⟨m, (⟨(decide (Int.tmod (m + 1) 3 = 0)), (markL mk_Entry cn_Entry x.N.L (m + 2))⟩ : TNode)⟩ : TChange)
def cn_Change (x : TChange) : Nat := 2 + sumL cn_Entry x.N.L
theorem bd_ChangeS {N : Nat} (hN : N ≤ 1114112) (p : (List TChange)) (h : (smL N (smTChange N)) p) : sumL cn_Change p ≤ 6206229970944 := by
  have h1 : sumL cn_Change p ≤ p.length * 5570562 := sumL_le fun y hy => by
    have := bd_EntryS hN y.N.L ((h.2 y hy).2.2)
    simp only [cn_Change]; omega
  have h2 : p.length * 5570562 ≤ 1114112 * 5570562 := Nat.mul_le_mul_right _ (Nat.le_trans h.1 hN)
  omega
theorem mark_ChangeS {k : Nat} (hk : Big k) {N : Nat} (hN : N ≤ 1114112) (p : (List TChange)) (h : (smL N (smTChange N)) p) {m : Int} (h0 : 0 ≤ m) (h1 : m + (sumL cn_Change p : Nat) ≤ 9223372036854775807) : laws_markChangeS k p m = some (m + (sumL cn_Change p : Nat), markL mk_Change cn_Change p m) := by
  have hb := bd_ChangeS hN p h
  have hn : p.length ≤ 1114112 := Nat.le_trans h.1 hN
  rw [laws_markChangeS, loop_mark (F := mk_Change) (c := cn_Change) (by omega) hk h0 h1]
  · rfl
  · intro l i hi q hl hg q0 q1
    have hc : cn_Change p[i] = 2 + sumL cn_Entry p[i].N.L := rfl
    have hgt := gt_eq_of hg
    have hi2 : (i : Int) < (p.length : Int) := by omega
    have hi0 : (0 : Int) ≤ (i : Int) := by omega
    have hil : i < l.length := by omega
    simp (disch := omega) only [laws_markChangeS_b0, hl, hi2, hi0, hgt, hil, decide_true, if_true, and_self, Option.bind_some, Int.toNat_natCast, List.length_set, gt_set_self, List.set_set, w64, Int.add_assoc, Int.reduceAdd, mark_EntryS hk hN p[i].N.L ((h.2 p[i] (List.getElem_mem hi)).2.2) (m := (q + 2)) (by omega) (by omega), markL_length]
    try simp only [mk_Change, cn_Change]
    try rfl
    try (congr 3; omega)
  · intro l q hl
    simp only [laws_markChangeS_b0, hl, Int.lt_irrefl, decide_false, Bool.false_eq_true, if_false]
theorem held_ChangeS {k : Nat} (hk : Big k) {N : Nat} (hN : N ≤ 1114112) (p : (List TChange)) (h : (smL N (smTChange N)) p) {m : Int} (h0 : 0 ≤ m) (h1 : m + (sumL cn_Change p : Nat) ≤ 9223372036854775807) : laws_heldChangeS k (markL mk_Change cn_Change p m) m = some (m + (sumL cn_Change p : Nat)) := by
  have hb := bd_ChangeS hN p h
  have hn : p.length ≤ 1114112 := Nat.le_trans h.1 hN
  rw [laws_heldChangeS, loop_held (F := mk_Change) (c := cn_Change) (p := p) (by omega) hk h0 h1]
  · rfl
  · intro i hi q hg q0 q1
    have hc : cn_Change p[i] = 2 + sumL cn_Entry p[i].N.L := rfl
    have hgt := gt_eq_of hg
    have hi2 : (i : Int) < (p.length : Int) := by omega
    have hi0 : (0 : Int) ≤ (i : Int) := by omega
    have hng : ∀ z : Int, 0 ≤ z → decide (z < 0) = false := fun z hz => by simp; omega
    simp (disch := omega) only [laws_heldChangeS_b0, markL_length, hi2, hi0, hgt, decide_true, if_true, and_self, Option.bind_some, w64, Int.add_assoc, Int.reduceAdd, held_EntryS hk hN p[i].N.L ((h.2 p[i] (List.getElem_mem hi)).2.2) (m := (q + 2)) (by omega) (by omega), mk_Change, Bool.not_true, Bool.false_eq_true, if_false, beq_self_eq_true, hng]
    try rfl
    try (congr 3; omega)
  · intro q
    simp only [laws_heldChangeS_b0, markL_length, Int.lt_irrefl, decide_false, Bool.false_eq_true, if_false]
def mk_Tx (x : TTx) (m : Int) : TTx := (⟨m, (m + 1), (m + 2), (markL mk_Change cn_Change x.Puts (m + 3))⟩ : TTx)
def cn_Tx (x : TTx) : Nat := 3 + sumL cn_Change x.Puts
theorem bd_TxS {N : Nat} (hN : N ≤ 1114112) (p : (List TTx)) (h : (smL N (smTTx N)) p) : sumL cn_Tx p ≤ 6914435285391704064 := by
  have h1 : sumL cn_Tx p ≤ p.length * 6206229970947 := sumL_le fun y hy => by
    have := bd_ChangeS hN y.Puts ((h.2 y hy).2.2.2)
    simp only [cn_Tx]; omega
  have h2 : p.length * 6206229970947 ≤ 1114112 * 6206229970947 := Nat.mul_le_mul_right _ (Nat.le_trans h.1 hN)
  omega
theorem mark_TxS {k : Nat} (hk : Big k) {N : Nat} (hN : N ≤ 1114112) (p : (List TTx)) (h : (smL N (smTTx N)) p) {m : Int} (h0 : 0 ≤ m) (h1 : m + (sumL cn_Tx p : Nat) ≤ 9223372036854775807) : laws_markTxS k p m = some (m + (sumL cn_Tx p : Nat), markL mk_Tx cn_Tx p m) := by
  have hb := bd_TxS hN p h
  have hn : p.length ≤ 1114112 := Nat.le_trans h.1 hN
  rw [laws_markTxS, loop_mark (F := mk_Tx) (c := cn_Tx) (by omega) hk h0 h1]
  · rfl
  · intro l i hi q hl hg q0 q1
    have hc : cn_Tx p[i] = 3 + sumL cn_Change p[i].Puts := rfl
    have hgt := gt_eq_of hg
    have hi2 : (i : Int) < (p.length : Int) := by omega
    have hi0 : (0 : Int) ≤ (i : Int) := by omega
    have hil : i < l.length := by omega
    simp (disch := omega) only [laws_markTxS_b0, hl, hi2, hi0, hgt, hil, decide_true, if_true, and_self, Option.bind_some, Int.toNat_natCast, List.length_set, gt_set_self, List.set_set, w64, Int.add_assoc, Int.reduceAdd, mark_ChangeS hk hN p[i].Puts ((h.2 p[i] (List.getElem_mem hi)).2.2.2) (m := (q + 3)) (by omega) (by omega), markL_length]
    try simp only [mk_Tx, cn_Tx]
    try rfl
    try (congr 3; omega)
  · intro l q hl
    simp only [laws_markTxS_b0, hl, Int.lt_irrefl, decide_false, Bool.false_eq_true, if_false]
theorem held_TxS {k : Nat} (hk : Big k) {N : Nat} (hN : N ≤ 1114112) (p : (List TTx)) (h : (smL N (smTTx N)) p) {m : Int} (h0 : 0 ≤ m) (h1 : m + (sumL cn_Tx p : Nat) ≤ 9223372036854775807) : laws_heldTxS k (markL mk_Tx cn_Tx p m) m = some (m + (sumL cn_Tx p : Nat)) := by
  have hb := bd_TxS hN p h
  have hn : p.length ≤ 1114112 := Nat.le_trans h.1 hN
  rw [laws_heldTxS, loop_held (F := mk_Tx) (c := cn_Tx) (p := p) (by omega) hk h0 h1]
  · rfl
  · intro i hi q hg q0 q1
    have hc : cn_Tx p[i] = 3 + sumL cn_Change p[i].Puts := rfl
    have hgt := gt_eq_of hg
    have hi2 : (i : Int) < (p.length : Int) := by omega
    have hi0 : (0 : Int) ≤ (i : Int) := by omega
    have hng : ∀ z : Int, 0 ≤ z → decide (z < 0) = false := fun z hz => by simp; omega
    simp (disch := omega) only [laws_heldTxS_b0, markL_length, hi2, hi0, hgt, decide_true, if_true, and_self, Option.bind_some, w64, Int.add_assoc, Int.reduceAdd, held_ChangeS hk hN p[i].Puts ((h.2 p[i] (List.getElem_mem hi)).2.2.2) (m := (q + 3)) (by omega) (by omega), mk_Tx, Bool.not_true, Bool.false_eq_true, if_false, beq_self_eq_true, hng]
    try rfl
    try (congr 3; omega)
  · intro q
    simp only [laws_heldTxS_b0, markL_length, Int.lt_irrefl, decide_false, Bool.false_eq_true, if_false]
end Go.Proofs.Sx
