/- Plain facts about the functions that copy, compare and measure. -/
import Derived.Test.YtgfhnepkpbmbcaaGD
namespace Go.Proofs.Sx
open Go.RowKit
set_option linter.unusedVariables false
set_option linter.unusedSimpArgs false
theorem to_ByteS {k : Nat} (hk : Big k) {N : Nat} (hN : N ≤ 1114112) (p : (List Int)) (h : (smL N (smT N)) p) : laws_toByteS k p = some p := by
  rw [laws_toByteS]
  have hl := h.1
  rw [if_pos ⟨by omega, okLen_iff.2 (by simp; omega)⟩, Int.toNat_natCast]
  rw [loop_fill (f := id) (p := p) (by simp) (by omega) hk]
  · simp
  · intro l i hi hl2
    have c1 : decide ((i : Int) < ((List.length p : Nat) : Int)) = true := by simp; omega
    have c2 : (0 : Int) ≤ (i : Int) ∧ (i : Int) < ((List.length p : Nat) : Int) := by omega
    have c3 : (0 : Int) ≤ (i : Int) ∧ (i : Int) < ((List.length l : Nat) : Int) := by omega
    simp only [laws_toByteS_b0, if_pos c1, if_pos c2, if_pos c3, gt_nat hi, Int.toNat_natCast, id, w64s (n := i) (by omega), some_bind]
  · intro l
    have c1 : ¬ decide (((List.length p : Nat) : Int) < ((List.length p : Nat) : Int)) = true := by simp
    simp only [laws_toByteS_b0, if_neg c1]
def smTBox (N : Nat) (x : TBox) : Prop := (smT N) x.X0 ∧ (smT N) x.Y0 ∧ (smT N) x.X1 ∧ (smT N) x.Y1
theorem eq_Box {k : Nat} (hk : Big k) {N : Nat} (hN : N ≤ 1114112) (p q : TBox) (h : (smTBox N) p) : laws_eqBox p q = some (decide (p = q)) := by
  obtain ⟨p0, p1, p2, p3⟩ := p
  obtain ⟨q0, q1, q2, q3⟩ := q
  simp only [laws_eqBox, Option.bind_some, TBox.mk.injEq]
  repeat' split
  all_goals (try simp_all)
def smTEntry (N : Nat) (x : TEntry) : Prop := (smT N) x.N ∧ (smTBox N) x.R
theorem eq_Entry {k : Nat} (hk : Big k) {N : Nat} (hN : N ≤ 1114112) (p q : TEntry) (h : (smTEntry N) p) : laws_eqEntry p q = some (decide (p = q)) := by
  obtain ⟨p0, p1⟩ := p
  obtain ⟨q0, q1⟩ := q
  simp only [laws_eqEntry, eq_Box hk hN _ _ (h.2), Option.bind_some, TEntry.mk.injEq]
  repeat' split
  all_goals (try simp_all)
theorem eq_EntryS {k : Nat} (hk : Big k) {N : Nat} (hN : N ≤ 1114112) (p q : (List TEntry)) (h : (smL N (smTEntry N)) p) : laws_eqEntryS k p q = some (decide (p = q)) := by
  rw [laws_eqEntryS]
  have hl := h.1
  by_cases he : p.length = q.length
  · rw [if_neg (by simp [he])]
    rw [loop_all (c := fun i => decide (p[i]? = q[i]?)) (n := p.length) (r := false) (by omega) hk]
    · by_cases hpq : p = q
      · subst hpq; simp
      · rw [if_neg, decide_eq_false hpq]
        · rfl
        · intro hh
          exact hpq (List.ext_getElem? fun i => by
            by_cases hi : i < p.length
            · simpa using hh i hi
            · rw [List.getElem?_eq_none (by omega), List.getElem?_eq_none (by omega)])
    · intro i hi
      have c1 : decide ((i : Int) < ((List.length p : Nat) : Int)) = true := by simp; omega
      have c2 : (0 : Int) ≤ (i : Int) ∧ (i : Int) < ((List.length p : Nat) : Int) := by omega
      have c3 : (0 : Int) ≤ (i : Int) ∧ (i : Int) < ((List.length q : Nat) : Int) := by omega
      have hq : i < q.length := by omega
      simp only [laws_eqEntryS_b0, if_pos c1, if_pos c2, if_pos c3, gt_nat hi, gt_nat hq, eq_Entry hk hN _ _ (h.2 _ (List.getElem_mem hi)), Option.bind_some, w64s (n := i) (by omega), List.getElem?_eq_getElem hi, List.getElem?_eq_getElem hq, Option.some.injEq]
      by_cases hv : p[i] = q[i] <;> simp [hv]
    · have c1 : ¬ decide (((List.length p : Nat) : Int) < ((List.length p : Nat) : Int)) = true := by simp
      simp only [laws_eqEntryS_b0, if_neg c1]
  · rw [if_pos (by simp; omega), decide_eq_false]
    rintro rfl; exact he rfl
def smTNode (N : Nat) (x : TNode) : Prop := (smT N) x.Leaf ∧ (smL N (smTEntry N)) x.L
theorem eq_Node {k : Nat} (hk : Big k) {N : Nat} (hN : N ≤ 1114112) (p q : TNode) (h : (smTNode N) p) : laws_eqNode k p q = some (decide (p = q)) := by
  obtain ⟨p0, p1⟩ := p
  obtain ⟨q0, q1⟩ := q
  simp only [laws_eqNode, eq_EntryS hk hN _ _ (h.2), Option.bind_some, TNode.mk.injEq]
  repeat' split
  all_goals (try simp_all)
def smTChange (N : Nat) (x : TChange) : Prop := (smT N) x.Page ∧ (smTNode N) x.N
theorem eq_Change {k : Nat} (hk : Big k) {N : Nat} (hN : N ≤ 1114112) (p q : TChange) (h : (smTChange N) p) : laws_eqChange k p q = some (decide (p = q)) := by
  obtain ⟨p0, p1⟩ := p
  obtain ⟨q0, q1⟩ := q
  simp only [laws_eqChange, eq_Node hk hN _ _ (h.2), Option.bind_some, TChange.mk.injEq]
  repeat' split
  all_goals (try simp_all)
theorem eq_ByteS {k : Nat} (hk : Big k) {N : Nat} (hN : N ≤ 1114112) (p q : (List Int)) (h : (smL N (smT N)) p) : laws_eqByteS k p q = some (decide (p = q)) := by
  rw [laws_eqByteS]
  have hl := h.1
  by_cases he : p.length = q.length
  · rw [if_neg (by simp [he])]
    rw [loop_all (c := fun i => decide (p[i]? = q[i]?)) (n := p.length) (r := false) (by omega) hk]
    · by_cases hpq : p = q
      · subst hpq; simp
      · rw [if_neg, decide_eq_false hpq]
        · rfl
        · intro hh
          exact hpq (List.ext_getElem? fun i => by
            by_cases hi : i < p.length
            · simpa using hh i hi
            · rw [List.getElem?_eq_none (by omega), List.getElem?_eq_none (by omega)])
    · intro i hi
      have c1 : decide ((i : Int) < ((List.length p : Nat) : Int)) = true := by simp; omega
      have c2 : (0 : Int) ≤ (i : Int) ∧ (i : Int) < ((List.length p : Nat) : Int) := by omega
      have c3 : (0 : Int) ≤ (i : Int) ∧ (i : Int) < ((List.length q : Nat) : Int) := by omega
      have hq : i < q.length := by omega
      simp only [laws_eqByteS_b0, if_pos c1, if_pos c2, if_pos c3, gt_nat hi, gt_nat hq, w64s (n := i) (by omega), List.getElem?_eq_getElem hi, List.getElem?_eq_getElem hq, Option.some.injEq]
      by_cases hv : p[i] = q[i] <;> simp [hv]
    · have c1 : ¬ decide (((List.length p : Nat) : Int) < ((List.length p : Nat) : Int)) = true := by simp
      simp only [laws_eqByteS_b0, if_neg c1]
  · rw [if_pos (by simp; omega), decide_eq_false]
    rintro rfl; exact he rfl
def mk_Byte (x : Int) (m : Int) : Int := (IntKind.u8.wrap m)
def cn_Byte (x : Int) : Nat := 1
theorem bd_ByteS {N : Nat} (hN : N ≤ 1114112) (p : (List Int)) (h : (smL N (smT N)) p) : sumL cn_Byte p ≤ 1114112 := by
  have h1 : sumL cn_Byte p ≤ p.length * 1 := sumL_le fun y hy => by
    exact Nat.le_refl _
  have h2 : p.length * 1 ≤ 1114112 * 1 := Nat.mul_le_mul_right _ (Nat.le_trans h.1 hN)
  omega
theorem mark_ByteS {k : Nat} (hk : Big k) {N : Nat} (hN : N ≤ 1114112) (p : (List Int)) (h : (smL N (smT N)) p) {m : Int} (h0 : 0 ≤ m) (h1 : m + (sumL cn_Byte p : Nat) ≤ 9223372036854775807) : laws_markByteS k p m = some (m + (sumL cn_Byte p : Nat), markL mk_Byte cn_Byte p m) := by
  have hb := bd_ByteS hN p h
  have hn : p.length ≤ 1114112 := Nat.le_trans h.1 hN
  rw [laws_markByteS, loop_mark (F := mk_Byte) (c := cn_Byte) (by omega) hk h0 h1]
  · rfl
  · intro l i hi q hl hg q0 q1
    have hc0 : ((cn_Byte p[i] : Nat) : Int) = 1 := rfl
    have hgt := gt_eq_of hg
    have hi2 : (i : Int) < (p.length : Int) := by omega
    have hi0 : (0 : Int) ≤ (i : Int) := by omega
    have hil : i < l.length := by omega
    simp (disch := omega) only [laws_markByteS_b0, hl, hi2, hi0, hgt, hil, decide_true, if_true, and_self, Option.bind_some, Int.toNat_natCast, List.length_set, gt_set_self, List.set_set, w64, Int.add_assoc, Int.reduceAdd, markL_length]
    try simp only [mk_Byte, cn_Byte]
    try rfl
    try (congr 3; omega)
  · intro l q hl
    simp only [laws_markByteS_b0, hl, Int.lt_irrefl, decide_false, Bool.false_eq_true, if_false]
def mk_Entry (x : TEntry) (m : Int) : TEntry := (⟨m, (⟨(m + 1), (m + 2), (m + 3), (m + 4)⟩ : TBox)⟩ : TEntry)
def cn_Entry (x : TEntry) : Nat := 5
theorem bd_EntryS {N : Nat} (hN : N ≤ 1114112) (p : (List TEntry)) (h : (smL N (smTEntry N)) p) : sumL cn_Entry p ≤ 5570560 := by
  have h1 : sumL cn_Entry p ≤ p.length * 5 := sumL_le fun y hy => by
    exact Nat.le_refl _
  have h2 : p.length * 5 ≤ 1114112 * 5 := Nat.mul_le_mul_right _ (Nat.le_trans h.1 hN)
  omega
theorem mark_EntryS {k : Nat} (hk : Big k) {N : Nat} (hN : N ≤ 1114112) (p : (List TEntry)) (h : (smL N (smTEntry N)) p) {m : Int} (h0 : 0 ≤ m) (h1 : m + (sumL cn_Entry p : Nat) ≤ 9223372036854775807) : laws_markEntryS k p m = some (m + (sumL cn_Entry p : Nat), markL mk_Entry cn_Entry p m) := by
  have hb := bd_EntryS hN p h
  have hn : p.length ≤ 1114112 := Nat.le_trans h.1 hN
  rw [laws_markEntryS, loop_mark (F := mk_Entry) (c := cn_Entry) (by omega) hk h0 h1]
  · rfl
  · intro l i hi q hl hg q0 q1
    have hc0 : ((cn_Entry p[i] : Nat) : Int) = 5 := rfl
    have hgt := gt_eq_of hg
    have hi2 : (i : Int) < (p.length : Int) := by omega
    have hi0 : (0 : Int) ≤ (i : Int) := by omega
    have hil : i < l.length := by omega
    simp (disch := omega) only [laws_markEntryS_b0, hl, hi2, hi0, hgt, hil, decide_true, if_true, and_self, Option.bind_some, Int.toNat_natCast, List.length_set, gt_set_self, List.set_set, w64, Int.add_assoc, Int.reduceAdd, markL_length]
    try simp only [mk_Entry, cn_Entry]
    try rfl
    try (congr 3; omega)
  · intro l q hl
    simp only [laws_markEntryS_b0, hl, Int.lt_irrefl, decide_false, Bool.false_eq_true, if_false]
theorem held_EntryS {k : Nat} (hk : Big k) {N : Nat} (hN : N ≤ 1114112) (p : (List TEntry)) (h : (smL N (smTEntry N)) p) {m : Int} (h0 : 0 ≤ m) (h1 : m + (sumL cn_Entry p : Nat) ≤ 9223372036854775807) : laws_heldEntryS k (markL mk_Entry cn_Entry p m) m = some (m + (sumL cn_Entry p : Nat)) := by
  have hb := bd_EntryS hN p h
  have hn : p.length ≤ 1114112 := Nat.le_trans h.1 hN
  rw [laws_heldEntryS, loop_held (F := mk_Entry) (c := cn_Entry) (p := p) (by omega) hk h0 h1]
  · rfl
  · intro i hi q hg q0 q1
    have hc0 : ((cn_Entry p[i] : Nat) : Int) = 5 := rfl
    have hgt := gt_eq_of hg
    have hi2 : (i : Int) < (p.length : Int) := by omega
    have hi0 : (0 : Int) ≤ (i : Int) := by omega
    have hng : ∀ z : Int, 0 ≤ z → decide (z < 0) = false := fun z hz => by simp; omega
    simp (disch := omega) only [laws_heldEntryS_b0, markL_length, hi2, hi0, hgt, decide_true, if_true, and_self, Option.bind_some, w64, Int.add_assoc, Int.reduceAdd, mk_Entry, Bool.not_true, Bool.false_eq_true, if_false, beq_self_eq_true, hng]
    try rfl
    try (congr 3; omega)
  · intro q
    simp only [laws_heldEntryS_b0, markL_length, Int.lt_irrefl, decide_false, Bool.false_eq_true, if_false]
theorem mark_Node {k : Nat} (hk : Big k) {N : Nat} (hN : N ≤ 1114112) (p : TNode) (h : (smTNode N) p) {m : Int} (h0 : 0 ≤ m) (h1 : m ≤ 1000000000000000000) : laws_markNode k p m = some (m + (sumL cn_Entry p.L : Nat), markL mk_Entry cn_Entry p.L m) := by
  have b1 := bd_EntryS hN p.L (h.2)
  simp only [laws_markNode]
  rw [mark_EntryS hk hN p.L (h.2) (m := m) (by omega) (by omega)]
  simp only [Option.bind_some, markL_length, if_true]
  try rfl
theorem held_Node {k : Nat} (hk : Big k) {N : Nat} (hN : N ≤ 1114112) (p : TNode) (h : (smTNode N) p) {m : Int} (h0 : 0 ≤ m) (h1 : m ≤ 1000000000000000000) : laws_heldNode k (⟨p.Leaf, (markL mk_Entry cn_Entry p.L m)⟩ : TNode) m = some (m + (sumL cn_Entry p.L : Nat)) := by
  have b1 := bd_EntryS hN p.L (h.2)
  simp only [laws_heldNode]
  rw [held_EntryS hk hN p.L (h.2) (m := m) (by omega) (by omega)]
  simp only [Option.bind_some]
  repeat (rw [if_neg (by simp; omega)]; try simp only [Option.bind_some])
  try rfl
theorem mark_Change {k : Nat} (hk : Big k) {N : Nat} (hN : N ≤ 1114112) (p : TChange) (h : (smTChange N) p) {m : Int} (h0 : 0 ≤ m) (h1 : m ≤ 1000000000000000000) : laws_markChange k p m = some (m + (sumL cn_Entry p.N.L : Nat), markL mk_Entry cn_Entry p.N.L m) := by
  have b2 := bd_EntryS hN p.N.L (h.2.2)
  simp only [laws_markChange, laws_markNode]
  rw [mark_EntryS hk hN p.N.L (h.2.2) (m := m) (by omega) (by omega)]
  simp only [Option.bind_some, markL_length, if_true]
  try rfl
theorem held_Change {k : Nat} (hk : Big k) {N : Nat} (hN : N ≤ 1114112) (p : TChange) (h : (smTChange N) p) {m : Int} (h0 : 0 ≤ m) (h1 : m ≤ 1000000000000000000) : laws_heldChange k (⟨p.Page, (⟨p.N.Leaf, (markL mk_Entry cn_Entry p.N.L m)⟩ : TNode)⟩ : TChange) m = some (m + (sumL cn_Entry p.N.L : Nat)) := by
  have b2 := bd_EntryS hN p.N.L (h.2.2)
  simp only [laws_heldChange, laws_heldNode]
  rw [held_EntryS hk hN p.N.L (h.2.2) (m := m) (by omega) (by omega)]
  simp only [Option.bind_some]
  repeat (rw [if_neg (by simp; omega)]; try simp only [Option.bind_some])
  try rfl
end Go.Proofs.Sx
