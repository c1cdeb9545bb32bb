/- Plain facts about the functions that copy, compare and measure. -/
import Derived.Test.YtjajoekfofjeiaaCD
namespace Go.Proofs.Sx
open Go.RowKit
set_option linter.unusedVariables false
set_option linter.unusedSimpArgs false
def smTHead (N : Nat) (x : THead) : Prop := (smT N) x.Epoch ∧ (smT N) x.Seq ∧ (smT N) x.Root ∧ (smT N) x.Size
theorem to_Head {k : Nat} (hk : Big k) {N : Nat} (hN : N ≤ 1114112) (p : THead) (h : (smTHead N) p) : laws_toHead p = some p := by
  simp only [laws_toHead, Option.bind_some]
theorem eq_ByteS {k : Nat} (hk : Big k) {N : Nat} (hN : N ≤ 1114112) (p q : (List Int)) (h : (smL N (smT N)) p) : laws_eqByteS k p q = some (decide (p = q)) := by
  rw [laws_eqByteS]
  have hl := h.1
  by_cases he : p.length = q.length
  · rw [if_neg (by simp [he])]
    rw [loop_all (c := fun i => decide (p[i]? = q[i]?)) (n := p.length) (r := false) (by omega) hk]
    · by_cases hpq : p = q
      · subst hpq; simp
      · rw [if_neg, decide_eq_false hpq]
        · rfl
        · intro hh
          exact hpq (List.ext_getElem? fun i => by
            by_cases hi : i < p.length
            · simpa using hh i hi
            · rw [List.getElem?_eq_none (by omega), List.getElem?_eq_none (by omega)])
    · intro i hi
      have c1 : decide ((i : Int) < ((List.length p : Nat) : Int)) = true := by simp; omega
      have c2 : (0 : Int) ≤ (i : Int) ∧ (i : Int) < ((List.length p : Nat) : Int) := by omega
      have c3 : (0 : Int) ≤ (i : Int) ∧ (i : Int) < ((List.length q : Nat) : Int) := by omega
      have hq : i < q.length := by omega
      simp only [laws_eqByteS_b0, if_pos c1, if_pos c2, if_pos c3, gt_nat hi, gt_nat hq, w64s (n := i) (by omega), List.getElem?_eq_getElem hi, List.getElem?_eq_getElem hq, Option.some.injEq]
      by_cases hv : p[i] = q[i] <;> simp [hv]
    · have c1 : ¬ decide (((List.length p : Nat) : Int) < ((List.length p : Nat) : Int)) = true := by simp
      simp only [laws_eqByteS_b0, if_neg c1]
  · rw [if_pos (by simp; omega), decide_eq_false]
    rintro rfl; exact he rfl
def mk_Byte (x : Int) (m : Int) : Int := (IntKind.u8.wrap m)
def cn_Byte (x : Int) : Nat := 1
theorem bd_ByteS {N : Nat} (hN : N ≤ 1114112) (p : (List Int)) (h : (smL N (smT N)) p) : sumL cn_Byte p ≤ 1114112 := by
  have h1 : sumL cn_Byte p ≤ p.length * 1 := sumL_le fun y hy => by
    exact Nat.le_refl _
  have h2 : p.length * 1 ≤ 1114112 * 1 := Nat.mul_le_mul_right _ (Nat.le_trans h.1 hN)
  omega
theorem mark_ByteS {k : Nat} (hk : Big k) {N : Nat} (hN : N ≤ 1114112) (p : (List Int)) (h : (smL N (smT N)) p) {m : Int} (h0 : 0 ≤ m) (h1 : m + (sumL cn_Byte p : Nat) ≤ 9223372036854775807) : laws_markByteS k p m = some (m + (sumL cn_Byte p : Nat), markL mk_Byte cn_Byte p m) := by
  have hb := bd_ByteS hN p h
  have hn : p.length ≤ 1114112 := Nat.le_trans h.1 hN
  rw [laws_markByteS, loop_mark (F := mk_Byte) (c := cn_Byte) (by omega) hk h0 h1]
  · rfl
  · intro l i hi q hl hg q0 q1
    have hc0 : ((cn_Byte p[i] : Nat) : Int) = 1 := rfl
    have hgt := gt_eq_of hg
    have hi2 : (i : Int) < (p.length : Int) := by omega
    have hi0 : (0 : Int) ≤ (i : Int) := by omega
    have hil : i < l.length := by omega
    simp (disch := omega) only [laws_markByteS_b0, hl, hi2, hi0, hgt, hil, decide_true, if_true, and_self, Option.bind_some, Int.toNat_natCast, List.length_set, gt_set_self, List.set_set, w64, Int.add_assoc, Int.reduceAdd, markL_length]
    try simp only [mk_Byte, cn_Byte]
    try rfl
    try (congr 3; omega)
  · intro l q hl
    simp only [laws_markByteS_b0, hl, Int.lt_irrefl, decide_false, Bool.false_eq_true, if_false]
theorem held_ByteS {k : Nat} (hk : Big k) {N : Nat} (hN : N ≤ 1114112) (p : (List Int)) (h : (smL N (smT N)) p) {m : Int} (h0 : 0 ≤ m) (h1 : m + (sumL cn_Byte p : Nat) ≤ 9223372036854775807) : laws_heldByteS k (markL mk_Byte cn_Byte p m) m = some (m + (sumL cn_Byte p : Nat)) := by
  have hb := bd_ByteS hN p h
  have hn : p.length ≤ 1114112 := Nat.le_trans h.1 hN
  rw [laws_heldByteS, loop_held (F := mk_Byte) (c := cn_Byte) (p := p) (by omega) hk h0 h1]
  · rfl
  · intro i hi q hg q0 q1
    have hc0 : ((cn_Byte p[i] : Nat) : Int) = 1 := rfl
    have hgt := gt_eq_of hg
    have hi2 : (i : Int) < (p.length : Int) := by omega
    have hi0 : (0 : Int) ≤ (i : Int) := by omega
    have hng : ∀ z : Int, 0 ≤ z → decide (z < 0) = false := fun z hz => by simp; omega
    simp (disch := omega) only [laws_heldByteS_b0, markL_length, hi2, hi0, hgt, decide_true, if_true, and_self, Option.bind_some, w64, Int.add_assoc, Int.reduceAdd, mk_Byte, Bool.not_true, Bool.false_eq_true, if_false, beq_self_eq_true, hng]
    try rfl
    try (congr 3; omega)
  · intro q
    simp only [laws_heldByteS_b0, markL_length, Int.lt_irrefl, decide_false, Bool.false_eq_true, if_false]
end Go.Proofs.Sx
