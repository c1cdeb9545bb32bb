/- Plain facts about the functions that copy, compare and measure. -/
import Derived.Test.YtjajoekfofjeiaaGD
namespace Go.Proofs.Sx
open Go.RowKit
set_option linter.unusedVariables false
set_option linter.unusedSimpArgs false
theorem to_ByteS {k : Nat} (hk : Big k) {N : Nat} (hN : N ≤ 1114112) (p : (List Int)) (h : (smL N (smT N)) p) : laws_toByteS k p = some p := by
  rw [laws_toByteS]
  have hl := h.1
  rw [if_pos ⟨by omega, okLen_iff.2 (by simp; omega)⟩, Int.toNat_natCast]
  rw [loop_fill (f := id) (p := p) (by simp) (by omega) hk]
  · simp
  · intro l i hi hl2
    have c1 : decide ((i : Int) < ((List.length p : Nat) : Int)) = true := by simp; omega
    have c2 : (0 : Int) ≤ (i : Int) ∧ (i : Int) < ((List.length p : Nat) : Int) := by omega
    have c3 : (0 : Int) ≤ (i : Int) ∧ (i : Int) < ((List.length l : Nat) : Int) := by omega
    simp only [laws_toByteS_b0, if_pos c1, if_pos c2, if_pos c3, gt_nat hi, Int.toNat_natCast, id, w64s (n := i) (by omega), some_bind]
  · intro l
    have c1 : ¬ decide (((List.length p : Nat) : Int) < ((List.length p : Nat) : Int)) = true := by simp
    simp only [laws_toByteS_b0, if_neg c1]
def smTHead (N : Nat) (x : THead) : Prop := (smT N) x.Epoch ∧ (smT N) x.Seq ∧ (smT N) x.Root ∧ (smT N) x.Size
theorem eq_Head {k : Nat} (hk : Big k) {N : Nat} (hN : N ≤ 1114112) (p q : THead) (h : (smTHead N) p) : laws_eqHead p q = some (decide (p = q)) := by
  obtain ⟨p0, p1, p2, p3⟩ := p
  obtain ⟨q0, q1, q2, q3⟩ := q
  simp only [laws_eqHead, Option.bind_some, THead.mk.injEq]
  repeat' split
  all_goals (try simp_all)
theorem eq_ByteS {k : Nat} (hk : Big k) {N : Nat} (hN : N ≤ 1114112) (p q : (List Int)) (h : (smL N (smT N)) p) : laws_eqByteS k p q = some (decide (p = q)) := by
  rw [laws_eqByteS]
  have hl := h.1
  by_cases he : p.length = q.length
  · rw [if_neg (by simp [he])]
    rw [loop_all (c := fun i => decide (p[i]? = q[i]?)) (n := p.length) (r := false) (by omega) hk]
    · by_cases hpq : p = q
      · subst hpq; simp
      · rw [if_neg, decide_eq_false hpq]
        · rfl
        · intro hh
          exact hpq (List.ext_getElem? fun i => by
            by_cases hi : i < p.length
            · simpa using hh i hi
            · rw [List.getElem?_eq_none (by omega), List.getElem?_eq_none (by omega)])
    · intro i hi
      have c1 : decide ((i : Int) < ((List.length p : Nat) : Int)) = true := by simp; omega
      have c2 : (0 : Int) ≤ (i : Int) ∧ (i : Int) < ((List.length p : Nat) : Int) := by omega
      have c3 : (0 : Int) ≤ (i : Int) ∧ (i : Int) < ((List.length q : Nat) : Int) := by omega
      have hq : i < q.length := by omega
      simp only [laws_eqByteS_b0, if_pos c1, if_pos c2, if_pos c3, gt_nat hi, gt_nat hq, w64s (n := i) (by omega), List.getElem?_eq_getElem hi, List.getElem?_eq_getElem hq, Option.some.injEq]
      by_cases hv : p[i] = q[i] <;> simp [hv]
    · have c1 : ¬ decide (((List.length p : Nat) : Int) < ((List.length p : Nat) : Int)) = true := by simp
      simp only [laws_eqByteS_b0, if_neg c1]
  · rw [if_pos (by simp; omega), decide_eq_false]
    rintro rfl; exact he rfl
end Go.Proofs.Sx
