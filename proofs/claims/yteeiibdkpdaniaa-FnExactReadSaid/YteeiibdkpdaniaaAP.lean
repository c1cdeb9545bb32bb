/- FnExactRead: the plain law. -/
import Derived.Test.YteeiibdkpdaniaaAX
namespace Go.Proofs.Sx
open Go.RowKit
set_option linter.unusedVariables false
set_option linter.unusedSimpArgs false
theorem spec_in_eq (x a b : Int) : spec_l1In x a b = some (decide (a ≤ x ∧ x ≤ b)) := by simp [spec_l1In, Bool.decide_and, ge_iff_le]

theorem read_body_eq {N : Nat} (hN : N ≤ 1114112) {d : TDisk} (h : smTDisk N d) (q : Int) : impl_Read_b0 d q = spec_Read_b0 d q := by
  funext i
  simp only [impl_Read_b0, spec_Read_b0, slices_Clone_byte_byte, List.nil_append, List.length_nil, Nat.zero_add]
  by_cases h1 : decide (i ≥ 0) = true
  · rw [if_pos h1, if_pos h1]
    by_cases h2 : (0 : Int) ≤ i ∧ i < ((List.length d.Wet : Nat) : Int)
    · rw [if_pos h2, if_pos h2, if_pos h2, if_pos h2]
      by_cases h3 : decide ((gt d.Wet i).At = q) = true
      · rw [if_pos h3, if_pos h3]
        by_cases h4 : okLen (List.length (gt d.Wet i).B) = true
        · rw [if_pos h4, if_pos h4]; rfl
        · rw [if_neg h4, if_neg h4]; rfl
      · rw [if_neg h3, if_neg h3]
    · rw [if_neg h2, if_neg h2]
  · rw [if_neg h1, if_neg h1]
theorem gt_mem' {α : Type} [Inhabited α] {l : List α} {i : Int} (h : 0 ≤ i ∧ i < (l.length : Int)) : gt l i ∈ l := by
  obtain ⟨hi, e⟩ := gt_eq h.1 h.2
  rw [e]; exact List.getElem_mem hi
theorem read_some {k : Nat} (hk : Big k) {N : Nat} (hN : N ≤ 1114112) {d : TDisk} (h : smTDisk N d) (q : Int) : ∃ r, spec_Read k d q = some r ∧ impl_Read k d q = some r ∧ smL N (smT N) r.1 := by
  have hW := h.2.1
  have hC := h.1
  have hl := hW.1
  have hlc := hC.1
  obtain ⟨o, ho, hQ⟩ := loopM_ends (b := spec_Read_b0 d q) (fun i => -1 ≤ i ∧ i < (d.Wet.length : Int)) (fun i => (i + 1).toNat) (fun o => match o with
      | .ret r => smL N (smT N) r.1
      | .out _ => True
      | .next _ => False) (fun i hi => by
    simp only [spec_Read_b0]
    by_cases h1 : i ≥ 0
    · have h2 : (0 : Int) ≤ i ∧ i < ((List.length d.Wet : Nat) : Int) := ⟨h1, hi.2⟩
      rw [if_pos (by simpa using h1), if_pos h2, if_pos h2]
      have hb := (hW.2 _ (gt_mem' h2)).2
      by_cases h3 : decide ((gt d.Wet i).At = q) = true
      · rw [if_pos h3, if_pos (okLen_iff.2 (by have := hb.1; simp; omega))]
        exact ⟨_, rfl, by simpa using hb⟩
      · rw [if_neg h3]
        refine ⟨_, rfl, ?_, ?_⟩
        · rw [w64 (by omega) (by omega)]; omega
        · rw [w64 (by omega) (by omega)]; omega
    · rw [if_neg (by simpa using h1)]
      exact ⟨_, rfl, trivial⟩) k (wrap64 ((d.Wet.length : Int) - 1)) (by rw [w64 (by omega) (by omega)]; omega) (by rw [w64 (by omega) (by omega)]; have : 9223372036854775808 ≤ k := hk; omega)
  rw [spec_Read, impl_Read, read_body_eq hN h, ho]
  match o, hQ with
  | .ret r, hr => exact ⟨r, rfl, rfl, hr⟩
  | .out i, _ =>
    simp only [Option.bind_some, spec_in_eq]
    rw [w64 (n := (d.Cells.length : Int) - 1) (by omega) (by omega)]
    by_cases hin : 0 ≤ q ∧ q < (d.Cells.length : Int)
    · have e1 : decide (0 ≤ q ∧ q ≤ (d.Cells.length : Int) - 1) = true := by simp; omega
      have e2 : (decide (q < 0) || decide (q ≥ (d.Cells.length : Int))) = false := by simp; omega
      have hb := (hC.2 _ (gt_mem' hin)).2
      have hok : okLen (List.length (gt d.Cells q).B) = true := okLen_iff.2 (by have := hb.1; omega)
      simp only [e1, e2, Bool.not_true, Bool.false_eq_true, if_false, if_pos hin, if_true, Option.bind_some, slices_Clone_byte_byte, List.nil_append, List.length_nil, Nat.zero_add, hok]
      cases (gt d.Cells q).Bad
      · by_cases hz : decide (((gt d.Cells q).B.length : Int) = 0) = true
        · simp only [Bool.false_eq_true, if_false, hz, Option.bind_some, if_true]
          exact ⟨_, rfl, rfl, ⟨Nat.zero_le _, by simp⟩⟩
        · simp only [Bool.not_eq_true] at hz
          simp only [Bool.false_eq_true, if_false, hz, Option.bind_some]
          exact ⟨_, rfl, rfl, hb⟩
      · simp only [if_true, Option.bind_some]
        exact ⟨_, rfl, rfl, ⟨Nat.zero_le _, by simp⟩⟩
    · have e1 : decide (0 ≤ q ∧ q ≤ (d.Cells.length : Int) - 1) = false := by simp; omega
      have e2 : (decide (q < 0) || decide (q ≥ (d.Cells.length : Int))) = true := by simp; omega
      simp only [e1, e2, Bool.not_false, if_true, Option.bind_some]
      exact ⟨_, rfl, rfl, ⟨Nat.zero_le _, by simp⟩⟩

theorem laws_FnExactRead_true {p0 : TDisk} {p1 : Int} (h : wfTDisk p0) (h1 : wfI p1) : ∃ k, laws_FnExactRead k p0 p1 = some true := by
  refine ⟨9223372036854775808, ?_⟩
  generalize hK : 9223372036854775808 = k
  have hk : Big k := by rw [Big, hK]; exact Nat.le_refl _
  clear hK
  obtain ⟨r, e, _, _, s⟩ := sz_Disk hk p0 h (m := 1048576) (by omega) (by omega)
  rw [laws_FnExactRead, e, Option.bind_some]
  by_cases z : r < 0
  · simp [z]
  · rw [if_neg (by simpa using z)]
    have hs := s (by omega)
    obtain ⟨g, e1, e2, hg⟩ := read_some hk (by omega) hs p1
    have hN : (1048576 : Nat) ≤ 1114112 := by omega
    have et := to_Disk hk hN p0 hs
    have ee := eq_Disk hk hN p0 p0 hs
    have eg := eq_ByteS hk hN g.1 g.1 hg
    have hm := mark_Disk hk hN p0 hs (m := 1) (by omega) (by omega)
    have hb := bd_ByteS hN g.1 hg
    have hmb := mark_ByteS hk hN g.1 hg (m := 1) (by omega) (by omega)
    have hhb := held_ByteS hk hN g.1 hg (m := 1) (by omega) (by omega)
    have hz : ¬ (1 + (sumL cn_Byte g.1 : Int) < 0) := by omega
    have hz2 : ¬ (1 + (sumL cn_Cell p0.Cells : Int) + (sumL cn_Wet p0.Wet : Int) < 0) := by omega
    simp [et, e1, e2, eg, ee, hm, hmb, hhb, markL_length, hz, hz2]

end Go.Proofs.Sx
