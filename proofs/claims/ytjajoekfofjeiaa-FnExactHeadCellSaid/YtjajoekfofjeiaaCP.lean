/- FnExactHeadCell: the plain law. -/
import Derived.Test.YtjajoekfofjeiaaCX
namespace Go.Proofs.Sx
open Go.RowKit
set_option linter.unusedVariables false
set_option linter.unusedSimpArgs false
theorem impl_in_eq (x a b : Int) : impl_in x a b = some (decide (a ≤ x ∧ x ≤ b)) := by simp [impl_in, Bool.decide_and]
theorem spec_in_eq (x a b : Int) : spec_l1In x a b = some (decide (a ≤ x ∧ x ≤ b)) := by simp [spec_l1In, Bool.decide_and, ge_iff_le]

def headOk (p : THead) : Bool := decide (1 ≤ p.Epoch ∧ p.Epoch ≤ 60000) && decide (0 ≤ p.Seq ∧ p.Seq ≤ 65535) && decide (1 ≤ p.Size ∧ p.Size ≤ 48) && decide (0 ≤ p.Root ∧ p.Root ≤ wrap64 (p.Size - 1))
theorem spec_headOk_eq (p : THead) : spec_HeadOk p = some (headOk p) := by
  simp only [spec_HeadOk, spec_in_eq, some_bind, headOk]
  generalize decide (1 ≤ p.Epoch ∧ p.Epoch ≤ 60000) = a
  generalize decide (0 ≤ p.Seq ∧ p.Seq ≤ 65535) = b
  generalize decide (1 ≤ p.Size ∧ p.Size ≤ 48) = c
  generalize decide (0 ≤ p.Root ∧ p.Root ≤ wrap64 (p.Size - 1)) = d
  cases a <;> cases b <;> cases c <;> cases d <;> rfl
theorem impl_headOk_eq (p : THead) : impl_HeadOk p = some (headOk p) := by
  rw [← spec_headOk_eq]; rfl

def put2 (l : List Int) (x : Int) : List Int := if 0 ≤ x ∧ x ≤ 65535 then l ++ [x / 256, x % 256] else l
theorem put2_len (l : List Int) (x : Int) : (put2 l x).length ≤ l.length + 2 := by
  unfold put2; split <;> simp
theorem spec_put2_eq {l : List Int} {x : Int} (h : okLen (l.length + 2) = true) : spec_Put2 l x = some (put2 l x) := by
  have h1 : okLen l.length = true := okLen_le h (by omega)
  simp only [spec_Put2, spec_in_eq, some_bind, List.nil_append, List.length_nil, Nat.zero_add, h1, if_true, List.length_cons, h, put2]
  by_cases hx : 0 ≤ x ∧ x ≤ 65535
  · have e1 : Int.tdiv x 256 = x / 256 := tdiv_pos hx.1
    have e2 : Int.tmod x 256 = x % 256 := tmod_pos hx.1
    simp only [hx, decide_true, Bool.not_true, Bool.false_eq_true, if_false, if_true, and_self, e1, e2, u8w]
    rw [w64 (by omega) (by omega)]
    have e3 : x / 256 % 256 = x / 256 := by omega
    have e4 : x % 256 % 256 = x % 256 := by omega
    rw [e3, e4]
  · simp [hx]
theorem impl_put2_eq {l : List Int} {x : Int} (h : okLen (l.length + 2) = true) : impl_Put2 l x = some (put2 l x) := by
  have h1 : okLen l.length = true := okLen_le h (by omega)
  simp only [impl_Put2, slices_Clone_byte_byte, impl_in_eq, some_bind, h1, if_true, List.length_cons, List.length_nil, Nat.zero_add, h, put2]
  by_cases hx : 0 ≤ x ∧ x ≤ 65535
  · simp only [hx, decide_true, Bool.not_true, Bool.false_eq_true, if_false, if_true, and_self, u8w, sh8]
    rw [fdiv_pos (by omega)]
    have e3 : x / 256 % 256 = x / 256 := by omega
    rw [e3]
  · simp [hx]

def headCell (p : THead) : List Int := if headOk p = true then put2 (put2 [3] p.Epoch) p.Seq ++ [p.Root % 256, p.Size % 256] else []
theorem headCell_len (p : THead) : (headCell p).length ≤ 7 := by
  unfold headCell
  split
  · have h1 := put2_len (put2 [3] p.Epoch) p.Seq
    have h2 := put2_len [3] p.Epoch
    simp only [List.length_append, List.length_cons, List.length_nil] at *
    omega
  · simp
theorem spec_headCell_eq (p : THead) : spec_HeadCell p = some (headCell p) := by
  have h2 := put2_len [3] p.Epoch
  have h1 := put2_len (put2 [3] p.Epoch) p.Seq
  simp only [List.length_cons, List.length_nil] at h1 h2
  have k1 : okLen (([3] : List Int).length + 2) = true := rfl
  have k2 : okLen ((put2 [3] p.Epoch).length + 2) = true := okLen_iff.2 (by omega)
  have k3 : okLen ((put2 (put2 [3] p.Epoch) p.Seq).length + 2) = true := okLen_iff.2 (by omega)
  simp only [spec_HeadCell, spec_headOk_eq, some_bind, spec_put2_eq (x := p.Epoch) k1, spec_put2_eq (x := p.Seq) k2, headCell, u8w, List.length_cons, List.length_nil, Nat.zero_add, Nat.reduceAdd, k3, if_true]
  cases headOk p <;> rfl
theorem impl_headCell_eq (p : THead) : impl_HeadCell p = some (headCell p) := by
  have h2 := put2_len [3] p.Epoch
  have h1 := put2_len (put2 [3] p.Epoch) p.Seq
  simp only [List.length_cons, List.length_nil] at h1 h2
  have k1 : okLen (([3] : List Int).length + 2) = true := rfl
  have k2 : okLen ((put2 [3] p.Epoch).length + 2) = true := okLen_iff.2 (by omega)
  have k3 : okLen ((put2 (put2 [3] p.Epoch) p.Seq).length + 2) = true := okLen_iff.2 (by omega)
  simp only [impl_HeadCell, impl_headOk_eq, some_bind, impl_put2_eq (x := p.Epoch) k1, impl_put2_eq (x := p.Seq) k2, headCell, u8w, List.length_cons, List.length_nil, Nat.zero_add, Nat.reduceAdd, k3, if_true]
  cases headOk p <;> rfl

theorem laws_FnExactHeadCell_true {p0 : THead} (h : wfTHead p0) : ∃ k, laws_FnExactHeadCell k p0 = some true := by
  refine ⟨9223372036854775808, ?_⟩
  generalize hK : 9223372036854775808 = k
  have hk : Big k := by rw [Big, hK]; exact Nat.le_refl _
  clear hK
  have hl := headCell_len p0
  generalize hg : headCell p0 = g at hl
  have hs : smL 7 (smT 7) g := ⟨hl, fun _ _ => trivial⟩
  have hsum : sumL cn_Byte g ≤ 7 := by
    have := sumL_le (c := cn_Byte) (l := g) (B := 1) (fun _ _ => Nat.le_refl _); omega
  have hm := mark_ByteS hk (by omega) _ hs (m := 1) (by omega) (by omega)
  have hh := held_ByteS hk (by omega) _ hs (m := 1) (by omega) (by omega)
  have he := eq_ByteS hk (by omega) g g hs
  have hz : ¬ (1 + (sumL cn_Byte g : Int) < 0) := by omega
  simp [laws_FnExactHeadCell, laws_toHead, spec_headCell_eq, impl_headCell_eq, hg, hm, hh, he, markL_length, hz]

end Go.Proofs.Sx
