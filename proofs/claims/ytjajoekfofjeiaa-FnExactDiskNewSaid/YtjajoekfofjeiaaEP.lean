/- DiskNew: the plain law. -/
import Derived.Test.YtjajoekfofjeiaaEX
namespace Go.Proofs.Sx
open Go.RowKit
theorem laws_FnExactDiskNew_true : ∃ k, laws_FnExactDiskNew k = some true := by
  refine ⟨9223372036854775808, ?_⟩
  generalize hK : 9223372036854775808 = k
  have hk : Big k := by rw [Big, hK]; exact Nat.le_refl _
  clear hK
  have hs : smTDisk 0 ⟨[], [], -1, false⟩ := ⟨⟨Nat.le_refl _, by simp⟩, ⟨Nat.le_refl _, by simp⟩, trivial, trivial⟩
  have hm := mark_Disk hk (Nat.zero_le _) _ hs (m := 1) (by omega) (by omega)
  have hh := held_Disk hk (Nat.zero_le _) _ hs (m := 1) (by omega) (by omega)
  have he := eq_Disk hk (Nat.zero_le _) ⟨[], [], -1, false⟩ ⟨[], [], -1, false⟩ hs
  simp only [markL, sumL] at hm hh
  simp [laws_FnExactDiskNew, spec_DiskNew, impl_DiskNew, hm, hh, he]
end Go.Proofs.Sx
