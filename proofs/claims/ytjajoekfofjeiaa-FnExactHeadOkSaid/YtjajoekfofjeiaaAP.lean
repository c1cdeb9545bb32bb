/- HeadOk: the plain law. -/
import Derived.Test.YtjajoekfofjeiaaAF1
namespace Go.Proofs.Sx
theorem in_eq (x a b : Int) : impl_in x a b = spec_l1In x a b := rfl
theorem headOk_eq (p : THead) : impl_HeadOk p = spec_HeadOk p := rfl
theorem headOk_some (p : THead) : ∃ b, spec_HeadOk p = some b := by
  simp only [spec_HeadOk, spec_l1In, Option.bind_some]
  split <;> (simp only [Option.bind_some]; split) <;> (simp only [Option.bind_some]; split) <;> exact ⟨_, rfl⟩
theorem laws_FnExactHeadOk_true {p0 : THead} (h : wfTHead p0) : laws_FnExactHeadOk p0 = some true := by
  obtain ⟨b, hb⟩ := headOk_some p0
  simp [laws_FnExactHeadOk, laws_toHead, headOk_eq, hb]
end Go.Proofs.Sx
