/- Busy: the plain law. -/
import Derived.Test.YtjajoekfofjeiaaBX
namespace Go.Proofs.Sx
theorem busy_eq (p : TVac) : impl_Busy p = spec_Busy p := rfl
theorem busy_some (p : TVac) : ∃ b, spec_Busy p = some b := ⟨_, rfl⟩
theorem laws_FnExactBusy_true {p0 : TVac} (h : wfTVac p0) : ∃ k, laws_FnExactBusy k p0 = some true := by
  refine ⟨9223372036854775808, ?_⟩
  generalize hK : 9223372036854775808 = k
  have hk : Big k := by rw [Big, hK]; exact Nat.le_refl _
  clear hK
  obtain ⟨r, e, _, _, s⟩ := sz_Vac hk p0 h (m := 1048576) (by omega) (by omega)
  rw [laws_FnExactBusy, e, Option.bind_some]
  by_cases z : r < 0
  · simp [z]
  · rw [if_neg (by simpa using z)]
    have hs := s (by omega)
    obtain ⟨b, hb⟩ := busy_some p0
    rw [to_Vac hk p0 hs, Option.bind_some, hb, Option.bind_some, Option.bind_some, busy_eq, hb, Option.bind_some, if_neg (by simp), Option.bind_some, eq_Vac hk _ _ hs, Option.bind_some]
    simp
end Go.Proofs.Sx
