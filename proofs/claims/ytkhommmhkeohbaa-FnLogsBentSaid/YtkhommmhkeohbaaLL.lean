/- Part of a program logic; see the notes. -/
import Derived.Test.YtkhommmhkeohbaaLI
namespace Go.Proofs.Sx
open Go.RowKit
set_option linter.unusedVariables false
set_option linter.unusedSimpArgs false
set_option linter.unusedSectionVars false
structure Lent (w0 : World) (Pr : Fp) (w1 : World) (Pr1 : Fp) (H : HP) : Prop where
  os : w1.os = w0.os
  tape : w1.tape = w0.tape
  output : w1.output = w0.output
  size : w0.heap.size ≤ w1.heap.size
  sub : ∀ b, Pr b → Pr1 b ∧ b < w0.heap.size ∧ w1.heap[b]? = w0.heap[b]?
  got : ∃ G, H.p w1.heap G ∧ ∀ b, G b → Pr1 b ∧ ¬ Pr b
section
variable {w0 w1 : World} {Pr Pr1 : Fp} {N : Nat} {E : Env} {Γ : Gam} {H : HP}
theorem Lent.bor (h : Lent w0 Pr w1 Pr1 H) {α : Type} {K : Kd α} {a : Option Addr} {cap : Nat} {xs : List α} (hb : BorS K a cap xs w0.heap Pr) : BorS K a cap xs w1.heap Pr1 :=
  hb.mono fun b hb => ⟨(h.sub b hb).1, (h.sub b hb).2.2⟩
theorem Lent.get {α : Type} {K : Kd α} {a : Option Addr} {cap : Nat} {xs : List α} (h : Lent w0 Pr w1 Pr1 (OwnS K a cap xs)) : BorS K a cap xs w1.heap Pr1 := by
  obtain ⟨G, h1, h2⟩ := h.got
  exact (OwnS.bor h1).mono fun b hb => ⟨(h2 b hb).1, rfl⟩
theorem HQ.lend {Q : Act → World → Prop} (r : Nat) (hr : look Γ r = some H) (k : ∀ w1 Pr1, Lent w0 Pr w1 Pr1 H → HQ w1 Pr1 N E ((r, emp) :: Γ) Q) : HQ w0 Pr N E Γ Q := by
  intro a w hs
  obtain ⟨F, hF, hb⟩ := hs.sat
  have hp := Sat.perm (live_look (s := []) hr (by simp)) hF
  obtain ⟨F1, F2, sp, h1, h2⟩ := hp
  refine k w (fun b => Pr b ∨ F1 b) ⟨hs.os, hs.tape, hs.output, hs.size, fun b hb => ⟨.inl hb, (hs.pres b hb).1, (hs.pres b hb).2⟩, F1, h1, fun b hf => ⟨.inr hf, (hb b (sp.left hf)).1⟩⟩ a w ?_
  refine { hs with os := rfl, tape := rfl, output := rfl, size := Nat.le_refl _, pres := fun b hb' => ?_, sat := ⟨F2, ?_, fun b hf => ⟨fun hq => ?_, (hb b (sp.right hf)).2⟩⟩ }
  · rcases hb' with h | h
    · exact ⟨Nat.lt_of_lt_of_le (hs.pres b h).1 hs.size, rfl⟩
    · exact ⟨(hb b (sp.left h)).2, rfl⟩
  · rw [live_out (by simp)]
    exact ⟨fun _ => False, F2, Spl.nil_left F2, fun b h => h, h2⟩
  · rcases hq with h | h
    · exact (hb b (sp.right hf)).1 h
    · exact sp.2 b h hf
theorem HQ.unlend {Q : Act → World → Prop} (hL : Lent w0 Pr w1 Pr1 H) (r : Nat) (hr : look Γ r = some emp) (k : HQ w0 Pr N E ((r, H) :: Γ) Q) : HQ w1 Pr1 N E Γ Q := by
  intro a w hs
  refine k a w ?_
  obtain ⟨G, g1, g2⟩ := hL.got
  obtain ⟨F, hF, hb⟩ := hs.sat
  have hp := Sat.perm (live_look (s := []) hr (by simp)) hF
  obtain ⟨F1, F2, sp, h1, h2⟩ := hp
  refine { hs with os := hs.os.trans hL.os, tape := hs.tape.trans hL.tape, output := hs.output.trans hL.output, size := Nat.le_trans hL.size hs.size, pres := fun b hb' => ?_, sat := ⟨fun b => G b ∨ F2 b, ?_, fun b hf => ?_⟩ }
  · have := hL.sub b hb'
    exact ⟨this.2.1, (hs.pres b this.1).2.trans this.2.2⟩
  · rw [live_out (by simp)]
    refine ⟨G, F2, ⟨fun b => Iff.rfl, fun b h3 h4 => (hb b (sp.right h4)).1 (g2 b h3).1⟩, H.loc g1 fun b hg => (hs.pres b (g2 b hg).1).2, h2⟩
  · rcases hf with h | h
    · exact ⟨(g2 b h).2, Nat.lt_of_lt_of_le (hs.pres b (g2 b h).1).1 hs.size⟩
    · exact ⟨fun hp => (hb b (sp.right h)).1 (hL.sub b hp).1, (hb b (sp.right h)).2⟩
theorem HQ.mv {Q : Act → World → Prop} (r r2 : Nat) (h2 : look Γ r2 = some H) (hne : Nat.beq r r2 = false) (k : HQ w0 Pr N E ((r, H) :: (r2, emp) :: Γ) Q) : HQ w0 Pr N E Γ Q := by
  intro a w hs
  refine k a w ?_
  have hn : r ≠ r2 := fun e => by subst e; simp at hne
  obtain ⟨F, hF, hb⟩ := hs.sat
  obtain ⟨F1, F2, sp, h1, h3⟩ := Sat.perm (live_look (s := []) h2 (by simp)) hF
  have key : ∃ F3, Sat (live [r, r2] Γ) w.heap F3 ∧ ∀ b, F3 b → F2 b := by
    cases hr : look Γ r with
    | none => exact ⟨F2, by rw [live_fresh hr]; exact h3, fun b h => h⟩
    | some C =>
      obtain ⟨G1, G2, sq, _, g2⟩ := Sat.perm (live_look (s := [r2]) hr (by simpa using hn)) h3
      exact ⟨G2, g2, fun b h => sq.right h⟩
  obtain ⟨F3, g3, hsub⟩ := key
  refine { hs with sat := ⟨fun b => F1 b ∨ F3 b, ?_, fun b hf => hb b (hf.elim (fun h => sp.left h) fun h => sp.right (hsub b h))⟩ }
  rw [live_out (by simp), live_out (by simpa using fun e => hn e.symm), live_congr (s := [r2, r]) (t := [r, r2]) (fun x => by simp [or_comm])]
  refine ⟨F1, F3, ⟨fun b => Iff.rfl, fun b h4 h5 => sp.2 b h4 (hsub b h5)⟩, h1, fun _ => False, F3, Spl.nil_left F3, fun b h => h, g3⟩
end
end Go.Proofs.Sx

