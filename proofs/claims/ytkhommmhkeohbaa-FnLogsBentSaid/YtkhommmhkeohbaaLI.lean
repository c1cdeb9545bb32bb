/- Part of a program logic; see the notes. -/
import Derived.Test.YtkhommmhkeohbaaLF
namespace Go.Proofs.Sx
open Go.RowKit
set_option linter.unusedVariables false
set_option linter.unusedSimpArgs false
set_option linter.unusedSectionVars false
section
variable {P : Program} {w0 : World} {Pr : Fp} {N : Nat} {E : Env} {Γ : Gam} {d : Option Tmp} {ty : TypeId} {ps : String} {af : Array Edge}
theorem Step.frameX {w w' : World} {F F1 F2 : Fp} {L M : List HP} (h : Step w F1 w' L) (hs : Sat M w.heap F2) (hF : ∀ b, F2 b → b < w.heap.size) (sp : Spl F F1 F2) : Step w F w' (L ++ M) := by
  obtain ⟨F', h1, h2⟩ := h.sat
  refine ⟨h.os, h.tape, h.output, h.size, fun b hb hf => h.keep b hb fun h => hf (sp.left h), fun b => F' b ∨ F2 b, Sat.append.2 ⟨F', F2, ⟨fun b => Iff.rfl, fun b h3 h4 => ?_⟩, h1, Sat.loc hs fun b hb => h.keep b (hF b hb) fun h => sp.2 b h hb⟩, fun b hb => ?_⟩
  · rcases (h2 b h3).1 with h | h
    · exact sp.2 b h h4
    · have := hF b h4; omega
  · rcases hb with hb | hb
    · exact ⟨(h2 b hb).1.imp (fun h => sp.left h) id, (h2 b hb).2⟩
    · exact ⟨.inl (sp.right hb), Nat.lt_of_lt_of_le (hF b hb) h.size⟩
theorem BorS.passY {α : Type} {K : Kd α} {a : Option Addr} {cap : Nat} {xs : List α} {w : World} {F : Fp} (hb : BorS K a cap xs w0.heap Pr)
    (hp : ∀ b, Pr b → ¬ F b ∧ b < w.heap.size ∧ w.heap[b]? = w0.heap[b]?) : BorS K a cap xs w.heap (Lt w F) :=
  hb.mono fun b hb => ⟨⟨(hp b hb).2.1, (hp b hb).1⟩, (hp b hb).2.2⟩
theorem Sat.lendY {α : Type} {K : Kd α} {a : Option Addr} {cap : Nat} {xs : List α} {L : List HP} {w : World} {F FX : Fp} (hs : Sat L w.heap F) (hF : ∀ b, F b → ¬ FX b ∧ b < w.heap.size) (i : Nat) (hi : L[i]? = some (OwnS K a cap xs)) :
    BorS K a cap xs w.heap (Lt w FX) := by
  obtain ⟨G, h1, h2⟩ := hs.get i hi
  exact (OwnS.bor h1).mono fun b hb => ⟨⟨(hF b (h2 b hb)).2, (hF b (h2 b hb)).1⟩, rfl⟩
theorem OT.callM {f : FuncId} {xs : Array Operand} {ts : Array TypeId} (ls : List Operand) {us : List Value} {PreX PreL : List HP} {ι : Type} {val : ι → Value} {Post : ι → List HP}
    (hc : ∀ args w, (callFunc f args).run P w = .ok (.enter f args) w) (hls : xs = ls.toArray) (hl : ls.length = us.length)
    (h : ∀ w FX FL, Sat PreX w.heap FX → (∀ b, FX b → b < w.heap.size) → Sat PreL w.heap FL → (∀ b, FL b → ¬ FX b ∧ b < w.heap.size) → (∀ b, Pr b → ¬ FX b ∧ b < w.heap.size ∧ w.heap[b]? = w0.heap[b]?) →
      Calls P f us.toArray w (Rt w FX val Post)) :
    OT P w0 Pr ⟨d, .call ⟨.value (.func f), xs, ts⟩, ty, ps, af, none⟩ ((.func f, .func (.func f) #[] #[]) :: pairs ls us) (PreX ++ PreL) val (fun i => Post i ++ PreL) := by
  intro ρ w F hv hs hF hp
  subst hls
  obtain ⟨F1, F2, sp, h1, h2⟩ := Sat.append.1 hs
  have hr := runs_call (d := d) (ty := ty) (ps := ps) (af := af) (ts := ts) (xs := ls.toArray) (us := us) (cap := #[]) (ρ := ρ) (w := w) (F := F1) (val := val) (Post := Post) (g := .func f) hc (hv (.func f) _ (by simp)) (pairs_args hl fun x u hx => hv x u (List.mem_cons_of_mem _ hx))
    (by simpa using h w F1 F2 h1 (fun b hb => (hF b (sp.left hb)).2) h2 (fun b hb => ⟨fun hx => sp.2 b hx hb, (hF b (sp.right hb)).2⟩) (fun b hb => ⟨fun hx => (hF b (sp.left hx)).1 hb, hp b hb⟩))
  exact hr.mono fun v w' ⟨i, e, hs'⟩ => ⟨i, e, hs'.frameX h2 (fun b hb => (hF b (sp.right hb)).2) sp⟩
end
end Go.Proofs.Sx

