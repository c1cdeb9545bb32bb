/- Part of a program logic; see the notes. -/
import Derived.Test.YtkhommmhkeohbaaLI
namespace Go.Proofs.Sx
open Go.RowKit
set_option linter.unusedVariables false
set_option linter.unusedSimpArgs false
set_option linter.unusedSectionVars false
section
variable {P : Program} {w0 : World} {Pr : Fp} {N : Nat} {E : Env} {Γ : Gam} {d : Option Tmp} {ty : TypeId} {ps : String} {af : Array Edge}
theorem OT.callV {f : FuncId} {x : Operand} {xs : Array Operand} {ts : Array TypeId} {cap all : Array Value} (ls : List Operand) {us : List Value} {PreX PreL : List HP} {ι : Type} {val : ι → Value} {Post : ι → List HP}
    (hc : ∀ args w, (callFunc f args).run P w = .ok (.enter f args) w) (hls : xs = ls.toArray) (hl : ls.length = us.length) (hall : us.toArray ++ cap = all)
    (h : ∀ w FX FL, Sat PreX w.heap FX → (∀ b, FX b → b < w.heap.size) → Sat PreL w.heap FL → (∀ b, FL b → ¬ FX b ∧ b < w.heap.size) → (∀ b, Pr b → ¬ FX b ∧ b < w.heap.size ∧ w.heap[b]? = w0.heap[b]?) →
      Calls P f all w (Rt w FX val Post)) :
    OT P w0 Pr ⟨d, .call ⟨.value x, xs, ts⟩, ty, ps, af, none⟩ ((x, .func (.func f) #[] cap) :: pairs ls us) (PreX ++ PreL) val (fun i => Post i ++ PreL) := by
  intro ρ w F hv hs hF hp
  subst hls hall
  obtain ⟨F1, F2, sp, h1, h2⟩ := Sat.append.1 hs
  have hr := runs_call (d := d) (ty := ty) (ps := ps) (af := af) (ts := ts) (xs := ls.toArray) (us := us) (cap := cap) (ρ := ρ) (w := w) (F := F1) (val := val) (Post := Post) (g := x) hc (hv x _ (by simp)) (pairs_args hl fun x u hx => hv x u (List.mem_cons_of_mem _ hx))
    (h w F1 F2 h1 (fun b hb => (hF b (sp.left hb)).2) h2 (fun b hb => ⟨fun hx => sp.2 b hx hb, (hF b (sp.right hb)).2⟩) (fun b hb => ⟨fun hx => (hF b (sp.left hx)).1 hb, hp b hb⟩))
  exact hr.mono fun v w' ⟨i, e, hs'⟩ => ⟨i, e, hs'.frameX h2 (fun b hb => (hF b (sp.right hb)).2) sp⟩
theorem Pu.makeFunc {f : FuncId} {xs : Array Operand} (ls : List Operand) {us : List Value} (hls : xs = ls.toArray) (hl : ls.length = us.length) :
    Pu P ⟨d, .makeFunc (.func f) #[] xs, ty, ps, af, none⟩ (pairs ls us) (.func (.func f) #[] us.toArray) := fun ρ w hv => by
  subst hls
  have : (ls.toArray.map ρ) = us.toArray := by
    apply Array.ext'
    simpa using pairs_args hl hv
  simp only [execOp, Instr.makeFunc]
  have h0 : Array.map ρ #[] = #[] := by simp
  rw [this, h0]
  rfl
end
end Go.Proofs.Sx

