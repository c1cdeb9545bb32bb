/- Part of a program logic; see the notes. -/
import Derived.Test.YtkhommmhkeohbaaLH
namespace Go.Proofs.Sx
open Go.RowKit
set_option linter.unusedVariables false
set_option linter.unusedSimpArgs false
set_option linter.unusedSectionVars false
theorem fm_single {α : Type} : ∀ l : List α, (l.flatMap fun x => [x]) = l
  | [] => rfl
  | x :: l => by rw [List.flatMap_cons, fm_single l]; rfl
theorem fm_map {α β : Type} (f : α → β) : ∀ l : List α, (l.flatMap fun x => [f x]) = l.map f
  | [] => rfl
  | x :: l => by rw [List.flatMap_cons, fm_map f l]; rfl
theorem loop_app2 {α β ρ : Type} {f : α → List β} {p : List α} {z : List β} {k B : Nat} {b : (Int × List β) → Option (Nx (Int × List β) ρ)} (hn : p.length < 9223372036854775807) (hk : Big k) (hB : ∀ y ∈ p, (f y).length ≤ B)
    (hb : ∀ (i : Nat) (hi : i < p.length) (l : List β), l.length ≤ z.length + i * B → b ((i : Int), l) = some (.next (((i + 1 : Nat) : Int), l ++ f p[i])))
    (he : ∀ l : List β, b ((p.length : Int), l) = some (.out ((p.length : Int), l))) :
    loopM b k (0, z) = some (.out ((p.length : Int), z ++ p.flatMap f)) := by
  have key := loopM_run0 (b := b) (k := k) (fun i => ((i : Int), z ++ (p.take i).flatMap f)) p.length (r := .out ((p.length : Int), z ++ p.flatMap f)) (fun t h => by cases h) ?_ ?_ (by have : 9223372036854775808 ≤ k := hk; omega)
  · simpa using key
  · intro j hj
    have h1 := fm_len (f := f) (p := p.take j) (B := B) fun y hy => hB y (List.mem_of_mem_take hy)
    rw [hb j hj _ (by simp only [List.length_append]; rw [List.length_take, Nat.min_eq_left (by omega)] at h1; omega), fm_succ hj, List.append_assoc]
  · show b ((p.length : Int), z ++ (p.take p.length).flatMap f) = _
    rw [fm_all]; exact he _
theorem firstN_any {c : Nat → Bool} {n : Nat} : (List.range n).any c = (firstN c n).isSome := by
  cases h : firstN c n with
  | none =>
    have h1 := firstN_none h
    simp only [Option.isSome_none, List.any_eq_false, List.mem_range, Bool.not_eq_true]
    exact h1
  | some i =>
    obtain ⟨h1, h2, _⟩ := firstN_some h
    simp only [Option.isSome_some, List.any_eq_true, List.mem_range]
    exact ⟨i, h1, h2⟩
theorem some_ite {α : Type} (c : Prop) [Decidable c] (a b : α) : (if c then some a else some b) = some (if c then a else b) := by split <;> rfl
theorem firstN_zero {c : Nat → Bool} : firstN c 0 = none := rfl
theorem loopM_both {σ ρ : Type} {b c : σ → Option (Nx σ ρ)} (I : σ → Prop) (μ : σ → Nat) (Q : Nx σ ρ → Prop)
    (hs : ∀ s, I s → ∃ o, b s = some o ∧ c s = some o ∧ match o with
      | .next s' => I s' ∧ μ s' < μ s
      | o => Q o) : ∀ (k : Nat) (s : σ), I s → μ s < k → ∃ o, loopM b k s = some o ∧ loopM c k s = some o ∧ Q o
  | k + 1, s, hi, hk => by
    obtain ⟨o, h1, h1', h2⟩ := hs s hi
    rw [loopM, loopM, h1, h1']
    match o, h2 with
    | .next s', ⟨h3, h4⟩ => exact loopM_both I μ Q hs k s' h3 (by omega)
    | .out s', h3 => exact ⟨_, rfl, rfl, h3⟩
    | .ret r, h3 => exact ⟨_, rfl, rfl, h3⟩
end Go.Proofs.Sx

