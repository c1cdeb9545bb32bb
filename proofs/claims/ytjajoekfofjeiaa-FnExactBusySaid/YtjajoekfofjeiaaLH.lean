/- Plain facts for the laws' own functions: loops as sequences of states, arithmetic that does not go round. -/
import Derived.Test.YtjajoekfofjeiaaLF
namespace Go.Proofs.Sx
open Go.RowKit
set_option linter.unusedVariables false
set_option linter.unusedSimpArgs false
set_option linter.unusedSectionVars false

def wfI (x : Int) : Prop := -9223372036854775808 ≤ x ∧ x ≤ 9223372036854775807
def wfU8 (x : Int) : Prop := 0 ≤ x ∧ x ≤ 255
def wfB (x : Bool) : Prop := True
def wfL {α : Type} (f : α → Prop) (l : List α) : Prop := l.length ≤ maxLen ∧ ∀ y ∈ l, f y

/-- Small: what the laws' own bound lets in. -/
def smT {α : Type} (x : α) : Prop := True
def smL {α : Type} (f : α → Prop) (l : List α) : Prop := l.length ≤ 1048576 ∧ ∀ y ∈ l, f y

/-- More rounds than any loop here has. -/
def Big (k : Nat) : Prop := 9223372036854775808 ≤ k

theorem w64 {n : Int} (h1 : -9223372036854775808 ≤ n) (h2 : n ≤ 9223372036854775807) : wrap64 n = n := by unfold wrap64; omega
theorem w64s {n : Nat} (h : n < 9223372036854775807) : wrap64 ((n : Int) + 1) = ((n + 1 : Nat) : Int) := by rw [w64] <;> omega

theorem loopM_run {σ ρ : Type} {b : σ → Option (Nx σ ρ)} (s : Nat → σ) {r : Nx σ ρ} (hr : ∀ t, r ≠ .next t) : ∀ (n i k : Nat), (∀ j, i ≤ j → j < i + n → b (s j) = some (.next (s (j + 1)))) → b (s (i + n)) = some r → n < k →
    loopM b k (s i) = some r
  | 0, i, k + 1, _, he, _ => by
    rw [loopM]; rw [Nat.add_zero] at he; rw [he]
    cases r with
    | next t => exact absurd rfl (hr t)
    | out t => rfl
    | ret t => rfl
  | n + 1, i, k + 1, hs, he, hk => by
    rw [loopM, hs i (Nat.le_refl _) (by omega)]
    exact loopM_run s hr n (i + 1) k (fun j h1 h2 => hs j (by omega) (by omega)) (by rw [show i + 1 + n = i + (n + 1) by omega]; exact he) (by omega)

/-- The same from state 0. -/
theorem loopM_run0 {σ ρ : Type} {b : σ → Option (Nx σ ρ)} (s : Nat → σ) (n : Nat) {r : Nx σ ρ} {k : Nat} (hr : ∀ t, r ≠ .next t) (hs : ∀ j, j < n → b (s j) = some (.next (s (j + 1)))) (he : b (s n) = some r) (hk : n < k) :
    loopM b k (s 0) = some r := loopM_run s hr n 0 k (fun j _ h => hs j (by omega)) (by rw [Nat.zero_add]; exact he) hk

/-- A loop ends where a measure falls. -/
theorem loopM_ends {σ ρ : Type} {b : σ → Option (Nx σ ρ)} (I : σ → Prop) (μ : σ → Nat) (Q : Nx σ ρ → Prop)
    (hs : ∀ s, I s → ∃ o, b s = some o ∧ match o with
      | .next s' => I s' ∧ μ s' < μ s
      | o => Q o) : ∀ (k : Nat) (s : σ), I s → μ s < k → ∃ o, loopM b k s = some o ∧ Q o
  | k + 1, s, hi, hk => by
    obtain ⟨o, h1, h2⟩ := hs s hi
    rw [loopM, h1]
    match o, h2 with
    | .next s', ⟨h3, h4⟩ => exact loopM_ends I μ Q hs k s' h3 (by omega)
    | .out s', h3 => exact ⟨_, rfl, h3⟩
    | .ret r, h3 => exact ⟨_, rfl, h3⟩

theorem okLen_le {n m : Nat} (h : okLen n = true) (hm : m ≤ n) : okLen m = true := by simp only [okLen, decide_eq_true_eq] at *; omega
theorem okLen_iff {n : Nat} : okLen n = true ↔ n < 274877906944 := by simp [okLen]

theorem gt_nat {α : Type} [Inhabited α] {l : List α} {i : Nat} (h : i < l.length) : gt l (i : Int) = l[i] := by simp [gt, List.getD_eq_getElem?_getD, h]

/-- out := make([]T, len(p)); for i: out[i] = f(p[i]). -/
theorem loop_fill {α β ρ : Type} [Inhabited α] {f : α → β} {p : List α} {z : List β} {k : Nat} {b : (List β × Int) → Option (Nx (List β × Int) ρ)} (hz : z.length = p.length) (hn : p.length < 9223372036854775807) (hk : Big k)
    (hb : ∀ (l : List β) (i : Nat) (hi : i < p.length), l.length = p.length → b (l, (i : Int)) = some (.next (l.set i (f p[i]), ((i + 1 : Nat) : Int))))
    (he : ∀ l : List β, b (l, (p.length : Int)) = some (.out (l, (p.length : Int)))) :
    loopM b k (z, 0) = some (.out (p.map f, (p.length : Int))) := by
  have key := loopM_run0 (b := b) (k := k) (fun i => ((p.map f).take i ++ z.drop i, (i : Int))) p.length (r := .out (p.map f, (p.length : Int))) (fun t h => by cases h) ?_ ?_ (by have : 9223372036854775808 ≤ k := hk; omega)
  · simpa using key
  · intro j hj
    have h1 : ((p.map f).take j ++ z.drop j).length = p.length := by simp; omega
    rw [hb _ j hj h1]
    congr 3
    rw [List.set_append_right _ _ (by simp; omega)]
    have h2 : j - ((p.map f).take j).length = 0 := by simp; omega
    rw [h2, List.take_add_one]
    have h3 : (p.map f)[j]? = some (f p[j]) := by simp [hj]
    rw [h3]
    have h4 : z.drop j = z[j] :: z.drop (j + 1) := List.drop_eq_getElem_cons (by omega)
    rw [h4, List.set_cons_zero, Option.toList_some, List.append_assoc]
    rfl
  · have h1 : ((p.map f).take p.length ++ z.drop p.length) = p.map f := by
      rw [List.take_of_length_le (by simp), List.drop_of_length_le (by omega), List.append_nil]
    rw [h1]; exact he _

/-- for i: if !c(i) return r. -/
theorem loop_all {ρ : Type} {c : Nat → Bool} {r : ρ} {n k : Nat} {b : Int → Option (Nx Int ρ)} (hn : n < 9223372036854775807) (hk : Big k)
    (hb : ∀ i : Nat, i < n → b (i : Int) = some (if c i then .next ((i + 1 : Nat) : Int) else .ret r)) (he : b (n : Int) = some (.out (n : Int))) :
    loopM b k 0 = some (if ∀ i, i < n → c i = true then .out (n : Int) else .ret r) := by
  have hk' : 9223372036854775808 ≤ k := hk
  by_cases h : ∀ i, i < n → c i = true
  · rw [if_pos h]
    exact loopM_run0 (b := b) (fun i => (i : Int)) n (fun t h => by cases h) (fun j hj => by rw [hb j hj, h j hj]; rfl) he (by omega)
  · rw [if_neg h]
    have : ∃ i, i < n ∧ c i = false ∧ ∀ j, j < i → c j = true := by
      have h0 : ∃ i, i < n ∧ c i = false := by
        apply Classical.byContradiction
        intro hh
        exact h fun i hi => by
          cases e : c i with
          | true => rfl
          | false => exact absurd ⟨i, hi, e⟩ hh
      clear h
      obtain ⟨i, hi, hc⟩ := h0
      induction i using Nat.strongRecOn with
      | ind i ih =>
        by_cases hx : ∃ j, j < i ∧ c j = false
        · obtain ⟨j, h1, h2⟩ := hx
          exact ih j h1 (by omega) h2
        · refine ⟨i, hi, hc, fun j hj => ?_⟩
          cases e : c j with
          | true => rfl
          | false => exact absurd ⟨j, hj, e⟩ hx
    obtain ⟨i, hi, hc, hall⟩ := this
    exact loopM_run0 (b := b) (fun i => (i : Int)) i (fun t h => by cases h) (fun j hj => by rw [hb j (by omega), hall j hj]; rfl) (by rw [hb i hi, hc]; rfl) (by omega)

theorem all_eq_iff {α : Type} [DecidableEq α] {l m : List α} (h : l.length = m.length) : (∀ (i : Nat) (hi : i < l.length), l[i] = m[i]) ↔ l = m := by
  constructor
  · intro hh
    exact List.ext_getElem h fun i h1 h2 => hh i h1
  · rintro rfl i hi; rfl
end Go.Proofs.Sx
