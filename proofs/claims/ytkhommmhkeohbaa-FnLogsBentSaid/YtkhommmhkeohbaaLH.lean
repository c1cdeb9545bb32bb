/- Part of a program logic; see the notes. -/
import Derived.Test.YtkhommmhkeohbaaLF
namespace Go.Proofs.Sx
open Go.RowKit
set_option linter.unusedVariables false
set_option linter.unusedSimpArgs false
set_option linter.unusedSectionVars false
def wfI (x : Int) : Prop := -9223372036854775808 ≤ x ∧ x ≤ 9223372036854775807
def wfU8 (x : Int) : Prop := 0 ≤ x ∧ x ≤ 255
def wfB (x : Bool) : Prop := True
def wfL {α : Type} (f : α → Prop) (l : List α) : Prop := l.length ≤ maxLen ∧ ∀ y ∈ l, f y
def smT (N : Nat) {α : Type} (x : α) : Prop := True
def smL (N : Nat) {α : Type} (f : α → Prop) (l : List α) : Prop := l.length ≤ N ∧ ∀ y ∈ l, f y
def Big (k : Nat) : Prop := 9223372036854775808 ≤ k
theorem w64 {n : Int} (h1 : -9223372036854775808 ≤ n) (h2 : n ≤ 9223372036854775807) : wrap64 n = n := by unfold wrap64; omega
theorem w64s {n : Nat} (h : n < 9223372036854775807) : wrap64 ((n : Int) + 1) = ((n + 1 : Nat) : Int) := by rw [w64] <;> omega
theorem loopM_run {σ ρ : Type} {b : σ → Option (Nx σ ρ)} (s : Nat → σ) {r : Nx σ ρ} (hr : ∀ t, r ≠ .next t) : ∀ (n i k : Nat), (∀ j, i ≤ j → j < i + n → b (s j) = some (.next (s (j + 1)))) → b (s (i + n)) = some r → n < k →
    loopM b k (s i) = some r
  | 0, i, k + 1, _, he, _ => by
    rw [loopM]; rw [Nat.add_zero] at he; rw [he]
    cases r with
    | next t => exact absurd rfl (hr t)
    | out t => rfl
    | ret t => rfl
  | n + 1, i, k + 1, hs, he, hk => by
    rw [loopM, hs i (Nat.le_refl _) (by omega)]
    exact loopM_run s hr n (i + 1) k (fun j h1 h2 => hs j (by omega) (by omega)) (by rw [show i + 1 + n = i + (n + 1) by omega]; exact he) (by omega)
theorem loopM_run0 {σ ρ : Type} {b : σ → Option (Nx σ ρ)} (s : Nat → σ) (n : Nat) {r : Nx σ ρ} {k : Nat} (hr : ∀ t, r ≠ .next t) (hs : ∀ j, j < n → b (s j) = some (.next (s (j + 1)))) (he : b (s n) = some r) (hk : n < k) :
    loopM b k (s 0) = some r := loopM_run s hr n 0 k (fun j _ h => hs j (by omega)) (by rw [Nat.zero_add]; exact he) hk
theorem loopM_ends {σ ρ : Type} {b : σ → Option (Nx σ ρ)} (I : σ → Prop) (μ : σ → Nat) (Q : Nx σ ρ → Prop)
    (hs : ∀ s, I s → ∃ o, b s = some o ∧ match o with
      | .next s' => I s' ∧ μ s' < μ s
      | o => Q o) : ∀ (k : Nat) (s : σ), I s → μ s < k → ∃ o, loopM b k s = some o ∧ Q o
  | k + 1, s, hi, hk => by
    obtain ⟨o, h1, h2⟩ := hs s hi
    rw [loopM, h1]
    match o, h2 with
    | .next s', ⟨h3, h4⟩ => exact loopM_ends I μ Q hs k s' h3 (by omega)
    | .out s', h3 => exact ⟨_, rfl, h3⟩
    | .ret r, h3 => exact ⟨_, rfl, h3⟩
theorem okLen_le {n m : Nat} (h : okLen n = true) (hm : m ≤ n) : okLen m = true := by simp only [okLen, decide_eq_true_eq] at *; omega
theorem okLen_iff {n : Nat} : okLen n = true ↔ n < 274877906944 := by simp [okLen]
theorem gt_nat {α : Type} [Inhabited α] {l : List α} {i : Nat} (h : i < l.length) : gt l (i : Int) = l[i] := by simp [gt, List.getD_eq_getElem?_getD, h]
theorem loop_all {ρ : Type} {c : Nat → Bool} {r : ρ} {n k : Nat} {b : Int → Option (Nx Int ρ)} (hn : n < 9223372036854775807) (hk : Big k)
    (hb : ∀ i : Nat, i < n → b (i : Int) = some (if c i then .next ((i + 1 : Nat) : Int) else .ret r)) (he : b (n : Int) = some (.out (n : Int))) :
    loopM b k 0 = some (if ∀ i, i < n → c i = true then .out (n : Int) else .ret r) := by
  have hk' : 9223372036854775808 ≤ k := hk
  by_cases h : ∀ i, i < n → c i = true
  · rw [if_pos h]
    exact loopM_run0 (b := b) (fun i => (i : Int)) n (fun t h => by cases h) (fun j hj => by rw [hb j hj, h j hj]; rfl) he (by omega)
  · rw [if_neg h]
    have : ∃ i, i < n ∧ c i = false ∧ ∀ j, j < i → c j = true := by
      have h0 : ∃ i, i < n ∧ c i = false := by
        apply Classical.byContradiction
        intro hh
        exact h fun i hi => by
          cases e : c i with
          | true => rfl
          | false => exact absurd ⟨i, hi, e⟩ hh
      clear h
      obtain ⟨i, hi, hc⟩ := h0
      induction i using Nat.strongRecOn with
      | ind i ih =>
        by_cases hx : ∃ j, j < i ∧ c j = false
        · obtain ⟨j, h1, h2⟩ := hx
          exact ih j h1 (by omega) h2
        · refine ⟨i, hi, hc, fun j hj => ?_⟩
          cases e : c j with
          | true => rfl
          | false => exact absurd ⟨j, hj, e⟩ hx
    obtain ⟨i, hi, hc, hall⟩ := this
    exact loopM_run0 (b := b) (fun i => (i : Int)) i (fun t h => by cases h) (fun j hj => by rw [hb j (by omega), hall j hj]; rfl) (by rw [hb i hi, hc]; rfl) (by omega)
theorem u8w (n : Int) : IntKind.u8.wrap n = n % 256 := by rw [IntKind.wrap_u8]
theorem i64w (n : Int) : IntKind.i64.wrap n = wrap64 n := i64_w n
theorem tdiv_pos {a b : Int} (h : 0 ≤ a) : Int.tdiv a b = a / b := Int.tdiv_eq_ediv_of_nonneg h
theorem tmod_pos {a b : Int} (h : 0 ≤ a) : Int.tmod a b = a % b := Int.tmod_eq_emod_of_nonneg h
theorem fdiv_pos {a b : Int} (h : 0 ≤ b) : Int.fdiv a b = a / b := Int.fdiv_eq_ediv_of_nonneg a h
theorem sh8 : (2 : Int) ^ (min (Int.toNat 8) 64) = 256 := by decide
theorem some_bind {α β : Type} (a : α) (f : α → Option β) : (some a).bind f = f a := rfl
def markL {α : Type} (F : α → Int → α) (c : α → Nat) : List α → Int → List α
  | [], _ => []
  | x :: xs, m => F x m :: markL F c xs (m + c x)
def sumL {α : Type} (c : α → Nat) : List α → Nat
  | [] => 0
  | x :: xs => c x + sumL c xs
def firstN (c : Nat → Bool) (n : Nat) : Option Nat := (List.range n).find? c
theorem firstN_some {c : Nat → Bool} {n i : Nat} (h : firstN c n = some i) : i < n ∧ c i = true ∧ ∀ j, j < i → c j = false := by
  unfold firstN at h
  have h1 := List.mem_of_find?_eq_some h
  have h2 := List.find?_some h
  refine ⟨by simpa using h1, h2, fun j hj => ?_⟩
  rw [List.find?_eq_some_iff_getElem] at h
  obtain ⟨_, i', hi', e, hall⟩ := h
  simp only [List.getElem_range] at e hall
  subst e
  simpa using hall j hj
theorem firstN_none {c : Nat → Bool} {n : Nat} (h : firstN c n = none) : ∀ j, j < n → c j = false := by
  unfold firstN at h
  intro j hj
  have := List.find?_eq_none.1 h j (by simpa using hj)
  simpa using this
theorem loop_first {σ ρ : Type} {b : σ → Option (Nx σ ρ)} (s : Nat → σ) (c : Nat → Bool) (R : Nat → Nx σ ρ) {n k : Nat} (hn : n < 9223372036854775807) (hk : Big k) (hR : ∀ i t, R i ≠ .next t)
    (hb : ∀ i, i < n → b (s i) = some (if c i = true then R i else .next (s (i + 1)))) (he : b (s n) = some (.out (s n))) :
    loopM b k (s 0) = some (match firstN c n with
      | some i => R i
      | none => .out (s n)) := by
  have hk' : 9223372036854775808 ≤ k := hk
  cases h : firstN c n with
  | none =>
    have h1 := firstN_none h
    exact loopM_run0 s n (fun t h => by cases h) (fun j hj => by rw [hb j hj, h1 j hj]; rfl) he (by omega)
  | some i =>
    obtain ⟨h1, h2, h3⟩ := firstN_some h
    exact loopM_run0 s i (hR i) (fun j hj => by rw [hb j (by omega), h3 j hj]; rfl) (by rw [hb i h1, h2]; rfl) (by omega)
theorem and_if (p q : Prop) [Decidable p] [Decidable q] : (if decide p = true then some (decide q) else some false) = some (decide (p ∧ q)) := by
  by_cases hp : p <;> simp [hp]
theorem not_dec (p : Prop) [Decidable p] : (!decide p) = decide (¬ p) := by simp
theorem some_dec {p q : Prop} [Decidable p] [Decidable q] (h : p ↔ q) : some (decide p) = some (decide q) := by rw [decide_eq_decide.2 h]
theorem fm_succ {α β : Type} {f : α → List β} {p : List α} {j : Nat} (h : j < p.length) : (p.take (j + 1)).flatMap f = (p.take j).flatMap f ++ f p[j] := by
  rw [List.take_add_one, List.getElem?_eq_getElem h, Option.toList_some, List.flatMap_append]; simp
theorem fm_len {α β : Type} {f : α → List β} {B : Nat} : ∀ {p : List α}, (∀ y ∈ p, (f y).length ≤ B) → (p.flatMap f).length ≤ p.length * B
  | [], _ => by simp
  | x :: xs, h => by
    have h1 := h x (List.mem_cons_self ..)
    have h2 := fm_len (p := xs) fun y hy => h y (List.mem_cons_of_mem _ hy)
    simp only [List.flatMap_cons, List.length_append, List.length_cons, Nat.add_mul]; omega
theorem fm_all {α β : Type} (f : α → List β) (p : List α) : (p.take p.length).flatMap f = p.flatMap f := by rw [List.take_length]
theorem loop_app {α β ρ : Type} {f : α → List β} {p : List α} {z : List β} {k B : Nat} {b : (List β × Int) → Option (Nx (List β × Int) ρ)} (hn : p.length < 9223372036854775807) (hk : Big k) (hB : ∀ y ∈ p, (f y).length ≤ B)
    (hb : ∀ (i : Nat) (hi : i < p.length) (l : List β), l.length ≤ z.length + i * B → b (l, (i : Int)) = some (.next (l ++ f p[i], ((i + 1 : Nat) : Int))))
    (he : ∀ l : List β, b (l, (p.length : Int)) = some (.out (l, (p.length : Int)))) :
    loopM b k (z, 0) = some (.out (z ++ p.flatMap f, (p.length : Int))) := by
  have key := loopM_run0 (b := b) (k := k) (fun i => (z ++ (p.take i).flatMap f, (i : Int))) p.length (r := .out (z ++ p.flatMap f, (p.length : Int))) (fun t h => by cases h) ?_ ?_ (by have : 9223372036854775808 ≤ k := hk; omega)
  · simpa using key
  · intro j hj
    have h1 := fm_len (f := f) (p := p.take j) (B := B) fun y hy => hB y (List.mem_of_mem_take hy)
    rw [hb j hj _ (by simp only [List.length_append]; rw [List.length_take, Nat.min_eq_left (by omega)] at h1; omega), fm_succ hj, List.append_assoc]
  · show b (z ++ (p.take p.length).flatMap f, (p.length : Int)) = _
    rw [fm_all]; exact he _
end Go.Proofs.Sx

