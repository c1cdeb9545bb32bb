/- Plain facts for the laws' own functions: loops as sequences of states, arithmetic that does not go round. -/
import Derived.Test.YtkhommmhkeohbaaLF
namespace Go.Proofs.Sx
open Go.RowKit
set_option linter.unusedVariables false
set_option linter.unusedSimpArgs false
set_option linter.unusedSectionVars false

def wfI (x : Int) : Prop := -9223372036854775808 ≤ x ∧ x ≤ 9223372036854775807
def wfU8 (x : Int) : Prop := 0 ≤ x ∧ x ≤ 255
def wfB (x : Bool) : Prop := True
def wfL {α : Type} (f : α → Prop) (l : List α) : Prop := l.length ≤ maxLen ∧ ∀ y ∈ l, f y

/-- Small: what the laws' own bound lets in. -/
def smT (N : Nat) {α : Type} (x : α) : Prop := True
def smL (N : Nat) {α : Type} (f : α → Prop) (l : List α) : Prop := l.length ≤ N ∧ ∀ y ∈ l, f y

/-- More rounds than any loop here has. -/
def Big (k : Nat) : Prop := 9223372036854775808 ≤ k

theorem w64 {n : Int} (h1 : -9223372036854775808 ≤ n) (h2 : n ≤ 9223372036854775807) : wrap64 n = n := by unfold wrap64; omega
theorem w64s {n : Nat} (h : n < 9223372036854775807) : wrap64 ((n : Int) + 1) = ((n + 1 : Nat) : Int) := by rw [w64] <;> omega

theorem loopM_run {σ ρ : Type} {b : σ → Option (Nx σ ρ)} (s : Nat → σ) {r : Nx σ ρ} (hr : ∀ t, r ≠ .next t) : ∀ (n i k : Nat), (∀ j, i ≤ j → j < i + n → b (s j) = some (.next (s (j + 1)))) → b (s (i + n)) = some r → n < k →
    loopM b k (s i) = some r
  | 0, i, k + 1, _, he, _ => by
    rw [loopM]; rw [Nat.add_zero] at he; rw [he]
    cases r with
    | next t => exact absurd rfl (hr t)
    | out t => rfl
    | ret t => rfl
  | n + 1, i, k + 1, hs, he, hk => by
    rw [loopM, hs i (Nat.le_refl _) (by omega)]
    exact loopM_run s hr n (i + 1) k (fun j h1 h2 => hs j (by omega) (by omega)) (by rw [show i + 1 + n = i + (n + 1) by omega]; exact he) (by omega)

/-- The same from state 0. -/
theorem loopM_run0 {σ ρ : Type} {b : σ → Option (Nx σ ρ)} (s : Nat → σ) (n : Nat) {r : Nx σ ρ} {k : Nat} (hr : ∀ t, r ≠ .next t) (hs : ∀ j, j < n → b (s j) = some (.next (s (j + 1)))) (he : b (s n) = some r) (hk : n < k) :
    loopM b k (s 0) = some r := loopM_run s hr n 0 k (fun j _ h => hs j (by omega)) (by rw [Nat.zero_add]; exact he) hk

/-- A loop ends where a measure falls. -/
theorem loopM_ends {σ ρ : Type} {b : σ → Option (Nx σ ρ)} (I : σ → Prop) (μ : σ → Nat) (Q : Nx σ ρ → Prop)
    (hs : ∀ s, I s → ∃ o, b s = some o ∧ match o with
      | .next s' => I s' ∧ μ s' < μ s
      | o => Q o) : ∀ (k : Nat) (s : σ), I s → μ s < k → ∃ o, loopM b k s = some o ∧ Q o
  | k + 1, s, hi, hk => by
    obtain ⟨o, h1, h2⟩ := hs s hi
    rw [loopM, h1]
    match o, h2 with
    | .next s', ⟨h3, h4⟩ => exact loopM_ends I μ Q hs k s' h3 (by omega)
    | .out s', h3 => exact ⟨_, rfl, h3⟩
    | .ret r, h3 => exact ⟨_, rfl, h3⟩

theorem okLen_le {n m : Nat} (h : okLen n = true) (hm : m ≤ n) : okLen m = true := by simp only [okLen, decide_eq_true_eq] at *; omega
theorem okLen_iff {n : Nat} : okLen n = true ↔ n < 274877906944 := by simp [okLen]

theorem gt_nat {α : Type} [Inhabited α] {l : List α} {i : Nat} (h : i < l.length) : gt l (i : Int) = l[i] := by simp [gt, List.getD_eq_getElem?_getD, h]

/-- out := make([]T, len(p)); for i: out[i] = f(p[i]). -/
theorem loop_fill {α β ρ : Type} [Inhabited α] {f : α → β} {p : List α} {z : List β} {k : Nat} {b : (List β × Int) → Option (Nx (List β × Int) ρ)} (hz : z.length = p.length) (hn : p.length < 9223372036854775807) (hk : Big k)
    (hb : ∀ (l : List β) (i : Nat) (hi : i < p.length), l.length = p.length → b (l, (i : Int)) = some (.next (l.set i (f p[i]), ((i + 1 : Nat) : Int))))
    (he : ∀ l : List β, b (l, (p.length : Int)) = some (.out (l, (p.length : Int)))) :
    loopM b k (z, 0) = some (.out (p.map f, (p.length : Int))) := by
  have key := loopM_run0 (b := b) (k := k) (fun i => ((p.map f).take i ++ z.drop i, (i : Int))) p.length (r := .out (p.map f, (p.length : Int))) (fun t h => by cases h) ?_ ?_ (by have : 9223372036854775808 ≤ k := hk; omega)
  · simpa using key
  · intro j hj
    have h1 : ((p.map f).take j ++ z.drop j).length = p.length := by simp; omega
    rw [hb _ j hj h1]
    congr 3
    rw [List.set_append_right _ _ (by simp; omega)]
    have h2 : j - ((p.map f).take j).length = 0 := by simp; omega
    rw [h2, List.take_add_one]
    have h3 : (p.map f)[j]? = some (f p[j]) := by simp [hj]
    rw [h3]
    have h4 : z.drop j = z[j] :: z.drop (j + 1) := List.drop_eq_getElem_cons (by omega)
    rw [h4, List.set_cons_zero, Option.toList_some, List.append_assoc]
    rfl
  · have h1 : ((p.map f).take p.length ++ z.drop p.length) = p.map f := by
      rw [List.take_of_length_le (by simp), List.drop_of_length_le (by omega), List.append_nil]
    rw [h1]; exact he _

/-- for i: if !c(i) return r. -/
theorem loop_all {ρ : Type} {c : Nat → Bool} {r : ρ} {n k : Nat} {b : Int → Option (Nx Int ρ)} (hn : n < 9223372036854775807) (hk : Big k)
    (hb : ∀ i : Nat, i < n → b (i : Int) = some (if c i then .next ((i + 1 : Nat) : Int) else .ret r)) (he : b (n : Int) = some (.out (n : Int))) :
    loopM b k 0 = some (if ∀ i, i < n → c i = true then .out (n : Int) else .ret r) := by
  have hk' : 9223372036854775808 ≤ k := hk
  by_cases h : ∀ i, i < n → c i = true
  · rw [if_pos h]
    exact loopM_run0 (b := b) (fun i => (i : Int)) n (fun t h => by cases h) (fun j hj => by rw [hb j hj, h j hj]; rfl) he (by omega)
  · rw [if_neg h]
    have : ∃ i, i < n ∧ c i = false ∧ ∀ j, j < i → c j = true := by
      have h0 : ∃ i, i < n ∧ c i = false := by
        apply Classical.byContradiction
        intro hh
        exact h fun i hi => by
          cases e : c i with
          | true => rfl
          | false => exact absurd ⟨i, hi, e⟩ hh
      clear h
      obtain ⟨i, hi, hc⟩ := h0
      induction i using Nat.strongRecOn with
      | ind i ih =>
        by_cases hx : ∃ j, j < i ∧ c j = false
        · obtain ⟨j, h1, h2⟩ := hx
          exact ih j h1 (by omega) h2
        · refine ⟨i, hi, hc, fun j hj => ?_⟩
          cases e : c j with
          | true => rfl
          | false => exact absurd ⟨j, hj, e⟩ hx
    obtain ⟨i, hi, hc, hall⟩ := this
    exact loopM_run0 (b := b) (fun i => (i : Int)) i (fun t h => by cases h) (fun j hj => by rw [hb j (by omega), hall j hj]; rfl) (by rw [hb i hi, hc]; rfl) (by omega)

theorem gt_eq_of {α : Type} [Inhabited α] {l : List α} {i : Nat} {x : α} (h : l[i]? = some x) : gt l (i : Int) = x := by
  simp [gt, List.getD_eq_getElem?_getD, h]
theorem gt_set_self {α : Type} [Inhabited α] {l : List α} {i : Nat} {x : α} (h : i < l.length) : gt (l.set i x) (i : Int) = x := gt_eq_of (by simp [h])

theorem u8w (n : Int) : IntKind.u8.wrap n = n % 256 := by rw [IntKind.wrap_u8]
theorem i64w (n : Int) : IntKind.i64.wrap n = wrap64 n := i64_w n
theorem tdiv_pos {a b : Int} (h : 0 ≤ a) : Int.tdiv a b = a / b := Int.tdiv_eq_ediv_of_nonneg h
theorem tmod_pos {a b : Int} (h : 0 ≤ a) : Int.tmod a b = a % b := Int.tmod_eq_emod_of_nonneg h
theorem fdiv_pos {a b : Int} (h : 0 ≤ b) : Int.fdiv a b = a / b := Int.fdiv_eq_ediv_of_nonneg a h
theorem sh8 : (2 : Int) ^ (min (Int.toNat 8) 64) = 256 := by decide
theorem some_bind {α β : Type} (a : α) (f : α → Option β) : (some a).bind f = f a := rfl

/-! ### Marks: every word of a value gets a number -/
def markL {α : Type} (F : α → Int → α) (c : α → Nat) : List α → Int → List α
  | [], _ => []
  | x :: xs, m => F x m :: markL F c xs (m + c x)
def sumL {α : Type} (c : α → Nat) : List α → Nat
  | [] => 0
  | x :: xs => c x + sumL c xs

theorem markL_length {α : Type} {F : α → Int → α} {c : α → Nat} : ∀ {l : List α} {m : Int}, (markL F c l m).length = l.length
  | [], _ => rfl
  | x :: xs, m => by simp [markL, markL_length (l := xs)]
theorem sumL_append {α : Type} {c : α → Nat} : ∀ {l r : List α}, sumL c (l ++ r) = sumL c l + sumL c r
  | [], r => by simp [sumL]
  | x :: xs, r => by simp [sumL, sumL_append (l := xs)]; omega
theorem markL_append {α : Type} {F : α → Int → α} {c : α → Nat} : ∀ {l r : List α} {m : Int}, markL F c (l ++ r) m = markL F c l m ++ markL F c r (m + sumL c l)
  | [], r, m => by simp [markL, sumL]
  | x :: xs, r, m => by
    simp only [List.cons_append, markL, sumL, markL_append (l := xs)]
    congr 3; omega
theorem sumL_take {α : Type} {c : α → Nat} (l : List α) (i : Nat) : sumL c (l.take i) ≤ sumL c l := by
  have : sumL c l = sumL c (l.take i) + sumL c (l.drop i) := by rw [← sumL_append, List.take_append_drop]
  omega
theorem sumL_succ {α : Type} {c : α → Nat} {l : List α} {i : Nat} (h : i < l.length) : sumL c (l.take (i + 1)) = sumL c (l.take i) + c l[i] := by
  rw [List.take_add_one, List.getElem?_eq_getElem h, Option.toList_some, sumL_append]; simp [sumL]
theorem markL_get {α : Type} {F : α → Int → α} {c : α → Nat} {l : List α} {m : Int} {i : Nat} (h : i < l.length) : (markL F c l m)[i]? = some (F l[i] (m + sumL c (l.take i))) := by
  have e : l = l.take i ++ l[i] :: l.drop (i + 1) := by rw [← List.drop_eq_getElem_cons h, List.take_append_drop]
  conv => lhs; rw [e]
  rw [markL_append, List.getElem?_append_right (by rw [markL_length]; simp; omega), markL_length]
  have : i - (l.take i).length = 0 := by simp; omega
  rw [this]; rfl
theorem sumL_le {α : Type} {c : α → Nat} {B : Nat} : ∀ {l : List α}, (∀ y ∈ l, c y ≤ B) → sumL c l ≤ l.length * B
  | [], _ => by simp [sumL]
  | x :: xs, h => by
    have h1 := h x (List.mem_cons_self ..)
    have h2 := sumL_le (l := xs) fun y hy => h y (List.mem_cons_of_mem _ hy)
    simp only [sumL, List.length_cons, Nat.add_mul]; omega

theorem loop_mark {α ρ : Type} {F : α → Int → α} {c : α → Nat} {p : List α} {m B : Int} {k : Nat} {b : (List α × Int × Int) → Option (Nx (List α × Int × Int) ρ)} (hn : p.length < 9223372036854775807) (hk : Big k) (h0 : 0 ≤ m) (hB : m + sumL c p ≤ B)
    (hb : ∀ (l : List α) (i : Nat) (hi : i < p.length) (q : Int), l.length = p.length → l[i]? = some p[i] → 0 ≤ q → q + c p[i] ≤ B → b (l, q, (i : Int)) = some (.next (l.set i (F p[i] q), q + c p[i], ((i + 1 : Nat) : Int))))
    (he : ∀ (l : List α) q, l.length = p.length → b (l, q, (p.length : Int)) = some (.out (l, q, (p.length : Int)))) :
    loopM b k (p, m, 0) = some (.out (markL F c p m, m + sumL c p, (p.length : Int))) := by
  have key := loopM_run0 (b := b) (k := k) (fun i => (markL F c (p.take i) m ++ p.drop i, m + sumL c (p.take i), (i : Int))) p.length (r := .out (markL F c p m, m + sumL c p, (p.length : Int))) (fun t h => by cases h) ?_ ?_ (by have : 9223372036854775808 ≤ k := hk; omega)
  · simpa [markL, sumL] using key
  · intro j hj
    have hl : (markL F c (p.take j) m ++ p.drop j).length = p.length := by simp [markL_length]; omega
    have hg : (markL F c (p.take j) m ++ p.drop j)[j]? = some p[j] := by
      rw [List.getElem?_append_right (by simp [markL_length]; omega), markL_length, List.getElem?_drop]
      have : j + (j - (p.take j).length) = j := by simp; omega
      rw [this, List.getElem?_eq_getElem hj]
    have hs := sumL_succ (c := c) hj
    have ht := sumL_take (c := c) p (j + 1)
    rw [hb _ j hj _ hl hg (by omega) (by omega)]
    congr 3
    · rw [List.set_append_right _ _ (by simp [markL_length]; omega), markL_length]
      have h2 : j - (p.take j).length = 0 := by simp; omega
      rw [h2, List.drop_eq_getElem_cons hj, List.set_cons_zero, List.take_add_one, List.getElem?_eq_getElem hj, Option.toList_some, markL_append]
      simp [markL]
    · congr 1; omega
  · have h1 : markL F c (p.take p.length) m ++ p.drop p.length = markL F c p m := by simp
    show b (markL F c (p.take p.length) m ++ p.drop p.length, m + sumL c (p.take p.length), (p.length : Int)) = _
    rw [h1, List.take_length]
    exact he _ _ markL_length

theorem loop_held {α ρ : Type} {F : α → Int → α} {c : α → Nat} {p : List α} {m B : Int} {k : Nat} {b : (Int × Int) → Option (Nx (Int × Int) ρ)} (hn : p.length < 9223372036854775807) (hk : Big k) (h0 : 0 ≤ m) (hB : m + sumL c p ≤ B)
    (hb : ∀ (i : Nat) (hi : i < p.length) (q : Int), (markL F c p m)[i]? = some (F p[i] q) → 0 ≤ q → q + c p[i] ≤ B → b (q, (i : Int)) = some (.next (q + c p[i], ((i + 1 : Nat) : Int))))
    (he : ∀ q, b (q, (p.length : Int)) = some (.out (q, (p.length : Int)))) :
    loopM b k (m, 0) = some (.out (m + sumL c p, (p.length : Int))) := by
  have key := loopM_run0 (b := b) (k := k) (fun i => (m + sumL c (p.take i), (i : Int))) p.length (r := .out (m + sumL c p, (p.length : Int))) (fun t h => by cases h) ?_ ?_ (by have : 9223372036854775808 ≤ k := hk; omega)
  · simpa [sumL] using key
  · intro j hj
    have hs := sumL_succ (c := c) hj
    have ht := sumL_take (c := c) p (j + 1)
    rw [hb j hj _ (markL_get hj) (by omega) (by omega)]
    congr 3; omega
  · show b (m + sumL c (p.take p.length), (p.length : Int)) = _
    rw [List.take_length]
    exact he _

/-- for i: m = sz(p[i], m); if m < 0 return -1. -/
theorem loop_sz {α : Type} {p : List α} {P : α → Prop} {b : (Int × Int) → Option (Nx (Int × Int) Int)} {k : Nat} {m0 : Int} (hn : p.length < 9223372036854775808) (hk : Big k) (h0 : 0 ≤ m0) (h1 : m0 ≤ 1048576)
    (hb : ∀ (i : Nat) (hi : i < p.length) (m : Int), 0 ≤ m → m ≤ 1048576 → ∃ r, r ≤ m ∧ -1 ≤ r ∧ (0 ≤ r → P p[i]) ∧ b (m, (i : Int)) = some (if r < 0 then .ret (-1) else .next (r, ((i + 1 : Nat) : Int))))
    (he : ∀ m, b (m, (p.length : Int)) = some (.out (m, (p.length : Int)))) :
    ∃ o, loopM b k (m0, 0) = some o ∧ (o = .ret (-1) ∨ ∃ r, o = .out (r, (p.length : Int)) ∧ 0 ≤ r ∧ r ≤ m0 ∧ ∀ y ∈ p, P y) := by
  refine loopM_ends (b := b) (fun s => ∃ j : Nat, s.2 = (j : Int) ∧ j ≤ p.length ∧ 0 ≤ s.1 ∧ s.1 ≤ m0 ∧ ∀ q (hq : q < p.length), q < j → P p[q]) (fun s => p.length - s.2.toNat) _ ?_ k (m0, 0) ⟨0, rfl, Nat.zero_le _, h0, Int.le_refl _, fun q _ h => by omega⟩ (by have : 9223372036854775808 ≤ k := hk; simp; omega)
  rintro ⟨m, i⟩ ⟨j, rfl, hj, hm0, hm1, hall⟩
  rcases Nat.lt_or_ge j p.length with hlt | hge
  · obtain ⟨r, r1, r2, r3, r4⟩ := hb j hlt m hm0 (by simp only at hm1; omega)
    by_cases hr : r < 0
    · rw [if_pos hr] at r4
      exact ⟨_, r4, .inl rfl⟩
    · rw [if_neg hr] at r4
      refine ⟨_, r4, ⟨j + 1, rfl, hlt, by simp only; omega, by simp only at hm1 ⊢; omega, fun q hq hqj => ?_⟩, ?_⟩
      · rcases Nat.lt_or_ge q j with h | h
        · exact hall q hq h
        · have : q = j := by omega
          subst this
          exact r3 (by omega)
      · simp only [Int.toNat_natCast]; omega
  · have : j = p.length := by omega
    subst this
    refine ⟨_, he m, .inr ⟨m, rfl, hm0, hm1, fun y hy => ?_⟩⟩
    obtain ⟨q, hq, rfl⟩ := List.getElem_of_mem hy
    exact hall q hq hq

/-- The first index below n with c. -/
def firstN (c : Nat → Bool) (n : Nat) : Option Nat := (List.range n).find? c
theorem firstN_some {c : Nat → Bool} {n i : Nat} (h : firstN c n = some i) : i < n ∧ c i = true ∧ ∀ j, j < i → c j = false := by
  unfold firstN at h
  have h1 := List.mem_of_find?_eq_some h
  have h2 := List.find?_some h
  refine ⟨by simpa using h1, h2, fun j hj => ?_⟩
  rw [List.find?_eq_some_iff_getElem] at h
  obtain ⟨_, i', hi', e, hall⟩ := h
  simp only [List.getElem_range] at e hall
  subst e
  simpa using hall j hj
theorem firstN_none {c : Nat → Bool} {n : Nat} (h : firstN c n = none) : ∀ j, j < n → c j = false := by
  unfold firstN at h
  intro j hj
  have := List.find?_eq_none.1 h j (by simpa using hj)
  simpa using this
theorem firstN_of {c : Nat → Bool} {n i : Nat} (hi : i < n) (hc : c i = true) (hall : ∀ j, j < i → c j = false) : firstN c n = some i := by
  cases h : firstN c n with
  | none => have := firstN_none h i hi; rw [hc] at this; cases this
  | some j =>
    obtain ⟨h1, h2, h3⟩ := firstN_some h
    rcases Nat.lt_trichotomy i j with h4 | h4 | h4
    · have := h3 i h4; rw [hc] at this; cases this
    · rw [h4]
    · have := hall j h4; rw [h2] at this; cases this
theorem firstN_congr {c d : Nat → Bool} {n : Nat} (h : ∀ i, i < n → c i = d i) : firstN c n = firstN d n := by
  cases e : firstN c n with
  | none =>
    cases e2 : firstN d n with
    | none => rfl
    | some j =>
      obtain ⟨h1, h2, _⟩ := firstN_some e2
      have := firstN_none e j h1
      rw [h j h1, h2] at this; cases this
  | some j =>
    obtain ⟨h1, h2, h3⟩ := firstN_some e
    exact (firstN_of h1 (by rw [← h j h1]; exact h2) fun q hq => by rw [← h q (by omega)]; exact h3 q hq).symm

/-- A loop that leaves at the first index with c. -/
theorem loop_first {σ ρ : Type} {b : σ → Option (Nx σ ρ)} (s : Nat → σ) (c : Nat → Bool) (R : Nat → Nx σ ρ) {n k : Nat} (hn : n < 9223372036854775807) (hk : Big k) (hR : ∀ i t, R i ≠ .next t)
    (hb : ∀ i, i < n → b (s i) = some (if c i = true then R i else .next (s (i + 1)))) (he : b (s n) = some (.out (s n))) :
    loopM b k (s 0) = some (match firstN c n with
      | some i => R i
      | none => .out (s n)) := by
  have hk' : 9223372036854775808 ≤ k := hk
  cases h : firstN c n with
  | none =>
    have h1 := firstN_none h
    exact loopM_run0 s n (fun t h => by cases h) (fun j hj => by rw [hb j hj, h1 j hj]; rfl) he (by omega)
  | some i =>
    obtain ⟨h1, h2, h3⟩ := firstN_some h
    exact loopM_run0 s i (hR i) (fun j hj => by rw [hb j (by omega), h3 j hj]; rfl) (by rw [hb i h1, h2]; rfl) (by omega)

theorem and_if (p q : Prop) [Decidable p] [Decidable q] : (if decide p = true then some (decide q) else some false) = some (decide (p ∧ q)) := by
  by_cases hp : p <;> simp [hp]
theorem or_if (p q : Prop) [Decidable p] [Decidable q] : (if decide p = true then some true else some (decide q)) = some (decide (p ∨ q)) := by
  by_cases hp : p <;> simp [hp]
theorem not_dec (p : Prop) [Decidable p] : (!decide p) = decide (¬ p) := by simp
theorem some_dec {p q : Prop} [Decidable p] [Decidable q] (h : p ↔ q) : some (decide p) = some (decide q) := by rw [decide_eq_decide.2 h]

theorem all_eq_iff {α : Type} [DecidableEq α] {l m : List α} (h : l.length = m.length) : (∀ (i : Nat) (hi : i < l.length), l[i] = m[i]) ↔ l = m := by
  constructor
  · intro hh
    exact List.ext_getElem h fun i h1 h2 => hh i h1
  · rintro rfl i hi; rfl
/-! ### Lists that grow in a loop -/
theorem fm_succ {α β : Type} {f : α → List β} {p : List α} {j : Nat} (h : j < p.length) : (p.take (j + 1)).flatMap f = (p.take j).flatMap f ++ f p[j] := by
  rw [List.take_add_one, List.getElem?_eq_getElem h, Option.toList_some, List.flatMap_append]; simp
theorem fm_len {α β : Type} {f : α → List β} {B : Nat} : ∀ {p : List α}, (∀ y ∈ p, (f y).length ≤ B) → (p.flatMap f).length ≤ p.length * B
  | [], _ => by simp
  | x :: xs, h => by
    have h1 := h x (List.mem_cons_self ..)
    have h2 := fm_len (p := xs) fun y hy => h y (List.mem_cons_of_mem _ hy)
    simp only [List.flatMap_cons, List.length_append, List.length_cons, Nat.add_mul]; omega
theorem fm_all {α β : Type} (f : α → List β) (p : List α) : (p.take p.length).flatMap f = p.flatMap f := by rw [List.take_length]
/-- for i: out = append(out, f(p[i])...). -/
theorem loop_app {α β ρ : Type} {f : α → List β} {p : List α} {z : List β} {k B : Nat} {b : (List β × Int) → Option (Nx (List β × Int) ρ)} (hn : p.length < 9223372036854775807) (hk : Big k) (hB : ∀ y ∈ p, (f y).length ≤ B)
    (hb : ∀ (i : Nat) (hi : i < p.length) (l : List β), l.length ≤ z.length + i * B → b (l, (i : Int)) = some (.next (l ++ f p[i], ((i + 1 : Nat) : Int))))
    (he : ∀ l : List β, b (l, (p.length : Int)) = some (.out (l, (p.length : Int)))) :
    loopM b k (z, 0) = some (.out (z ++ p.flatMap f, (p.length : Int))) := by
  have key := loopM_run0 (b := b) (k := k) (fun i => (z ++ (p.take i).flatMap f, (i : Int))) p.length (r := .out (z ++ p.flatMap f, (p.length : Int))) (fun t h => by cases h) ?_ ?_ (by have : 9223372036854775808 ≤ k := hk; omega)
  · simpa using key
  · intro j hj
    have h1 := fm_len (f := f) (p := p.take j) (B := B) fun y hy => hB y (List.mem_of_mem_take hy)
    rw [hb j hj _ (by simp only [List.length_append]; rw [List.length_take, Nat.min_eq_left (by omega)] at h1; omega), fm_succ hj, List.append_assoc]
  · show b (z ++ (p.take p.length).flatMap f, (p.length : Int)) = _
    rw [fm_all]; exact he _
end Go.Proofs.Sx
