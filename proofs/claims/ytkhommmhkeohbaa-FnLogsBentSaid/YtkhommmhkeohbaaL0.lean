/- Part of a program logic; see the notes. -/
import Derived.Calls
import Derived.Below
namespace Go.Proofs.Sx
open Go.RowKit (Below)
set_option linter.unusedVariables false
set_option linter.unusedSimpArgs false
abbrev Heap := Array Obj
abbrev Fp := Nat → Prop
structure HP where
  p : Heap → Fp → Prop
  loc : ∀ {h h' : Heap} {F : Fp}, p h F → (∀ b, F b → h'[b]? = h[b]?) → p h' F
def Spl (F F1 F2 : Fp) : Prop := (∀ b, F b ↔ F1 b ∨ F2 b) ∧ ∀ b, F1 b → ¬ F2 b
theorem Fp.ext {F G : Fp} (h : ∀ b, F b ↔ G b) : F = G := funext fun b => propext (h b)
theorem Spl.left {F F1 F2 : Fp} (h : Spl F F1 F2) {b : Nat} (x : F1 b) : F b := (h.1 b).2 (.inl x)
theorem Spl.right {F F1 F2 : Fp} (h : Spl F F1 F2) {b : Nat} (x : F2 b) : F b := (h.1 b).2 (.inr x)
theorem Spl.assoc {F F1 F2 G1 G2 : Fp} (h : Spl F F1 F2) (k : Spl F2 G1 G2) : Spl F (fun b => F1 b ∨ G1 b) G2 ∧ Spl (fun b => F1 b ∨ G1 b) F1 G1 := by
  refine ⟨⟨fun b => ?_, fun b hb hg => ?_⟩, ⟨fun b => Iff.rfl, fun b h1 hg => h.2 b h1 (k.left hg)⟩⟩
  · rw [h.1 b, k.1 b, or_assoc]
  · rcases hb with hb | hb
    · exact h.2 b hb (k.right hg)
    · exact k.2 b hb hg
theorem Spl.assoc' {F F1 F2 G1 G2 : Fp} (h : Spl F F1 F2) (k : Spl F1 G1 G2) : Spl F G1 (fun b => G2 b ∨ F2 b) ∧ Spl (fun b => G2 b ∨ F2 b) G2 F2 := by
  refine ⟨⟨fun b => ?_, fun b hb hg => ?_⟩, ⟨fun b => Iff.rfl, fun b h1 hg => h.2 b (k.right h1) hg⟩⟩
  · rw [h.1 b, k.1 b, or_assoc]
  · rcases hg with hg | hg
    · exact k.2 b hb hg
    · exact h.2 b (k.left hb) hg
theorem Spl.nil_right (F : Fp) : Spl F F (fun _ => False) := ⟨fun b => by simp, fun b _ h => h⟩
theorem Spl.nil_left (F : Fp) : Spl F (fun _ => False) F := ⟨fun b => by simp, fun b h => h.elim⟩
theorem Spl.eq_left {F F1 F2 : Fp} (h : Spl F F1 F2) (h2 : ∀ b, ¬ F2 b) : F1 = F := Fp.ext fun b => by rw [h.1 b]; simp [h2 b]
theorem Spl.eq_right {F F1 F2 : Fp} (h : Spl F F1 F2) (h1 : ∀ b, ¬ F1 b) : F2 = F := Fp.ext fun b => by rw [h.1 b]; simp [h1 b]
def emp : HP := ⟨fun _ F => ∀ b, ¬ F b, fun h _ => h⟩
def lift (φ : Prop) : HP := ⟨fun _ F => φ ∧ ∀ b, ¬ F b, fun h _ => h⟩
def star (P Q : HP) : HP := ⟨fun h F => ∃ F1 F2, Spl F F1 F2 ∧ P.p h F1 ∧ Q.p h F2,
  fun ⟨F1, F2, hs, h1, h2⟩ hk => ⟨F1, F2, hs, P.loc h1 fun b hb => hk b (hs.left hb), Q.loc h2 fun b hb => hk b (hs.right hb)⟩⟩
def ex {ι : Type} (P : ι → HP) : HP := ⟨fun h F => ∃ i, (P i).p h F, fun ⟨i, h⟩ hk => ⟨i, (P i).loc h hk⟩⟩
def Box (β : Nat) (cs : List Value) : HP := ⟨fun h F => (∀ b, F b ↔ b = β) ∧ ∃ ty, h[β]? = some (.cells cs.toArray ty (0, 0)),
  fun ⟨h1, ty, h2⟩ hk => ⟨h1, ty, (hk β ((h1 β).2 rfl)).trans h2⟩⟩
def Sat : List HP → Heap → Fp → Prop
  | [], _, F => ∀ b, ¬ F b
  | P :: L, h, F => ∃ F1 F2, Spl F F1 F2 ∧ P.p h F1 ∧ Sat L h F2
theorem Sat.loc : ∀ {L : List HP} {h h' : Heap} {F : Fp}, Sat L h F → (∀ b, F b → h'[b]? = h[b]?) → Sat L h' F
  | [], _, _, _, hs, _ => hs
  | P :: L, _, _, _, ⟨F1, F2, hs, h1, h2⟩, hk => ⟨F1, F2, hs, P.loc h1 fun b hb => hk b (hs.left hb), Sat.loc h2 fun b hb => hk b (hs.right hb)⟩
theorem Sat.perm {L M : List HP} (hp : L.Perm M) : ∀ {h : Heap} {F : Fp}, Sat L h F → Sat M h F := by
  induction hp with
  | nil => exact fun h => h
  | cons P _ ih => exact fun ⟨F1, F2, hs, h1, h2⟩ => ⟨F1, F2, hs, h1, ih h2⟩
  | swap P Q L =>
    rintro h F ⟨F1, F2, hs, h1, F3, F4, hs2, h3, h4⟩
    have a := Spl.assoc hs hs2
    refine ⟨F3, fun b => F1 b ∨ F4 b, ?_, h3, F1, F4, ?_, h1, h4⟩
    · refine ⟨fun b => ?_, fun b h3' h14 => ?_⟩
      · rw [hs.1 b, hs2.1 b]; constructor <;> (rintro (h | h | h) <;> simp [h])
      · rcases h14 with h | h
        · exact hs.2 b h (hs2.left h3')
        · exact hs2.2 b h3' h
    · exact ⟨fun b => Iff.rfl, fun b h1' h4' => hs.2 b h1' (hs2.right h4')⟩
  | trans _ _ ih1 ih2 => exact fun h => ih2 (ih1 h)
theorem Sat.append : ∀ {L M : List HP} {h : Heap} {F : Fp}, Sat (L ++ M) h F ↔ ∃ F1 F2, Spl F F1 F2 ∧ Sat L h F1 ∧ Sat M h F2
  | [], M, h, F => by
    constructor
    · exact fun hs => ⟨_, F, Spl.nil_left F, fun b hb => hb, hs⟩
    · rintro ⟨F1, F2, hs, h1, h2⟩
      have := hs.eq_right h1; subst this; exact h2
  | P :: L, M, h, F => by
    constructor
    · rintro ⟨F1, F2, hs, h1, h2⟩
      obtain ⟨G1, G2, hk, k1, k2⟩ := Sat.append.1 h2
      have a := Spl.assoc hs hk
      exact ⟨_, G2, a.1, ⟨F1, G1, a.2, h1, k1⟩, k2⟩
    · rintro ⟨F1, F2, hs, ⟨G1, G2, hk, k1, k2⟩, h2⟩
      have a := Spl.assoc' hs hk
      exact ⟨G1, _, a.1, k1, Sat.append.2 ⟨G2, F2, a.2, k2, h2⟩⟩
abbrev Gam := List (Nat × HP)
abbrev Env := List (Nat × Value)
def look {α : Type} : List (Nat × α) → Nat → Option α
  | [], _ => none
  | (k, v) :: r, t => bif Nat.beq k t then some v else look r t
theorem look_cons {α : Type} (k : Nat) (v : α) (r : List (Nat × α)) (t : Nat) : look ((k, v) :: r) t = if k = t then some v else look r t := by
  simp only [look]
  by_cases h : k = t
  · subst h; simp
  · have : Nat.beq k t = false := by
      cases e : Nat.beq k t with
      | false => rfl
      | true => exact absurd (Nat.eq_of_beq_eq_true e) h
    simp [this, h]
def has (s : List Nat) (k : Nat) : Bool := s.any (Nat.beq k)
theorem has_iff {s : List Nat} {k : Nat} : has s k = true ↔ k ∈ s := by
  simp [has]
def live : List Nat → Gam → List HP
  | _, [] => []
  | s, (r, P) :: Γ => bif has s r then live s Γ else P :: live (r :: s) Γ
theorem live_in {s : List Nat} {r : Nat} {P : HP} {Γ : Gam} (h : r ∈ s) : live s ((r, P) :: Γ) = live s Γ := by
  simp [live, has_iff.2 h]
theorem live_out {s : List Nat} {r : Nat} {P : HP} {Γ : Gam} (h : r ∉ s) : live s ((r, P) :: Γ) = P :: live (r :: s) Γ := by
  have : has s r = false := by rw [← Bool.not_eq_true, has_iff]; exact h
  simp [live, this]
theorem live_congr : ∀ {Γ : Gam} {s t : List Nat}, (∀ x, x ∈ s ↔ x ∈ t) → live s Γ = live t Γ
  | [], _, _, _ => rfl
  | (r, P) :: Γ, s, t, h => by
    by_cases hr : r ∈ s
    · rw [live_in hr, live_in ((h r).1 hr)]; exact live_congr h
    · rw [live_out hr, live_out (fun x => hr ((h r).2 x))]
      exact congrArg (P :: ·) (live_congr fun x => by simp [h x])
theorem live_look : ∀ {Γ : Gam} {s : List Nat} {r : Nat} {P : HP}, look Γ r = some P → r ∉ s → (live s Γ).Perm (P :: live (r :: s) Γ)
  | [], s, r, P, h, _ => by simp [look] at h
  | (k, Q) :: Γ, s, r, P, h, hr => by
    rw [look_cons] at h
    by_cases hk : k = r
    · subst hk
      rw [if_pos rfl] at h
      obtain rfl := Option.some.inj h
      rw [live_out hr, live_in (List.mem_cons_self ..)]
    · rw [if_neg hk] at h
      by_cases hs : k ∈ s
      · rw [live_in hs, live_in (List.mem_cons_of_mem _ hs)]
        exact live_look h hr
      · rw [live_out hs, live_out (by simp [hk, hs])]
        have := live_look (s := k :: s) h (by simp [hr]; exact fun e => hk e.symm)
        refine (List.Perm.cons Q this).trans ((List.Perm.swap P Q _).trans (.cons _ (.cons _ ?_)))
        rw [live_congr (s := r :: k :: s) (t := k :: r :: s)]
        intro x; simp; constructor <;> (rintro (h | h | h) <;> simp [h])
theorem live_fresh : ∀ {Γ : Gam} {s : List Nat} {r : Nat}, look Γ r = none → live (r :: s) Γ = live s Γ
  | [], _, _, _ => rfl
  | (k, Q) :: Γ, s, r, h => by
    rw [look_cons] at h
    by_cases hk : k = r
    · rw [if_pos hk] at h; cases h
    · rw [if_neg hk] at h
      by_cases hs : k ∈ s
      · rw [live_in hs, live_in (List.mem_cons_of_mem _ hs)]; exact live_fresh h
      · rw [live_out hs, live_out (by simp [hk, hs])]
        rw [live_congr (s := k :: r :: s) (t := r :: k :: s), live_fresh h]
        intro x; simp; constructor <;> (rintro (h | h | h) <;> simp [h])
def Takes (Γ : Gam) : List Nat → List HP → Prop
  | [], [] => True
  | r :: rs, P :: Ps => look Γ r = some P ∧ Takes Γ rs Ps
  | _, _ => False
def nodupB : List Nat → Bool
  | [] => true
  | r :: rs => !has rs r && nodupB rs
theorem live_takes : ∀ {rs : List Nat} {Ps : List HP} {Γ : Gam} {s : List Nat}, Takes Γ rs Ps → nodupB rs = true → (∀ r ∈ rs, r ∉ s) →
    (live s Γ).Perm (Ps ++ live (rs ++ s) Γ)
  | [], [], _, _, _, _, _ => List.Perm.refl _
  | [], _ :: _, _, _, h, _, _ => h.elim
  | _ :: _, [], _, _, h, _, _ => h.elim
  | r :: rs, P :: Ps, Γ, s, ⟨h1, h2⟩, hn, hs => by
    simp only [nodupB, Bool.and_eq_true, Bool.not_eq_true'] at hn
    have hr : r ∉ rs := fun h => by have := has_iff.2 h; rw [hn.1] at this; cases this
    have a := live_look h1 (hs r (List.mem_cons_self ..))
    have b := live_takes (s := r :: s) h2 hn.2 (fun x hx => by
      simp only [List.mem_cons, not_or]
      exact ⟨fun e => hr (e ▸ hx), hs x (List.mem_cons_of_mem _ hx)⟩)
    rw [live_congr (s := r :: rs ++ s) (t := rs ++ r :: s)]
    · exact a.trans (.cons P b)
    · intro x; simp only [List.cons_append, List.mem_append, List.mem_cons]; constructor <;> (rintro (h | h | h) <;> simp [h])
def newOk (Γ : Gam) (rs : List Nat) : List Nat → Bool
  | [] => true
  | k :: ks => (has rs k || (look Γ k).isNone) && newOk Γ rs ks
theorem live_app : ∀ {N : Gam} {Γ : Gam} {s : List Nat}, nodupB (N.map (·.1)) = true → (∀ x ∈ N.map (·.1), x ∉ s) →
    live s (N ++ Γ) = N.map (·.2) ++ live (N.map (·.1) ++ s) Γ
  | [], _, _, _, _ => rfl
  | (k, P) :: N, Γ, s, hn, hs => by
    simp only [List.map_cons, nodupB, Bool.and_eq_true, Bool.not_eq_true'] at hn
    have hr : k ∉ N.map (·.1) := fun h => by have := has_iff.2 h; rw [hn.1] at this; cases this
    rw [List.cons_append, live_out (hs k (by simp)), live_app hn.2 (fun x hx => by
      simp only [List.mem_cons, not_or]
      exact ⟨fun e => hr (e ▸ hx), hs x (List.mem_cons_of_mem _ hx)⟩)]
    simp only [List.map_cons, List.cons_append]
    congr 2
    exact live_congr fun x => by simp only [List.mem_append, List.mem_cons]; constructor <;> (rintro (h | h | h) <;> simp [h])
theorem live_union : ∀ {ks : List Nat} {rs : List Nat} {Γ : Gam}, newOk Γ rs ks = true → live (ks ++ rs) Γ = live rs Γ
  | [], _, _, _ => rfl
  | k :: ks, rs, Γ, h => by
    simp only [newOk, Bool.and_eq_true, Bool.or_eq_true] at h
    rcases h with ⟨h1, h2⟩
    rcases h1 with h1 | h1
    · rw [← live_union h2]
      exact live_congr fun x => by
        simp only [List.cons_append, List.mem_cons, List.mem_append]
        constructor
        · rintro (h | h | h)
          · subst h; exact .inr (has_iff.1 h1)
          · exact .inl h
          · exact .inr h
        · rintro (h | h) <;> simp [h]
    · rw [List.cons_append, live_fresh (by simpa using h1), live_union h2]
theorem Sat.upd {Γ : Gam} {rs : List Nat} {Ps : List HP} {N : Gam} {h h' : Heap} {F : Fp} (ht : Takes Γ rs Ps) (hn : nodupB rs = true)
    (hN : nodupB (N.map (·.1)) = true) (hk : newOk Γ rs (N.map (·.1)) = true) (hs : Sat (live [] Γ) h F) :
    ∃ F1 F2, Spl F F1 F2 ∧ Sat Ps h F1 ∧ Sat (live rs Γ) h F2 ∧
      ∀ h' G1, (∀ b, F2 b → h'[b]? = h[b]?) → Sat (N.map (·.2)) h' G1 → (∀ b, G1 b → ¬ F2 b) → (∀ r ∈ rs, r ∈ N.map (·.1)) → Sat (live [] (N ++ Γ)) h' (fun b => G1 b ∨ F2 b) := by
  have a := Sat.perm (live_takes (s := []) ht hn (by simp)) hs
  rw [List.append_nil] at a
  obtain ⟨F1, F2, hsp, h1, h2⟩ := Sat.append.1 a
  refine ⟨F1, F2, hsp, h1, h2, fun h' G1 hkeep hG hdis hsub => ?_⟩
  rw [live_app hN (by simp), List.append_nil]
  refine Sat.append.2 ⟨G1, F2, ⟨fun b => Iff.rfl, hdis⟩, hG, ?_⟩
  have : live (N.map (·.1)) Γ = live rs Γ := by
    rw [← live_union hk]
    exact live_congr fun x => by simp only [List.mem_append]; exact ⟨.inl, fun h => h.elim id (hsub x)⟩
  rw [this]
  exact Sat.loc h2 hkeep
end Go.Proofs.Sx

