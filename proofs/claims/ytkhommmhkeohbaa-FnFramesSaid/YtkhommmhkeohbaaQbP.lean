/- FnFrames: the plain law. -/
import Derived.Test.YtkhommmhkeohbaaQbX
import Derived.Test.YtkhommmhkeohbaaLP
namespace Go.Proofs.Sx
open Go.RowKit
set_option maxRecDepth 20000
set_option linter.unusedVariables false
set_option linter.unusedSimpArgs false
def okI (b : List Int) (i : Int) : Prop := 0 ≤ i ∧ i ≤ (b.length : Int)
theorem and255 (x : Int) : 0 ≤ bits2 (· &&& ·) x 255 ∧ bits2 (· &&& ·) x 255 ≤ 255 := by
  show 0 ≤ wrap64 ((BitVec.ofInt 64 x &&& BitVec.ofInt 64 255).toNat : Int) ∧ wrap64 ((BitVec.ofInt 64 x &&& BitVec.ofInt 64 255).toNat : Int) ≤ 255
  have h : (BitVec.ofInt 64 x &&& BitVec.ofInt 64 255).toNat ≤ 255 := by
    rw [BitVec.toNat_and]
    exact Nat.and_le_right
  rw [w64 (by omega) (by omega)]; omega
theorem byte_ok {b : List Int} {i h : Int} (hi : okI b i) (hl : b.length ≤ 1048576) : ∃ v i' h', spec_l1Byte ⟨b, i, h⟩ = some (v, ⟨b, i', h'⟩) ∧ okI b i' ∧ 0 ≤ v ∧ v ≤ 255 := by
  obtain ⟨h0, h1⟩ := hi
  rw [spec_l1Byte]
  by_cases hc : i < ((List.length b : Nat) : Int)
  · rw [if_pos (by simpa using hc), if_pos ⟨h0, hc⟩]
    exact ⟨_, _, _, rfl, by simp only [okI]; rw [w64 (by omega) (by omega)]; omega, and255 _⟩
  · rw [if_neg (by simpa using hc)]
    exact ⟨_, _, _, rfl, ⟨h0, h1⟩, and255 _⟩
theorem below_ok {b : List Int} {i h : Int} (hi : okI b i) (hl : b.length ≤ 1048576) (n : Int) : ∃ v i' h', spec_l1Below ⟨b, i, h⟩ n = some (v, ⟨b, i', h'⟩) ∧ okI b i' ∧ 0 ≤ v ∧ (0 < n → v < n) ∧ (n ≤ 0 → v = 0) := by
  rw [spec_l1Below]
  by_cases h0 : n ≤ 0
  · rw [if_pos (by simpa using h0)]
    exact ⟨_, _, _, rfl, hi, Int.le_refl _, fun h => by omega, fun _ => rfl⟩
  · rw [if_neg (by simpa using h0)]
    by_cases h256 : n ≤ 256
    · obtain ⟨v, i1, h1, e1, o1, v0, v1⟩ := byte_ok (h := h) hi hl
      rw [if_pos (by simpa using h256), e1, some_bind, if_pos (by omega)]
      refine ⟨_, _, _, rfl, o1, ?_, fun _ => ?_, fun h => by omega⟩
      · simp only; rw [tmod_pos v0]; exact Int.emod_nonneg _ (by omega)
      · simp only; rw [tmod_pos v0]; exact Int.emod_lt_of_pos _ (by omega)
    · obtain ⟨v, i1, h1, e1, o1, v0, v1⟩ := byte_ok (h := h) hi hl
      rw [if_neg (by simpa using h256), e1, some_bind]
      obtain ⟨u, i2, h2, e2, o2, u0, u1⟩ := byte_ok (h := h1) o1 hl
      simp only [e2, some_bind]
      obtain ⟨t, i3, h3, e3, o3, t0, t1⟩ := byte_ok (h := h2) o2 hl
      simp only [e3, some_bind]
      rw [if_pos (by omega), w64 (n := v * 65536) (by omega) (by omega), w64 (n := u * 256) (by omega) (by omega), w64 (n := v * 65536 + u * 256) (by omega) (by omega), w64 (by omega) (by omega)]
      refine ⟨_, _, _, rfl, o3, ?_, fun _ => ?_, fun h => by omega⟩
      · rw [tmod_pos (by omega)]; exact Int.emod_nonneg _ (by omega)
      · rw [tmod_pos (by omega)]; exact Int.emod_lt_of_pos _ (by omega)
theorem once_ok {b : List Int} {i h : Int} (hi : okI b i) (hl : b.length ≤ 1048576) (n : Int) : ∃ v i' h', spec_l1Once ⟨b, i, h⟩ n = some (v, ⟨b, i', h'⟩) ∧ okI b i' := by
  obtain ⟨v, i1, h1, e1, o1, _⟩ := below_ok (h := h) hi hl n
  exact ⟨_, _, _, by rw [spec_l1Once, e1, some_bind], o1⟩
theorem int_ok {b : List Int} {i h : Int} (hi : okI b i) (hl : b.length ≤ 1048576) {l : List Int} (hn : 0 < l.length) : ∃ v i' h', spec_l1Int ⟨b, i, h⟩ l = some (v, ⟨b, i', h'⟩) ∧ okI b i' ∧ v ∈ l := by
  obtain ⟨v, i1, h1, e1, o1, v0, v1, _⟩ := below_ok (h := h) hi hl ((List.length l : Nat) : Int)
  have hv := v1 (by omega)
  refine ⟨_, _, _, by rw [spec_l1Int, e1, some_bind, if_pos ⟨v0, hv⟩], o1, ?_⟩
  obtain ⟨q, e⟩ := gt_eq v0 hv
  rw [e]; exact List.getElem_mem q
theorem new_ok {k : Nat} (hk : Big k) {b : List Int} (hl : b.length ≤ 1048576) : ∃ h, spec_l1New k b = some ⟨b, 0, h⟩ := by
  obtain ⟨o, e, hQ⟩ := loopM_ends (b := spec_l1New_b0 b) (fun s => 0 ≤ s.2 ∧ s.2 ≤ (b.length : Int)) (fun s => ((b.length : Int) - s.2).toNat) (fun o => ∃ s, o = .out s) (fun s hs => by
      obtain ⟨h, i⟩ := s
      simp only at hs
      simp only [spec_l1New_b0]
      by_cases hc : i < ((List.length b : Nat) : Int) ∧ i < 4000
      · rw [if_pos (by simpa using hc), if_pos (by omega)]
        exact ⟨_, rfl, ⟨by simp only; rw [w64 (by omega) (by omega)]; omega, by simp only; rw [w64 (by omega) (by omega)]; omega⟩, by simp only; rw [w64 (by omega) (by omega)]; omega⟩
      · rw [if_neg (by simpa using hc)]
        exact ⟨_, rfl, _, rfl⟩) k ((wrap64 (141373 + ((List.length b : Nat) : Int))), 0) ⟨Int.le_refl _, by omega⟩ (by have : 9223372036854775808 ≤ k := hk; simp; omega)
  obtain ⟨s, rfl⟩ := hQ
  exact ⟨s.1, by rw [spec_l1New, e, some_bind]⟩

/-- A draw: it answers, its cursor stays good, and what it draws is as P says. -/
def Dr {α : Type} (b : List Int) (o : Option (α × TCur)) (P : α → Prop) : Prop := ∃ v i h, o = some (v, ⟨b, i, h⟩) ∧ okI b i ∧ P v
theorem Dr.bind {α β : Type} {b : List Int} {o : Option (α × TCur)} {P : α → Prop} {f : α × TCur → Option (β × TCur)} {Q : β → Prop} (h : Dr b o P) (hf : ∀ v i h, okI b i → P v → Dr b (f (v, ⟨b, i, h⟩)) Q) : Dr b (o.bind f) Q := by
  obtain ⟨v, i, h, rfl, h1, h2⟩ := h
  exact hf v i h h1 h2
theorem Dr.bindN {α β : Type} {b : List Int} {o : Option (α × TCur)} {P : α → Prop} {f : α × TCur → Option β} {Q : β → Prop} (h : Dr b o P) (hf : ∀ v i h, okI b i → P v → ∃ r, f (v, ⟨b, i, h⟩) = some r ∧ Q r) : ∃ r, o.bind f = some r ∧ Q r := by
  obtain ⟨v, i, h, rfl, h1, h2⟩ := h
  exact hf v i h h1 h2
theorem Dr.pbind {α β : Type} {b : List Int} {o : Option α} {a : α} {f : α → Option (β × TCur)} {Q : β → Prop} (h : o = some a) (hf : Dr b (f a) Q) : Dr b (o.bind f) Q := by
  subst h; exact hf
theorem Dr.ebind {α β : Type} {b : List Int} {o : Option α} {P : α → Prop} {f : α → Option (β × TCur)} {Q : β → Prop} (h : ∃ a, o = some a ∧ P a) (hf : ∀ a, P a → Dr b (f a) Q) : Dr b (o.bind f) Q := by
  obtain ⟨a, rfl, hp⟩ := h; exact hf a hp
theorem Dr.ret {α : Type} {b : List Int} {v : α} {i h : Int} {P : α → Prop} (hi : okI b i) (hp : P v) : Dr b (some (v, ⟨b, i, h⟩)) P := ⟨v, i, h, rfl, hi, hp⟩
theorem Dr.ite {α : Type} {b : List Int} {c : Prop} [Decidable c] {x y : Option (α × TCur)} {P : α → Prop} (h1 : c → Dr b x P) (h2 : ¬ c → Dr b y P) : Dr b (if c then x else y) P := by
  by_cases h : c
  · rw [if_pos h]; exact h1 h
  · rw [if_neg h]; exact h2 h
theorem Dr.mono {α : Type} {b : List Int} {o : Option (α × TCur)} {P Q : α → Prop} (h : Dr b o P) (hpq : ∀ v, P v → Q v) : Dr b o Q := by
  obtain ⟨v, i, h, h0, h1, h2⟩ := h
  exact ⟨v, i, h, h0, h1, hpq v h2⟩
theorem below_dr {b : List Int} {i h : Int} (hi : okI b i) (hl : b.length ≤ 1048576) (n : Int) : Dr b (spec_l1Below ⟨b, i, h⟩ n) (fun v => 0 ≤ v ∧ (0 < n → v < n)) := by
  obtain ⟨v, i', h', e, o, h0, h1, _⟩ := below_ok (h := h) hi hl n
  exact ⟨v, i', h', e, o, h0, h1⟩
theorem once_dr {b : List Int} {i h : Int} (hi : okI b i) (hl : b.length ≤ 1048576) (n : Int) : Dr b (spec_l1Once ⟨b, i, h⟩ n) (fun _ => True) := by
  obtain ⟨v, i', h', e, o⟩ := once_ok (h := h) hi hl n
  exact ⟨v, i', h', e, o, trivial⟩
theorem int_dr {b : List Int} {i h : Int} (hi : okI b i) (hl : b.length ≤ 1048576) {l : List Int} (hn : 0 < l.length) : Dr b (spec_l1Int ⟨b, i, h⟩ l) (· ∈ l) := by
  obtain ⟨v, i', h', e, o, h1⟩ := int_ok (h := h) hi hl hn
  exact ⟨v, i', h', e, o, h1⟩
theorem Ne.ite {β : Type} {c : Prop} [Decidable c] {x y : Option β} {Q : β → Prop} (h1 : c → ∃ r, x = some r ∧ Q r) (h2 : ¬ c → ∃ r, y = some r ∧ Q r) : ∃ r, (if c then x else y) = some r ∧ Q r := by
  by_cases h : c
  · rw [if_pos h]; exact h1 h
  · rw [if_neg h]; exact h2 h
theorem Ne.pbind {α β : Type} {o : Option α} {a : α} {f : α → Option β} {Q : β → Prop} (h : o = some a) (hf : ∃ r, f a = some r ∧ Q r) : ∃ r, o.bind f = some r ∧ Q r := by
  subst h; exact hf
theorem Ne.ebind {α β : Type} {o : Option α} {P : α → Prop} {f : α → Option β} {Q : β → Prop} (h : ∃ a, o = some a ∧ P a) (hf : ∀ a, P a → ∃ r, f a = some r ∧ Q r) : ∃ r, o.bind f = some r ∧ Q r := by
  obtain ⟨a, rfl, hp⟩ := h; exact hf a hp

theorem impl_in_eq (x a b : Int) : impl_in x a b = some (decide (a ≤ x ∧ x ≤ b)) := by simp [impl_in, Bool.decide_and]

theorem spec_in_eq (x a b : Int) : spec_l1In x a b = some (decide (a ≤ x ∧ x ≤ b)) := by simp [spec_l1In, Bool.decide_and, ge_iff_le]


def boxOkP (b : TBox) : Prop := 0 ≤ b.X0 ∧ b.X0 ≤ b.X1 ∧ b.X1 ≤ 255 ∧ 0 ≤ b.Y0 ∧ b.Y0 ≤ b.Y1 ∧ b.Y1 ≤ 255
instance (b : TBox) : Decidable (boxOkP b) := by unfold boxOkP; infer_instance
theorem spec_boxOk_eq (b : TBox) : spec_BoxOk b = some (decide (boxOkP b)) := by
  simp only [spec_BoxOk, spec_in_eq, some_bind, and_if]
  exact some_dec (by unfold boxOkP; omega)
theorem impl_boxOk_eq (b : TBox) : impl_BoxOk b = some (decide (boxOkP b)) := by
  simp only [impl_BoxOk, impl_in_eq, some_bind, and_if]
  exact some_dec (by unfold boxOkP; omega)

def entryAt (l : List TEntry) (n : Int) : Int := match firstN (fun i => decide ((gt l (i : Int)).N = n)) l.length with
  | some i => (i : Int)
  | none => -1
theorem spec_entryAt_eq {k : Nat} (hk : Big k) {l : List TEntry} (hl : l.length ≤ 2097152) (n : Int) : spec_EntryAt k l n = some (entryAt l n) := by
  have h := loop_first (b := spec_EntryAt_b0 l n) (k := k) (n := l.length) (fun i => (i : Int)) (fun i => decide ((gt l (i : Int)).N = n)) (fun i => .ret (i : Int)) (by omega) hk (fun i t h => by cases h)
    (fun i hi => by
      have c1 : decide ((i : Int) < ((List.length l : Nat) : Int)) = true := by simp; omega
      have c2 : (0 : Int) ≤ (i : Int) ∧ (i : Int) < ((List.length l : Nat) : Int) := by omega
      simp only [spec_EntryAt_b0, if_pos c1, if_pos c2, w64s (n := i) (by omega)]
      split <;> rfl)
    (by simp only [spec_EntryAt_b0]; rw [if_neg (by simp)])
  have h' : loopM (spec_EntryAt_b0 l n) k 0 = _ := h
  rw [spec_EntryAt, h', entryAt]
  cases firstN (fun i => decide ((gt l (i : Int)).N = n)) l.length <;> rfl
theorem impl_entryAt_eq {k : Nat} (hk : Big k) {l : List TEntry} (hl : l.length ≤ 2097152) (n : Int) : impl_EntryAt k l n = some (entryAt l n) := by
  have h := loop_first (b := slices_IndexFunc_impl_Entry_impl_Entry_impl_EntryAt_1_b0 l) (k := k) (n := l.length) (fun i => ((i : Int), n)) (fun i => decide ((gt l (i : Int)).N = n)) (fun i => .ret ((i : Int), n)) (by omega) hk (fun i t h => by cases h)
    (fun i hi => by
      have c1 : decide ((i : Int) < ((List.length l : Nat) : Int)) = true := by simp; omega
      have c2 : (0 : Int) ≤ (i : Int) ∧ (i : Int) < ((List.length l : Nat) : Int) := by omega
      simp only [slices_IndexFunc_impl_Entry_impl_Entry_impl_EntryAt_1_b0, impl_EntryAt_1, some_bind, if_pos c1, if_pos c2, w64s (n := i) (by omega)]
      split <;> rfl)
    (by simp only [slices_IndexFunc_impl_Entry_impl_Entry_impl_EntryAt_1_b0]; rw [if_neg (by simp)])
  have h' : loopM (slices_IndexFunc_impl_Entry_impl_Entry_impl_EntryAt_1_b0 l) k (0, n) = _ := h
  rw [impl_EntryAt, slices_IndexFunc_impl_Entry_impl_Entry_impl_EntryAt_1, h', entryAt]
  cases firstN (fun i => decide ((gt l (i : Int)).N = n)) l.length <;> rfl

def badEntry (p : TNode) (i : Nat) : Prop := ¬ boxOkP (gt p.L (i : Int)).R ∨ entryAt p.L (gt p.L (i : Int)).N ≠ (i : Int) ∨ (p.Leaf = true ∧ ¬ (1 ≤ (gt p.L (i : Int)).N ∧ (gt p.L (i : Int)).N ≤ 999)) ∨ (p.Leaf = false ∧ ¬ (0 ≤ (gt p.L (i : Int)).N ∧ (gt p.L (i : Int)).N ≤ 47))
instance (p : TNode) (i : Nat) : Decidable (badEntry p i) := by unfold badEntry; infer_instance
def nodeOk (p : TNode) : Bool := (firstN (fun i => decide (badEntry p i)) p.L.length).isNone && decide (p.L.length ≤ 4) && (p.Leaf || decide (p.L.length > 0))
theorem spec_nodeOk_eq {k : Nat} (hk : Big k) {p : TNode} (hl : p.L.length ≤ 2097152) : spec_NodeOk k p = some (nodeOk p) := by
  have h := loop_first (b := spec_NodeOk_b0 k p) (k := k) (n := p.L.length) (fun i => (i : Int)) (fun i => decide (badEntry p i)) (fun i => .ret false) (by omega) hk (fun i t h => by cases h)
    (fun i hi => by
      have c1 : decide ((i : Int) < ((List.length p.L : Nat) : Int)) = true := by simp; omega
      have c2 : (0 : Int) ≤ (i : Int) ∧ (i : Int) < ((List.length p.L : Nat) : Int) := by omega
      simp only [spec_NodeOk_b0, if_pos c1, if_pos c2, w64s (n := i) (by omega), spec_boxOk_eq, spec_entryAt_eq hk hl, spec_in_eq, some_bind]
      by_cases hA : boxOkP (gt p.L (i : Int)).R <;> by_cases hB : entryAt p.L (gt p.L (i : Int)).N = (i : Int) <;> cases hL : p.Leaf <;>
        by_cases hC : 1 ≤ (gt p.L (i : Int)).N ∧ (gt p.L (i : Int)).N ≤ 999 <;> by_cases hD : 0 ≤ (gt p.L (i : Int)).N ∧ (gt p.L (i : Int)).N ≤ 47 <;> simp [badEntry, hA, hB, hC, hD, hL])
    (by simp only [spec_NodeOk_b0]; rw [if_neg (by simp)])
  have h' : loopM (spec_NodeOk_b0 k p) k 0 = _ := h
  rw [spec_NodeOk, h', nodeOk]
  cases firstN (fun i => decide (badEntry p i)) p.L.length
  · have e1 : decide (((List.length p.L : Nat) : Int) ≤ 4) = decide (p.L.length ≤ 4) := decide_eq_decide.2 (by omega)
    have e2 : decide (((List.length p.L : Nat) : Int) > 0) = decide (p.L.length > 0) := decide_eq_decide.2 (by omega)
    simp only [some_bind, e1, e2, Option.isNone_none, Bool.true_and]
  · rfl
theorem impl_nodeOk_eq {k : Nat} (hk : Big k) {p : TNode} (hl : p.L.length ≤ 2097152) : impl_NodeOk k p = some (nodeOk p) := by
  have h := loop_first (b := impl_NodeOk_b0 k p) (k := k) (n := p.L.length) (fun i => (i : Int)) (fun i => decide (badEntry p i)) (fun i => .ret false) (by omega) hk (fun i t h => by cases h)
    (fun i hi => by
      have c1 : decide ((i : Int) < ((List.length p.L : Nat) : Int)) = true := by simp; omega
      have c2 : (0 : Int) ≤ (i : Int) ∧ (i : Int) < ((List.length p.L : Nat) : Int) := by omega
      simp only [impl_NodeOk_b0, if_pos c1, if_pos c2, w64s (n := i) (by omega), impl_boxOk_eq, impl_entryAt_eq hk hl, impl_in_eq, some_bind]
      by_cases hA : boxOkP (gt p.L (i : Int)).R <;> by_cases hB : entryAt p.L (gt p.L (i : Int)).N = (i : Int) <;> cases hL : p.Leaf <;>
        by_cases hC : 1 ≤ (gt p.L (i : Int)).N ∧ (gt p.L (i : Int)).N ≤ 999 <;> by_cases hD : 0 ≤ (gt p.L (i : Int)).N ∧ (gt p.L (i : Int)).N ≤ 47 <;> simp [badEntry, hA, hB, hC, hD, hL])
    (by simp only [impl_NodeOk_b0]; rw [if_neg (by simp)])
  have h' : loopM (impl_NodeOk_b0 k p) k 0 = _ := h
  rw [impl_NodeOk, h', nodeOk]
  by_cases h4 : p.L.length ≤ 4
  · have e4 : decide (((List.length p.L : Nat) : Int) > 4) = false := decide_eq_false (by omega)
    by_cases h0 : p.L.length > 0
    · have e0 : decide (((List.length p.L : Nat) : Int) = 0) = false := decide_eq_false (by omega)
      rw [e4, e0, Bool.and_false, if_neg (by decide)]
      cases firstN (fun i => decide (badEntry p i)) p.L.length <;> simp [h4, h0]
    · have e0 : decide (((List.length p.L : Nat) : Int) = 0) = true := decide_eq_true (by omega)
      cases hL : p.Leaf
      · rw [e4, e0, if_pos (by decide)]; simp [h0]
      · rw [e4, e0, if_neg (by decide)]
        cases firstN (fun i => decide (badEntry p i)) p.L.length <;> simp [h4]
  · have e4 : decide (((List.length p.L : Nat) : Int) > 4) = true := decide_eq_true (by omega)
    rw [e4, Bool.true_or, if_pos (by decide)]
    simp [h4]
theorem nodeOk_facts {p : TNode} (h : nodeOk p = true) : p.L.length ≤ 4 ∧ (∀ i, i < p.L.length → ¬ badEntry p i) ∧ (p.Leaf = false → 0 < p.L.length) := by
  unfold nodeOk at h
  simp only [Bool.and_eq_true, decide_eq_true_eq, Bool.or_eq_true, Option.isNone_iff_eq_none] at h
  obtain ⟨⟨h1, h2⟩, h3⟩ := h
  exact ⟨h2, fun i hi => by simpa using firstN_none h1 i hi, fun hL => by rcases h3 with h | h; rw [hL] at h; cases h; exact h⟩

theorem least_eq (a c : Int) : spec_Least a c = some (if c < a then c else a) := by
  rw [spec_Least]
  by_cases h : c < a
  · rw [if_pos (by simpa using h), if_pos h]
  · rw [if_neg (by simpa using h), if_neg h]
theorem box_of {x y d e : Int} (hx : 0 ≤ x ∧ x < 250) (hy : 0 ≤ y ∧ y < 250) (hd : 0 ≤ d ∧ d ≤ 40) (he : 0 ≤ e ∧ e ≤ 40) :
    boxOkP ⟨x, y, if wrap64 (x + d) < 255 then wrap64 (x + d) else 255, if wrap64 (y + e) < 255 then wrap64 (y + e) else 255⟩ := by
  rw [w64 (n := x + d) (by omega) (by omega), w64 (n := y + e) (by omega) (by omega)]
  unfold boxOkP
  simp only
  split <;> split <;> omega
theorem l2draw_dr {b : List Int} {i h : Int} (hi : okI b i) (hl : b.length ≤ 1048576) : Dr b (spec_l2Draw ⟨b, i, h⟩) boxOkP := by
  have h5 : ∀ d : Int, d ∈ ([0, 1, 5, 9, 40] : List Int) → 0 ≤ d ∧ d ≤ 40 := fun d hd => by
    simp only [List.mem_cons, List.not_mem_nil, or_false] at hd
    omega
  have h4 : ∀ d : Int, d ∈ ([0, 1, 3, 12] : List Int) → 0 ≤ d ∧ d ≤ 40 := fun d hd => by
    simp only [List.mem_cons, List.not_mem_nil, or_false] at hd
    omega
  rw [spec_l2Draw]
  refine Dr.bind (below_dr hi hl 250) fun x i1 h1 o1 hx => ?_
  refine Dr.bind (below_dr o1 hl 250) fun y i2 h2 o2 hy => ?_
  refine Dr.bind (once_dr o2 hl 2) fun c i3 h3 o3 _ => ?_
  refine Dr.ite (fun _ => ?_) fun _ => ?_
  · refine Dr.bind (below_dr o3 hl 20) fun u i4 h4' o4 hu => ?_
    refine Dr.bind (below_dr o4 hl 20) fun v i5 h5' o5 hv => ?_
    refine Dr.bind (int_dr o5 hl (by simp)) fun d i6 h6 o6 hd => ?_
    refine Dr.pbind (least_eq _ _) ?_
    refine Dr.bind (int_dr o6 hl (by simp)) fun e i7 h7 o7 he => ?_
    refine Dr.pbind (least_eq _ _) ?_
    have hu' := hu.2 (by decide)
    have hv' := hv.2 (by decide)
    exact Dr.ret o7 (box_of ⟨hu.1, by omega⟩ ⟨hv.1, by omega⟩ (h5 d hd) (h4 e he))
  · refine Dr.bind (int_dr o3 hl (by simp)) fun d i6 h6 o6 hd => ?_
    refine Dr.pbind (least_eq _ _) ?_
    refine Dr.bind (int_dr o6 hl (by simp)) fun e i7 h7 o7 he => ?_
    refine Dr.pbind (least_eq _ _) ?_
    exact Dr.ret o7 (box_of ⟨hx.1, hx.2 (by decide)⟩ ⟨hy.1, hy.2 (by decide)⟩ (h5 d hd) (h4 e he))
def goodI (x : TItem) : Prop := boxOkP x.R ∧ 1 ≤ x.Id ∧ x.Id ≤ 30
theorem l4draw_dr {b : List Int} {i h : Int} (hi : okI b i) (hl : b.length ≤ 1048576) : Dr b (spec_l4Draw ⟨b, i, h⟩) goodI := by
  rw [spec_l4Draw]
  refine Dr.bind (below_dr hi hl 30) fun x i1 h1 o1 hx => ?_
  refine Dr.bind (l2draw_dr o1 hl) fun y i2 h2 o2 hy => ?_
  have hx' := hx.2 (by decide)
  have hx0 := hx.1
  refine Dr.ret o2 ⟨hy, ?_, ?_⟩
  · show 1 ≤ wrap64 (1 + x); rw [w64 (by omega) (by omega)]; omega
  · show wrap64 (1 + x) ≤ 30; rw [w64 (by omega) (by omega)]; omega
theorem spec_itemAt_ex {k : Nat} (hk : Big k) {l : List TItem} (hl : l.length ≤ 2097152) (n : Int) : ∃ v, spec_ItemAt k l n = some v ∧ (v < 0 → ∀ x ∈ l, x.Id ≠ n) := by
  have h := loop_first (b := spec_ItemAt_b0 l n) (k := k) (n := l.length) (fun i => (i : Int)) (fun i => decide ((gt l (i : Int)).Id = n)) (fun i => .ret (i : Int)) (by omega) hk (fun i t h => by cases h)
    (fun i hi => by
      have c1 : decide ((i : Int) < ((List.length l : Nat) : Int)) = true := by simp; omega
      have c2 : (0 : Int) ≤ (i : Int) ∧ (i : Int) < ((List.length l : Nat) : Int) := by omega
      simp only [spec_ItemAt_b0, if_pos c1, if_pos c2, w64s (n := i) (by omega)]
      split <;> rfl)
    (by simp only [spec_ItemAt_b0]; rw [if_neg (by simp)])
  have h' : loopM (spec_ItemAt_b0 l n) k 0 = _ := h
  rw [spec_ItemAt, h']
  cases hf : firstN (fun i => decide ((gt l (i : Int)).Id = n)) l.length with
  | none =>
    refine ⟨-1, rfl, fun _ x hx => ?_⟩
    obtain ⟨j, hj, rfl⟩ := List.getElem_of_mem hx
    have := firstN_none hf j hj
    rw [gt_nat hj] at this
    simpa using this
  | some j => exact ⟨(j : Int), rfl, fun h => by omega⟩
def goodIs (l : List TItem) : Prop := (∀ x ∈ l, goodI x) ∧ l.Pairwise (fun x y => x.Id ≠ y.Id)
theorem l4list_dr {k : Nat} (hk : Big k) {b : List Int} {i h : Int} (hi : okI b i) (hl : b.length ≤ 1048576) {n : Int} (hn0 : 0 ≤ n) (hn : n ≤ 4096) : Dr b (spec_l4List k ⟨b, i, h⟩ n) (fun l => (l.length : Int) ≤ n ∧ goodIs l) := by
  rw [spec_l4List]
  refine Dr.bind (below_dr hi hl _) fun m i1 h1 o1 hm => ?_
  rw [w64 (n := n + 1) (by omega) (by omega)] at hm
  have hm0 := hm.1
  have hm1 := hm.2 (by omega)
  obtain ⟨o, e, hQ⟩ := loopM_ends (b := spec_l4List_b0 k ⟨b, i, h⟩) (fun s => 0 ≤ s.2.1 ∧ (s.1.length : Int) + s.2.1 ≤ n ∧ okI b s.2.2.1 ∧ goodIs s.1) (fun s => s.2.1.toNat) (fun o => ∃ l r i' h', o = .out (l, r, i', h') ∧ okI b i' ∧ (l.length : Int) ≤ n ∧ goodIs l) (fun s hs => by
      obtain ⟨l, r, i', h'⟩ := s
      obtain ⟨q0, q1, q2, q3⟩ := hs
      simp only at q0 q1 q2 q3
      simp only [spec_l4List_b0]
      by_cases hr : r > 0
      · obtain ⟨x, i2, h2, ex, o2, hx⟩ := l4draw_dr (h := h') q2 hl
        obtain ⟨v, ev, hv⟩ := spec_itemAt_ex hk (l := l) (by omega) x.Id
        rw [if_pos (by simpa using hr), ex, some_bind]
        simp only [ev, some_bind]
        rw [w64 (n := r - 1) (by omega) (by omega)]
        by_cases hneg : v < 0
        · rw [if_pos (by simpa using hneg), if_pos (okLen_iff.2 (by simp; omega))]
          refine ⟨_, rfl, ⟨by simp only; omega, by simp; omega, o2, fun y hy => ?_, ?_⟩, by simp only; omega⟩
          · simp only [List.mem_append, List.mem_cons, List.not_mem_nil, or_false] at hy
            rcases hy with hy | rfl
            · exact q3.1 y hy
            · exact hx
          · rw [List.pairwise_append]
            refine ⟨q3.2, by simp, fun y hy z hz => ?_⟩
            simp only [List.mem_cons, List.not_mem_nil, or_false] at hz
            subst hz
            exact hv hneg y hy
        · rw [if_neg (by simpa using hneg)]
          exact ⟨_, rfl, ⟨by simp only; omega, by simp only; omega, o2, q3⟩, by simp only; omega⟩
      · rw [if_neg (by simpa using hr)]
        exact ⟨_, rfl, _, _, _, _, rfl, q2, by omega, q3⟩) k (([] : List TItem), m, i1, h1) ⟨hm0, by simp; omega, o1, by simp, by simp⟩ (by have : 9223372036854775808 ≤ k := hk; simp only; omega)
  obtain ⟨l, r, i', h', rfl, p1, p2, p3⟩ := hQ
  refine Dr.pbind e ?_
  exact Dr.ret p1 ⟨p2, p3⟩
def leafL (l : List TItem) : List TEntry := l.map fun x => ⟨x.Id, x.R⟩
theorem spec_leafOf_eq {k : Nat} (hk : Big k) {l : List TItem} (hl : l.length ≤ 2097152) : spec_LeafOf k l = some ⟨true, leafL l⟩ := by
  obtain ⟨o, e, hQ⟩ := loopM_ends (b := spec_LeafOf_b0 l) (fun s => ∃ j : Nat, j ≤ l.length ∧ s = ((j : Int), leafL (l.take j))) (fun s => l.length - s.1.toNat) (fun o => ∃ j, o = .out (j, leafL l)) (fun s hs => by
      obtain ⟨j, hj, rfl⟩ := hs
      simp only [spec_LeafOf_b0]
      rcases Nat.lt_or_ge j l.length with hlt | hge
      · have c2 : (0 : Int) ≤ (j : Int) ∧ (j : Int) < ((List.length l : Nat) : Int) := by omega
        rw [if_pos (by simp; omega), if_pos c2, if_pos c2, if_pos (okLen_iff.2 (by simp [leafL]; omega)), w64s (by omega), gt_nat hlt]
        refine ⟨_, rfl, ⟨j + 1, hlt, ?_⟩, by simp only; omega⟩
        rw [List.take_succ_eq_append_getElem hlt, leafL, leafL, List.map_append]
        rfl
      · have : j = l.length := by omega
        subst this
        rw [if_neg (by simp), List.take_length]
        exact ⟨_, rfl, _, rfl⟩) k (0, ([] : List TEntry)) ⟨0, Nat.zero_le _, rfl⟩ (by have : 9223372036854775808 ≤ k := hk; simp only; omega)
  obtain ⟨j, rfl⟩ := hQ
  rw [spec_LeafOf, e, some_bind]
def goodE (x : TEntry) : Prop := boxOkP x.R ∧ 1 ≤ x.N ∧ x.N ≤ 30
def goodN (p : TNode) : Prop := p.L.length ≤ 4 ∧ ((∀ x ∈ p.L, goodE x) ∧ p.L.Pairwise (fun x y => x.N ≠ y.N)) ∧ (p.Leaf = false → 0 < p.L.length)
theorem leafL_good {l : List TItem} (h : goodIs l) : (∀ x ∈ leafL l, goodE x) ∧ (leafL l).Pairwise (fun x y => x.N ≠ y.N) := by
  refine ⟨fun x hx => ?_, ?_⟩
  · obtain ⟨y, hy, rfl⟩ := List.mem_map.1 hx
    exact h.1 y hy
  · exact List.pairwise_map.2 h.2
theorem l5draw_dr {k : Nat} (hk : Big k) {b : List Int} {i h : Int} (hi : okI b i) (hl : b.length ≤ 1048576) : Dr b (spec_l5Draw k ⟨b, i, h⟩) goodN := by
  rw [spec_l5Draw]
  refine Dr.bind (l4list_dr hk hi hl (n := 4) (by omega) (by omega)) fun l i1 h1 o1 hq => ?_
  have hll : l.length ≤ 4 := by have := hq.1; omega
  refine Dr.pbind (spec_leafOf_eq hk (l := l) (by omega)) ?_
  have hg := leafL_good hq.2
  have hlen : (leafL l).length = l.length := by simp [leafL]
  refine Dr.ebind (P := fun c => (c.1 = true → 0 < l.length) ∧ okI b c.2.1) ?_ fun c hc => ?_
  · by_cases h0 : ((List.length l : Nat) : Int) > 0
    · obtain ⟨c, i2, h2, e2, o2⟩ := once_ok (h := h1) o1 hl 3
      refine ⟨(c, i2, h2), ?_, ⟨fun _ => by omega, o2⟩⟩
      rw [if_pos (by simpa using h0)]
      simp only [e2, some_bind]
    · exact ⟨(false, i1, h1), by rw [if_neg (by simpa using h0)], ⟨(fun h => by cases h), o1⟩⟩
  · refine Dr.ite (fun h' => Dr.ret hc.2 ⟨by simp only [hlen]; exact hll, hg, fun _ => by simp only [hlen]; exact hc.1 h'⟩) fun _ => Dr.ret hc.2 ⟨by simp only [hlen]; exact hll, hg, fun h => by cases h⟩
theorem entryAt_uniq {l : List TEntry} (h : l.Pairwise (fun x y => x.N ≠ y.N)) {i : Nat} (hi : i < l.length) : entryAt l (gt l (i : Int)).N = (i : Int) := by
  unfold entryAt
  cases hf : firstN (fun j => decide ((gt l (j : Int)).N = (gt l (i : Int)).N)) l.length with
  | none => exact absurd (firstN_none hf i hi) (by simp)
  | some j =>
    obtain ⟨h1, h2, h3⟩ := firstN_some hf
    simp only
    rw [gt_nat hi, gt_nat h1] at h2
    have h2' : l[j].N = l[i].N := by simpa using h2
    rcases Nat.lt_trichotomy j i with hlt | rfl | hgt
    · exact absurd h2' (List.pairwise_iff_getElem.1 h j i h1 hi hlt)
    · rfl
    · exact absurd h2'.symm (List.pairwise_iff_getElem.1 h i j hi h1 hgt)
theorem firstN_all {c : Nat → Bool} {n : Nat} (h : ∀ i, i < n → c i = false) : firstN c n = none := by
  cases hf : firstN c n with
  | none => rfl
  | some j => obtain ⟨h1, h2, _⟩ := firstN_some hf; rw [h j h1] at h2; cases h2
theorem goodN_ok {p : TNode} (h : goodN p) : nodeOk p = true := by
  have e : firstN (fun i => decide (badEntry p i)) p.L.length = none := firstN_all fun i hi => by
    have hg := h.2.1.1 _ (List.getElem_mem hi)
    have hu := entryAt_uniq h.2.1.2 hi
    rw [decide_eq_false_iff_not]
    unfold badEntry
    rw [hu, gt_nat hi]
    obtain ⟨g1, g2, g3⟩ := hg
    rintro (hh | hh | hh | hh)
    · exact hh g1
    · exact hh rfl
    · exact hh.2 ⟨by omega, by omega⟩
    · exact hh.2 ⟨by omega, by omega⟩
  unfold nodeOk
  rw [e]
  have h1 := h.1
  cases hL : p.Leaf
  · have := h.2.2 hL
    simp [h1, this]
  · simp [h1]

def pg (t : TTx) (i : Nat) : Int := (gt t.Puts (i : Int)).Page
def badTx (t : TTx) (i : Nat) : Bool := !decide (0 ≤ pg t i ∧ pg t i ≤ wrap64 (t.Size - 1)) || (List.range i).any (fun j => decide (pg t j = pg t i)) || !nodeOk (gt t.Puts (i : Int)).N
def numsOk (t : TTx) : Bool := decide (1 ≤ t.Seq ∧ t.Seq ≤ 65535) && decide (1 ≤ t.Size ∧ t.Size ≤ 48) && decide (0 ≤ t.Root ∧ t.Root ≤ wrap64 (t.Size - 1))
def txOk (t : TTx) : Bool := (firstN (badTx t) t.Puts.length).isNone && numsOk t
def smTx (t : TTx) : Prop := t.Puts.length ≤ 2097152 ∧ ∀ y ∈ t.Puts, y.N.L.length ≤ 2097152
theorem spec_txOk_eq {k : Nat} (hk : Big k) {t : TTx} (h : smTx t) : spec_TxOk k t = some (txOk t) := by
  have hl := h.1
  have h2 := loop_first (b := spec_TxOk_b2 k t) (k := k) (n := t.Puts.length) (fun i => (i : Int)) (badTx t) (fun i => .ret false) (by omega) hk (fun i t h => by cases h)
    (fun i hi => by
      have c1 : decide ((i : Int) < ((List.length t.Puts : Nat) : Int)) = true := by simp; omega
      have c2 : (0 : Int) ≤ (i : Int) ∧ (i : Int) < ((List.length t.Puts : Nat) : Int) := by omega
      have hn : (gt t.Puts (i : Int)).N.L.length ≤ 2097152 := by rw [gt_nat hi]; exact h.2 _ (List.getElem_mem hi)
      have h3 := loop_first (b := spec_TxOk_b3 t (i : Int)) (k := k) (n := i) (fun j => (j : Int)) (fun j => decide (pg t j = pg t i)) (fun i => .ret false) (by omega) hk (fun i t h => by cases h)
        (fun j hj => by
          have d1 : decide ((j : Int) < (i : Int)) = true := by simp; omega
          have d2 : (0 : Int) ≤ (j : Int) ∧ (j : Int) < ((List.length t.Puts : Nat) : Int) := by omega
          simp only [spec_TxOk_b3, if_pos d1, if_pos d2, if_pos c2, w64s (n := j) (by omega), pg]
          exact some_ite _ _ _)
        (by simp only [spec_TxOk_b3]; rw [if_neg (by simp)])
      have h3' : loopM (spec_TxOk_b3 t (i : Int)) k 0 = _ := h3
      simp only [spec_TxOk_b2, if_pos c1, if_pos c2, w64s (n := i) (by omega), spec_nodeOk_eq hk hn, spec_in_eq, some_bind, h3', badTx, firstN_any]
      have ep : (gt t.Puts (i : Int)).Page = pg t i := rfl
      rw [ep]
      by_cases hA : 0 ≤ pg t i ∧ pg t i ≤ wrap64 (t.Size - 1) <;> cases hB : nodeOk (gt t.Puts (i : Int)).N <;> cases hC : firstN (fun j => decide (pg t j = pg t i)) i <;> simp [hA])
    (by simp only [spec_TxOk_b2]; rw [if_neg (by simp)])
  have h2' : loopM (spec_TxOk_b2 k t) k 0 = _ := h2
  rw [spec_TxOk, h2', txOk]
  cases firstN (badTx t) t.Puts.length
  · simp only [some_bind, spec_in_eq, Option.isNone_none, Bool.true_and, numsOk]
    generalize decide (1 ≤ t.Seq ∧ t.Seq ≤ 65535) = a
    generalize decide (1 ≤ t.Size ∧ t.Size ≤ 48) = b
    generalize decide (0 ≤ t.Root ∧ t.Root ≤ wrap64 (t.Size - 1)) = c
    cases a <;> cases b <;> cases c <;> rfl
  · rfl
theorem impl_numsOk_eq (t : TTx) : impl_Tx_numbersOk t = some (numsOk t) := by
  simp only [impl_Tx_numbersOk, impl_in_eq, some_bind, numsOk]
  generalize decide (1 ≤ t.Seq ∧ t.Seq ≤ 65535) = a
  generalize decide (1 ≤ t.Size ∧ t.Size ≤ 48) = b
  generalize decide (0 ≤ t.Root ∧ t.Root ≤ wrap64 (t.Size - 1)) = c
  cases a <;> cases b <;> cases c <;> rfl

def pad (l : List Int) (n : Int) : List Int := if n ≤ 64 then l ++ List.replicate (n.toNat - l.length) 0 else l
theorem pad_len {l : List Int} {n : Int} (h0 : (l.length : Int) ≤ n) (h : n ≤ 64) : (pad l n).length = n.toNat := by
  unfold pad; rw [if_pos h]; simp; omega
theorem pad_trace {ρ : Type} {b : List Int → Option (Nx (List Int) ρ)} {l : List Int} {n : Int} {k : Nat} (hk : Big k) (hn : n ≤ 64)
    (hb : ∀ m : List Int, (m.length : Int) < n → b m = some (.next (m ++ [0]))) (he : ∀ m : List Int, ¬ (m.length : Int) < n → b m = some (.out m)) :
    loopM b k l = some (.out (l ++ List.replicate (n.toNat - l.length) 0)) := by
  have key := loopM_run0 (b := b) (k := k) (fun j => l ++ List.replicate j (0 : Int)) (n.toNat - l.length) (r := .out (l ++ List.replicate (n.toNat - l.length) 0)) (fun t h => by cases h) ?_ ?_ (by have : 9223372036854775808 ≤ k := hk; omega)
  · simpa using key
  · intro j hj
    rw [hb _ (by simp; omega), List.replicate_succ', List.append_assoc]
  · exact he _ (by simp; omega)
theorem spec_pad_eq {k : Nat} (hk : Big k) {l : List Int} {n : Int} (hl : l.length ≤ 2097152) : spec_Pad k l n = some (pad l n) := by
  unfold spec_Pad pad
  rw [if_pos (okLen_iff.2 (by simp; omega)), List.nil_append]
  by_cases hn : n ≤ 64
  · rw [pad_trace hk hn]
    · simp [hn]
    · intro m hm
      simp only [spec_Pad_b0]
      rw [if_pos (by simp [hm, hn]), if_pos (okLen_iff.2 (by simp; omega))]
    · intro m hm
      simp only [spec_Pad_b0]
      rw [if_neg (by simp [hm])]
  · have : loopM (spec_Pad_b0 n) k l = some (.out l) :=
      loopM_run0 (b := spec_Pad_b0 n) (fun _ => l) 0 (fun t h => by cases h) (fun j hj => by omega) (by simp only [spec_Pad_b0]; rw [if_neg (by simp [hn])]) (by have : 9223372036854775808 ≤ k := hk; omega)
    rw [this]; simp [hn]
theorem impl_pad_eq {k : Nat} (hk : Big k) {l : List Int} {n : Int} (hl : l.length ≤ 2097152) : impl_Pad k l n = some (pad l n) := by
  unfold impl_Pad pad
  simp only [slices_Clone_byte_byte]
  rw [if_pos (okLen_iff.2 (by omega)), some_bind]
  by_cases hn : n ≤ 64
  · rw [if_neg (by simp; omega), pad_trace hk hn]
    · simp [hn]
    · intro m hm
      simp only [impl_Pad_b0]
      rw [if_pos (by simp [hm]), if_pos (okLen_iff.2 (by simp; omega))]
    · intro m hm
      simp only [impl_Pad_b0]
      rw [if_neg (by simp [hm])]
  · rw [if_pos (by simp; omega)]; simp [hn]

theorem l1odd_dr {b : List Int} {i h : Int} (hi : okI b i) (hl : b.length ≤ 1048576) : Dr b (spec_l1Odd ⟨b, i, h⟩) (fun _ => True) := by
  rw [spec_l1Odd]
  exact Dr.bind (int_dr hi hl (by simp)) fun x i1 h1 o1 hx => Dr.ret o1 trivial
theorem l1raw_dr {b : List Int} {i h : Int} (hi : okI b i) (hl : b.length ≤ 1048576) : Dr b (spec_l1Raw ⟨b, i, h⟩) (fun _ => True) := by
  rw [spec_l1Raw]
  refine Dr.bind (once_dr hi hl 2) fun x i1 h1 o1 hx => Dr.ite (fun _ => ?_) fun _ => ?_
  · exact Dr.bind (l1odd_dr o1 hl) fun x i1 h1 o1 hx => Dr.ret o1 trivial
  · exact Dr.bind (int_dr o1 hl (by simp)) fun x i1 h1 o1 hx => Dr.ret o1 trivial
theorem l2any_dr {b : List Int} {i h : Int} (hi : okI b i) (hl : b.length ≤ 1048576) : Dr b (spec_l2Any ⟨b, i, h⟩) (fun _ => True) := by
  rw [spec_l2Any]
  refine Dr.bind (l2draw_dr hi hl) fun x i1 h1 o1 hx => ?_
  refine Dr.bind (below_dr o1 hl 12) fun y i2 h2 o2 hy => ?_
  refine Dr.ite (fun _ => ?_) fun _ => Dr.ite (fun _ => ?_) fun _ => Dr.ite (fun _ => ?_) fun _ => Dr.ite (fun _ => ?_) fun _ => ?_
  · exact Dr.bind (l1raw_dr o2 hl) fun x i1 h1 o1 hx => Dr.ret o1 trivial
  · exact Dr.bind (l1raw_dr o2 hl) fun x i1 h1 o1 hx => Dr.ret o1 trivial
  · exact Dr.ret o2 trivial
  · exact Dr.ret o2 trivial
  · exact Dr.ret o2 trivial
theorem l5any_dr {k : Nat} (hk : Big k) {b : List Int} {i h : Int} (hi : okI b i) (hl : b.length ≤ 1048576) : Dr b (spec_l5Any k ⟨b, i, h⟩) (fun p => p.L.length ≤ 8) := by
  rw [spec_l5Any]
  refine Dr.bind (l5draw_dr hk hi hl) fun x i1 h1 o1 hx => ?_
  have hx4 := hx.1
  refine Dr.bind (below_dr o1 hl 12) fun y i2 h2 o2 hy => ?_
  refine Dr.ite (fun _ => ?_) fun _ => Dr.ite (fun _ => ?_) fun _ => Dr.ite (fun _ => ?_) fun _ => Dr.ite (fun _ => ?_) fun _ => Dr.ite (fun _ => ?_) fun _ => ?_
  · exact Dr.ret o2 (by simp only; omega)
  · refine Dr.bind (int_dr o2 hl (by simp)) fun z i3 h3 o3 hz => ?_
    refine Dr.bind (l2any_dr o3 hl) fun u i4 h4 o4 hu => ?_
    refine Dr.ite (fun _ => ?_) fun hn => absurd (okLen_iff.2 (by simp; omega)) hn
    exact Dr.ret o4 (by simp; omega)
  · obtain ⟨o, e, hQ⟩ := loopM_ends (b := spec_l5Any_b0 ⟨b, i, h⟩) (fun s => (s.1 ≤ 4 ∧ 0 ≤ s.1) ∧ okI b s.2.1 ∧ (s.2.2.2.length : Int) ≤ 4 + s.1) (fun s => (4 - s.1).toNat) (fun o => ∃ j i' h' l, o = .out (j, i', h', l) ∧ okI b i' ∧ l.length ≤ 8) (fun s hs => by
      obtain ⟨j, i', h', l⟩ := s
      obtain ⟨q0, q2, q3⟩ := hs
      simp only at q0 q2 q3
      simp only [spec_l5Any_b0]
      by_cases hj : j < 4
      · obtain ⟨x, i3, h3, ex, o3, _⟩ := l2draw_dr (h := h') q2 hl
        rw [if_pos (by simpa using hj), ex, some_bind, if_pos (okLen_iff.2 (by simp; omega)), w64 (n := j + 1) (by omega) (by omega)]
        exact ⟨_, rfl, ⟨by simp only; omega, o3, by simp; omega⟩, by simp only; omega⟩
      · rw [if_neg (by simpa using hj)]
        exact ⟨_, rfl, _, _, _, _, rfl, q2, by omega⟩) k (0, i2, h2, x.L) ⟨by simp, o2, by simp only; omega⟩ (by have : 9223372036854775808 ≤ k := hk; simp only; omega)
    obtain ⟨j, i', h', l, rfl, p1, p2⟩ := hQ
    refine Dr.pbind e ?_
    exact Dr.ret p1 p2
  · refine Dr.ite (fun _ => ?_) fun hn => absurd (okLen_iff.2 (by simp only; omega)) hn
    exact Dr.ret o2 (by simp; omega)
  · exact Dr.ret o2 (by simp)
  · exact Dr.ret o2 (by simp only; omega)
theorem l19change_dr {k : Nat} (hk : Big k) {b : List Int} {i h : Int} (hi : okI b i) (hl : b.length ≤ 1048576) : Dr b (spec_l19Change k ⟨b, i, h⟩) (fun c => c.N.L.length ≤ 8) := by
  rw [spec_l19Change]
  refine Dr.bind (below_dr hi hl 48) fun y i1 h1 o1 hy => ?_
  refine Dr.bind (l5draw_dr hk o1 hl) fun x i2 h2 o2 hx => ?_
  have hx4 := hx.1
  refine Dr.bind (below_dr o2 hl 8) fun z i3 h3 o3 hz => ?_
  refine Dr.ite (fun _ => ?_) fun _ => Dr.ite (fun _ => ?_) fun _ => ?_
  · exact Dr.bind (int_dr o3 hl (by simp)) fun u i4 h4 o4 hu => Dr.ret o4 (by simp only; omega)
  · exact Dr.bind (l5any_dr hk o3 hl) fun u i4 h4 o4 hu => Dr.ret o4 hu
  · exact Dr.ret o3 (by simp only; omega)
/-- A transaction as it is drawn: good. -/
def goodT (t : TTx) : Prop := (1 ≤ t.Seq ∧ t.Seq ≤ 99) ∧ (2 ≤ t.Size ∧ t.Size ≤ 9) ∧ (0 ≤ t.Root ∧ t.Root < t.Size) ∧ t.Puts.length ≤ 9 ∧ (∀ c ∈ t.Puts, goodN c.N ∧ 0 ≤ c.Page ∧ c.Page < t.Size) ∧ t.Puts.Pairwise (fun x y => x.Page < y.Page)
theorem l19draw_dr {k : Nat} (hk : Big k) {b : List Int} {i h : Int} (hi : okI b i) (hl : b.length ≤ 1048576) : Dr b (spec_l19Draw k ⟨b, i, h⟩) goodT := by
  rw [spec_l19Draw]
  refine Dr.bind (below_dr hi hl 9) fun s i1 h1 o1 hs => ?_
  refine Dr.bind (below_dr o1 hl 8) fun n i2 h2 o2 hn => ?_
  have hn0 := hn.1
  have hn1 := hn.2 (by decide)
  have hs0 := hs.1
  have hs1 := hs.2 (by decide)
  have ew : wrap64 (2 + n) = 2 + n := w64 (by omega) (by omega)
  refine Dr.bind (below_dr o2 hl _) fun r i3 h3 o3 hr => ?_
  have hr0 := hr.1
  have hr1 : r < wrap64 (2 + n) := hr.2 (by show 0 < wrap64 (2 + n); rw [ew]; omega)
  rw [ew] at hr1
  obtain ⟨o, e, hQ⟩ := loopM_ends (b := spec_l19Draw_b0 k ⟨b, i, h⟩ (n, ⟨b, i2, h2⟩)) (fun s => (0 ≤ s.1 ∧ s.1 ≤ 2 + n) ∧ okI b s.2.1 ∧ (s.2.2.2.length : Int) ≤ s.1 ∧ (∀ c ∈ s.2.2.2, goodN c.N ∧ 0 ≤ c.Page ∧ c.Page < s.1) ∧ s.2.2.2.Pairwise (fun x y => x.Page < y.Page)) (fun s => (2 + n - s.1).toNat)
    (fun o => ∃ j i' h' l, o = .out (j, i', h', l) ∧ okI b i' ∧ l.length ≤ 9 ∧ (∀ c ∈ l, goodN c.N ∧ 0 ≤ c.Page ∧ c.Page < 2 + n) ∧ l.Pairwise (fun x y => x.Page < y.Page)) (fun s hs => by
      obtain ⟨j, i', h', l⟩ := s
      obtain ⟨q0, q2, q3, q4, q5⟩ := hs
      simp only at q0 q2 q3 q4 q5
      simp only [spec_l19Draw_b0, ew]
      by_cases hj : j < 2 + n
      · obtain ⟨c, i3, h3, ec, o3, _⟩ := once_dr (h := h') q2 hl 3
        rw [if_pos (by simpa using hj), ec, some_bind, w64 (n := j + 1) (by omega) (by omega)]
        cases c
        · rw [if_neg (by simp)]
          exact ⟨_, rfl, ⟨by simp only; omega, o3, by simp only; omega, fun c hc => ⟨(q4 c hc).1, (q4 c hc).2.1, by have := (q4 c hc).2.2; simp only; omega⟩, q5⟩, by simp only; omega⟩
        · obtain ⟨x, i4, h4, ex, o4, hx⟩ := l5draw_dr hk (h := h3) o3 hl
          rw [if_pos rfl]
          simp only [ex, some_bind]
          rw [if_pos (okLen_iff.2 (by simp; omega))]
          refine ⟨_, rfl, ⟨by simp only; omega, o4, by simp; omega, fun c hc => ?_, ?_⟩, by simp only; omega⟩
          · simp only [List.mem_append, List.mem_cons, List.not_mem_nil, or_false] at hc
            rcases hc with hc | rfl
            · exact ⟨(q4 c hc).1, (q4 c hc).2.1, by have := (q4 c hc).2.2; simp only; omega⟩
            · exact ⟨hx, q0.1, by simp only; omega⟩
          · rw [List.pairwise_append]
            refine ⟨q5, by simp, fun y hy z hz => ?_⟩
            simp only [List.mem_cons, List.not_mem_nil, or_false] at hz
            subst hz
            exact (q4 y hy).2.2
      · rw [if_neg (by simpa using hj)]
        exact ⟨_, rfl, _, _, _, _, rfl, q2, by omega, fun c hc => ⟨(q4 c hc).1, (q4 c hc).2.1, by have := (q4 c hc).2.2; omega⟩, q5⟩) k (0, i3, h3, ([] : List TChange)) ⟨by simp only; omega, o3, by simp, by simp, by simp⟩ (by have : 9223372036854775808 ≤ k := hk; simp only; omega)
  obtain ⟨j, i', h', l, rfl, p1, p2, p3, p4⟩ := hQ
  refine Dr.pbind e ?_
  refine Dr.ret p1 ⟨?_, ?_, ?_, p2, ?_, p4⟩
  · show 1 ≤ wrap64 (1 + s) ∧ wrap64 (1 + s) ≤ 99
    rw [w64 (by omega) (by omega)]; omega
  · show 2 ≤ wrap64 (2 + n) ∧ wrap64 (2 + n) ≤ 9
    rw [ew]; omega
  · show 0 ≤ r ∧ r < wrap64 (2 + n)
    rw [ew]; exact ⟨hr0, hr1⟩
  · show ∀ c ∈ l, goodN c.N ∧ 0 ≤ c.Page ∧ c.Page < wrap64 (2 + n)
    rw [ew]; exact p3
theorem l19any_dr {k : Nat} (hk : Big k) {b : List Int} {i h : Int} (hi : okI b i) (hl : b.length ≤ 1048576) : Dr b (spec_l19Any k ⟨b, i, h⟩) (fun t => t.Puts.length ≤ 10 ∧ ∀ c ∈ t.Puts, c.N.L.length ≤ 8) := by
  rw [spec_l19Any]
  refine Dr.bind (l19draw_dr hk hi hl) fun t i1 h1 o1 ht => ?_
  have h9 := ht.2.2.2.1
  have h8 : ∀ c ∈ t.Puts, c.N.L.length ≤ 8 := fun c hc => by have := (ht.2.2.2.2.1 c hc).1.1; omega
  have hT : t.Puts.length ≤ 10 ∧ ∀ c ∈ t.Puts, c.N.L.length ≤ 8 := ⟨by omega, h8⟩
  refine Dr.bind (below_dr o1 hl 12) fun y i2 h2 o2 hy => ?_
  refine Dr.ite (fun _ => ?_) fun _ => Dr.ite (fun _ => ?_) fun _ => Dr.ite (fun _ => ?_) fun _ => Dr.ite (fun _ => ?_) fun _ => ?_
  · exact Dr.bind (int_dr o2 hl (by simp)) fun z i3 h3 o3 hz => Dr.ret o3 hT
  · exact Dr.bind (int_dr o2 hl (by simp)) fun z i3 h3 o3 hz => Dr.ret o3 hT
  · exact Dr.bind (int_dr o2 hl (by simp)) fun z i3 h3 o3 hz => Dr.ret o3 hT
  · refine Dr.bind (below_dr o2 hl 12) fun z i3 h3 o3 hz => ?_
    refine Dr.bind (l5any_dr hk o3 hl) fun u i4 h4 o4 hu => ?_
    refine Dr.ite (fun _ => ?_) fun hn => absurd (okLen_iff.2 (by simp; omega)) hn
    refine Dr.ret o4 ⟨by simp; omega, fun c hc => ?_⟩
    simp only [List.mem_append, List.mem_cons, List.not_mem_nil, or_false] at hc
    rcases hc with hc | rfl
    · exact h8 c hc
    · exact hu
  · exact Dr.ret o2 hT
theorem l19epoch_dr {b : List Int} {i h : Int} (hi : okI b i) (hl : b.length ≤ 1048576) : Dr b (spec_l19Epoch ⟨b, i, h⟩) (fun _ => True) := by
  rw [spec_l19Epoch]
  exact Dr.bind (int_dr hi hl (by simp)) fun x i1 h1 o1 hx => Dr.ret o1 trivial
theorem u8_wf (x : Int) : wfU8 (IntKind.u8.wrap x) := by
  rw [u8w]; constructor <;> omega

def put2 (l : List Int) (x : Int) : List Int := if 0 ≤ x ∧ x ≤ 65535 then l ++ [x / 256, x % 256] else l
theorem put2_len (l : List Int) (x : Int) : (put2 l x).length ≤ l.length + 2 := by
  unfold put2; split <;> simp
theorem spec_put2_eq {l : List Int} {x : Int} (h : okLen (l.length + 2) = true) : spec_Put2 l x = some (put2 l x) := by
  have h1 : okLen l.length = true := okLen_le h (by omega)
  simp only [spec_Put2, spec_in_eq, some_bind, List.nil_append, List.length_nil, Nat.zero_add, h1, if_true, List.length_cons, h, put2]
  by_cases hx : 0 ≤ x ∧ x ≤ 65535
  · have e1 : Int.tdiv x 256 = x / 256 := tdiv_pos hx.1
    have e2 : Int.tmod x 256 = x % 256 := tmod_pos hx.1
    simp only [hx, decide_true, Bool.not_true, Bool.false_eq_true, if_false, if_true, and_self, e1, e2, u8w]
    rw [w64 (by omega) (by omega)]
    have e3 : x / 256 % 256 = x / 256 := by omega
    have e4 : x % 256 % 256 = x % 256 := by omega
    rw [e3, e4]
  · simp [hx]
theorem impl_put2_eq {l : List Int} {x : Int} (h : okLen (l.length + 2) = true) : impl_Put2 l x = some (put2 l x) := by
  have h1 : okLen l.length = true := okLen_le h (by omega)
  simp only [impl_Put2, slices_Clone_byte_byte, impl_in_eq, some_bind, h1, if_true, List.length_cons, List.length_nil, Nat.zero_add, h, put2]
  by_cases hx : 0 ≤ x ∧ x ≤ 65535
  · simp only [hx, decide_true, Bool.not_true, Bool.false_eq_true, if_false, if_true, and_self, u8w, sh8]
    rw [fdiv_pos (by omega)]
    have e3 : x / 256 % 256 = x / 256 := by omega
    rw [e3]
  · simp [hx]

def putEntry (e : TEntry) : List Int := if (0 ≤ e.N ∧ e.N ≤ 65535) ∧ boxOkP e.R then put2 [] e.N ++ [e.R.X0 % 256, e.R.Y0 % 256, e.R.X1 % 256, e.R.Y1 % 256] else []
theorem putEntry_len (e : TEntry) : (putEntry e).length ≤ 6 := by
  unfold putEntry
  split
  · have h := put2_len [] e.N
    simp only [List.length_append, List.length_cons, List.length_nil] at *
    omega
  · simp
theorem spec_putEntry_eq (e : TEntry) : spec_PutEntry e = some (putEntry e) := by
  have h2 := put2_len [] e.N
  simp only [List.length_nil] at h2
  have k1 : okLen (([] : List Int).length + 2) = true := rfl
  have k2 : okLen ((put2 [] e.N).length + 4) = true := okLen_iff.2 (by omega)
  simp only [spec_PutEntry, spec_in_eq, spec_boxOk_eq, some_bind, spec_put2_eq (x := e.N) k1, putEntry, u8w, List.length_cons, List.length_nil, Nat.zero_add, Nat.reduceAdd, k2, if_true]
  by_cases hA : 0 ≤ e.N ∧ e.N ≤ 65535 <;> by_cases hB : boxOkP e.R <;> simp [hA, hB]
theorem impl_putEntry_eq (e : TEntry) : impl_PutEntry e = some (putEntry e) := by
  have h2 := put2_len [] e.N
  simp only [List.length_nil] at h2
  have k1 : okLen (([] : List Int).length + 2) = true := rfl
  have k2 : okLen ((put2 [] e.N).length + 4) = true := okLen_iff.2 (by omega)
  simp only [impl_PutEntry, impl_in_eq, impl_boxOk_eq, some_bind, impl_put2_eq (x := e.N) k1, putEntry, u8w, List.length_cons, List.length_nil, Nat.zero_add, Nat.reduceAdd, k2, if_true]
  by_cases hA : 0 ≤ e.N ∧ e.N ≤ 65535 <;> by_cases hB : boxOkP e.R <;> simp [hA, hB]
def putNode (p : TNode) : List Int := if nodeOk p = true then pad ([if p.Leaf = true then ((p.L.length : Int) + 16) % 256 else (p.L.length : Int) % 256] ++ p.L.flatMap putEntry) 25 else []
theorem putNode_in {p : TNode} (h : nodeOk p = true) (x : Int) : ([x] ++ p.L.flatMap putEntry).length ≤ 25 := by
  have h1 := (nodeOk_facts h).1
  have h2 := fm_len (f := putEntry) (p := p.L) (B := 6) fun y _ => putEntry_len y
  simp only [List.length_append, List.length_cons, List.length_nil]; omega
theorem putNode_len (p : TNode) : (putNode p).length ≤ 25 := by
  unfold putNode
  split
  · rename_i h
    rw [pad_len (by have := putNode_in h (if p.Leaf = true then ((p.L.length : Int) + 16) % 256 else (p.L.length : Int) % 256); omega) (by omega)]; decide
  · simp
theorem putNode_trace {k : Nat} (hk : Big k) {p : TNode} (h : nodeOk p = true) {pe : TEntry → Option (List Int)} (hpe : ∀ e, pe e = some (putEntry e)) {b : (List Int × Int) → Option (Nx (List Int × Int) (List Int))} (x : Int)
    (hb : ∀ l i, b (l, i) = (if (decide (i < ((List.length p.L : Nat) : Int))) = true then (if (0 : Int) ≤ i ∧ i < ((List.length p.L : Nat) : Int) then ((pe (gt p.L i)).bind fun t => (if okLen (List.length l + List.length t) = true then some (.next ((l ++ t), (wrap64 (i + 1)))) else none)) else none) else some (.out (l, i)))) :
    loopM b k ([x], 0) = some (.out ([x] ++ p.L.flatMap putEntry, (p.L.length : Int))) := by
  have h4 := (nodeOk_facts h).1
  refine loop_app (f := putEntry) (p := p.L) (B := 6) (by omega) hk (fun y _ => putEntry_len y) ?_ ?_
  · intro i hi l hl
    have hp := putEntry_len p.L[i]
    simp only [List.length_cons, List.length_nil] at hl
    rw [hb, if_pos (by simp; omega), if_pos (by omega), hpe, some_bind, gt_nat hi, if_pos (okLen_iff.2 (by omega)), w64s (by omega)]
  · intro l
    rw [hb, if_neg (by simp)]
theorem spec_putNode_eq {k : Nat} (hk : Big k) {p : TNode} (hl : p.L.length ≤ 2097152) : spec_PutNode k p = some (putNode p) := by
  rw [spec_PutNode, spec_nodeOk_eq hk hl, some_bind, putNode]
  by_cases h : nodeOk p = true
  · have hin := putNode_in h
    rw [if_neg (by simp [h]), if_pos h]
    by_cases hL : p.Leaf = true
    · rw [if_pos hL, if_pos hL, putNode_trace hk h spec_putEntry_eq _ (fun l i => rfl)]
      simp only [some_bind]
      rw [spec_pad_eq hk (by have := hin (IntKind.u8.wrap (wrap64 (((List.length p.L : Nat) : Int) + 16))); omega), some_bind, u8w, w64 (by omega) (by omega)]
    · rw [if_neg hL, if_neg hL, putNode_trace hk h spec_putEntry_eq _ (fun l i => rfl)]
      simp only [some_bind]
      rw [spec_pad_eq hk (by have := hin (IntKind.u8.wrap (((List.length p.L : Nat) : Int))); omega), some_bind, u8w]
  · rw [if_pos (by simpa using h), if_neg h]
theorem impl_putNode_eq {k : Nat} (hk : Big k) {p : TNode} (hl : p.L.length ≤ 2097152) : impl_PutNode k p = some (putNode p) := by
  rw [impl_PutNode, impl_nodeOk_eq hk hl, some_bind, putNode]
  by_cases h : nodeOk p = true
  · have hin := putNode_in h
    rw [if_neg (by simp [h]), if_pos h]
    by_cases hL : p.Leaf = true
    · rw [if_pos hL, if_pos hL, putNode_trace hk h impl_putEntry_eq _ (fun l i => rfl)]
      simp only [some_bind]
      rw [impl_pad_eq hk (by have := hin (IntKind.u8.wrap (wrap64 (((List.length p.L : Nat) : Int) + 16))); omega), some_bind, u8w, w64 (by omega) (by omega)]
    · rw [if_neg hL, if_neg hL, putNode_trace hk h impl_putEntry_eq _ (fun l i => rfl)]
      simp only [some_bind]
      rw [impl_pad_eq hk (by have := hin (IntKind.u8.wrap (((List.length p.L : Nat) : Int))); omega), some_bind, u8w]
  · rw [if_pos (by simpa using h), if_neg h]

def putCell (e : Int) (x : TChange) : List Int := if (0 ≤ e ∧ e ≤ 65535) ∧ (0 ≤ x.Page ∧ x.Page ≤ 47) ∧ nodeOk x.N = true then (put2 [1] e ++ [x.Page % 256]) ++ putNode x.N else []
theorem putCell_len (e : Int) (x : TChange) : (putCell e x).length ≤ 29 := by
  have h1 := put2_len [1] e
  have h2 := putNode_len x.N
  unfold putCell
  split
  · simp only [List.length_append, List.length_cons, List.length_nil] at *; omega
  · simp
theorem spec_putCell_eq {k : Nat} (hk : Big k) {e : Int} {x : TChange} (hl : x.N.L.length ≤ 2097152) : spec_PutCell k e x = some (putCell e x) := by
  have h1 := put2_len [1] e
  have h2 := putNode_len x.N
  simp only [List.length_cons, List.length_nil] at h1
  rw [spec_PutCell]
  simp only [spec_in_eq, some_bind, spec_nodeOk_eq hk hl, spec_put2_eq (x := e) (l := [1]) rfl, spec_putNode_eq hk hl, u8w, putCell]
  rw [if_pos (c := okLen _ = true) (okLen_iff.2 (by simp; omega)), if_pos (c := okLen _ = true) (okLen_iff.2 (by simp; omega))]
  by_cases hA : 0 ≤ e ∧ e ≤ 65535 <;> by_cases hB : 0 ≤ x.Page ∧ x.Page ≤ 47 <;> cases hC : nodeOk x.N <;> simp [hA, hB]
theorem impl_putCell_eq {k : Nat} (hk : Big k) {e : Int} {x : TChange} (hl : x.N.L.length ≤ 2097152) : impl_PutCell k e x = some (putCell e x) := by
  have h1 := put2_len [1] e
  have h2 := putNode_len x.N
  simp only [List.length_cons, List.length_nil] at h1
  rw [impl_PutCell]
  simp only [impl_in_eq, some_bind, impl_nodeOk_eq hk hl, impl_put2_eq (x := e) (l := [1]) rfl, impl_putNode_eq hk hl, u8w, putCell]
  rw [if_pos (c := okLen _ = true) (okLen_iff.2 (by simp; omega)), if_pos (c := okLen _ = true) (okLen_iff.2 (by simp; omega))]
  by_cases hA : 0 ≤ e ∧ e ≤ 65535 <;> by_cases hB : 0 ≤ x.Page ∧ x.Page ≤ 47 <;> cases hC : nodeOk x.N <;> simp [hA, hB]

theorem put2_wf {l : List Int} {y : Int} (hl : ∀ x ∈ l, wfU8 x) : ∀ x ∈ put2 l y, wfU8 x := by
  intro x hx
  unfold put2 at hx
  split at hx
  · simp only [List.mem_append, List.mem_cons, List.not_mem_nil, or_false] at hx
    rcases hx with h | h | h
    · exact hl x h
    · subst h; constructor <;> omega
    · subst h; constructor <;> omega
  · exact hl x hx
theorem pad_wf {l : List Int} {n : Int} (h : ∀ x ∈ l, wfU8 x) : ∀ x ∈ pad l n, wfU8 x := by
  intro x hx
  unfold pad at hx
  split at hx
  · rcases List.mem_append.1 hx with h1 | h1
    · exact h x h1
    · rw [List.eq_of_mem_replicate h1]; constructor <;> omega
  · exact h x hx
theorem m256_wf (x : Int) : wfU8 (x % 256) := by constructor <;> omega
theorem putEntry_wf (e : TEntry) : ∀ x ∈ putEntry e, wfU8 x := by
  intro x hx
  unfold putEntry at hx
  split at hx
  · rcases List.mem_append.1 hx with h | h
    · exact put2_wf (by simp) x h
    · simp only [List.mem_cons, List.not_mem_nil, or_false] at h
      rcases h with h | h | h | h <;> (subst h; exact m256_wf _)
  · simp at hx
theorem putNode_wf (p : TNode) : ∀ x ∈ putNode p, wfU8 x := by
  intro x hx
  unfold putNode at hx
  split at hx
  · refine pad_wf (fun z hz => ?_) x hx
    rcases List.mem_append.1 hz with h | h
    · simp only [List.mem_cons, List.not_mem_nil, or_false] at h
      subst h; split <;> exact m256_wf _
    · obtain ⟨e, _, he⟩ := List.mem_flatMap.1 h
      exact putEntry_wf e z he
  · simp at hx
theorem putCell_wf (e : Int) (p : TChange) : ∀ x ∈ putCell e p, wfU8 x := by
  intro x hx
  unfold putCell at hx
  split at hx
  · rcases List.mem_append.1 hx with h | h
    · rcases List.mem_append.1 h with h | h
      · exact put2_wf (fun z hz => by simp at hz; subst hz; constructor <;> omega) x h
      · simp only [List.mem_cons, List.not_mem_nil, or_false] at h
        subst h; exact m256_wf _
    · exact putNode_wf _ x h
  · simp at hx
theorem putNode_first {p : TNode} (h : nodeOk p = true) : gt (putNode p) 0 = (if p.Leaf = true then ((p.L.length : Int) + 16) % 256 else (p.L.length : Int) % 256) := by
  rw [putNode, if_pos h, pad, if_pos (by omega)]; rfl
theorem putNode_nil {p : TNode} (h : ¬ nodeOk p = true) : putNode p = [] := by rw [putNode, if_neg h]
theorem putNode_ok_len {p : TNode} (h : nodeOk p = true) : (putNode p).length = 25 := by
  rw [putNode, if_pos h, pad_len (by have := putNode_in h (if p.Leaf = true then ((p.L.length : Int) + 16) % 256 else (p.L.length : Int) % 256); omega) (by omega)]; rfl

theorem pad_len32 {q : List Int} (hq : q.length ≤ 64) : (pad q 32).length ≤ 64 := by
  unfold pad; rw [if_pos (by decide)]; simp; omega
theorem gt_mem {α : Type} [Inhabited α] {l : List α} {i : Int} (h0 : 0 ≤ i) (h : i < (l.length : Int)) : gt l i ∈ l := by
  obtain ⟨hi, e⟩ := gt_eq h0 h
  rw [e]; exact List.getElem_mem hi
theorem or_bytes {a b : Int} (ha : 0 ≤ a) (ha2 : a ≤ 255) (hb : 0 ≤ b) (hb2 : b ≤ 255) : bits2 (· ||| ·) (wrap64 (a * 256)) b = 256 * a + b := by
  obtain ⟨x, rfl⟩ := Int.eq_ofNat_of_zero_le ha
  obtain ⟨y, rfl⟩ := Int.eq_ofNat_of_zero_le hb
  rw [w64 (by omega) (by omega)]
  unfold bits2
  have e1 : ((x : Int) * 256) = ((2 ^ 8 * x : Nat) : Int) := by omega
  rw [e1, BitVec.ofInt_natCast, BitVec.ofInt_natCast, BitVec.toNat_or, BitVec.toNat_ofNat, BitVec.toNat_ofNat, Nat.mod_eq_of_lt (by omega), Nat.mod_eq_of_lt (by omega), ← Nat.two_pow_add_eq_or_of_lt (by omega), w64 (by omega) (by omega)]
  omega
def get2 (l : List Int) (i : Int) : Int × Bool := if i < 0 ∨ i > (l.length : Int) - 2 then (0, false) else (256 * gt l i + gt l (i + 1), true)
theorem get2_facts {l : List Int} {i : Int} (hw : ∀ x ∈ l, wfU8 x) (hl : l.length ≤ 2097152) (h : ¬ (i < 0 ∨ i > (l.length : Int) - 2)) :
    wfU8 (gt l i) ∧ wfU8 (gt l (i + 1)) ∧ wrap64 (i + 1) = i + 1 ∧ (0 ≤ i ∧ i < (l.length : Int)) ∧ (0 ≤ i + 1 ∧ i + 1 < (l.length : Int)) := by
  refine ⟨hw _ (gt_mem (by omega) (by omega)), hw _ (gt_mem (by omega) (by omega)), w64 (by omega) (by omega), by omega, by omega⟩
theorem impl_get2_eq {l : List Int} {i : Int} (hw : ∀ x ∈ l, wfU8 x) (hl : l.length ≤ 2097152) : impl_Get2 l i = some (get2 l i) := by
  unfold impl_Get2 get2
  rw [w64 (n := (l.length : Int) - 2) (by omega) (by omega)]
  by_cases h : i < 0 ∨ i > (l.length : Int) - 2
  · simp [h]
  · obtain ⟨⟨a1, a2⟩, ⟨b1, b2⟩, e, h1, h2⟩ := get2_facts hw hl h
    rw [if_neg (by simpa using h), e, if_pos h1, if_pos h2, if_neg h]
    rw [i64w, i64w, w64 (n := gt l i) (by omega) (by omega), w64 (n := gt l (i + 1)) (by omega) (by omega), sh8, or_bytes a1 a2 b1 b2]

def badNode : TNode × Bool := (⟨false, []⟩, false)
theorem slc_wf {l : List Int} (hw : ∀ x ∈ l, wfU8 x) {a b : Int} : ∀ x ∈ slc l a b, wfU8 x := fun x hx => hw x (List.mem_of_mem_drop (List.mem_of_mem_take hx))
theorem gt_drop {l : List Int} {n j : Nat} : gt (l.drop n) (j : Int) = gt l ((n + j : Nat) : Int) := by
  simp only [gt, List.getD_eq_getElem?_getD, List.getElem?_drop, Int.toNat_natCast]
theorem putEntry_ok {e : TEntry} (h1 : 0 ≤ e.N ∧ e.N ≤ 65535) (h2 : boxOkP e.R) : putEntry e = [e.N / 256, e.N % 256, e.R.X0, e.R.Y0, e.R.X1, e.R.Y1] := by
  have h2' := h2
  unfold boxOkP at h2'
  rw [putEntry, if_pos ⟨h1, h2⟩, put2, if_pos h1]
  have a : e.R.X0 % 256 = e.R.X0 := by omega
  have b : e.R.Y0 % 256 = e.R.Y0 := by omega
  have c : e.R.X1 % 256 = e.R.X1 := by omega
  have d : e.R.Y1 % 256 = e.R.Y1 := by omega
  rw [a, b, c, d]
  rfl
theorem impl_getEntry_round {b : List Int} (hw : ∀ x ∈ b, wfU8 x) (hl : b.length ≤ 2097152) {i : Nat} {e : TEntry} {rest : List Int} (hd : b.drop i = putEntry e ++ rest) (h1 : 0 ≤ e.N ∧ e.N ≤ 65535) (h2 : boxOkP e.R) : impl_GetEntry b (i : Int) = some (e, true) := by
  rw [putEntry_ok h1 h2] at hd
  have hlen : (b.drop i).length = 6 + rest.length := by rw [hd]; simp; omega
  rw [List.length_drop] at hlen
  have g : ∀ j : Nat, gt b ((i + j : Nat) : Int) = gt (b.drop i) (j : Int) := fun j => gt_drop.symm
  have g0 := g 0; have g1 := g 1; have g2 := g 2; have g3 := g 3; have g4 := g 4; have g5 := g 5
  rw [hd] at g0 g1 g2 g3 g4 g5
  have g0' : gt b (i : Int) = e.N / 256 := g0
  have g1' : gt b ((i : Int) + 1) = e.N % 256 := by have : ((i + 1 : Nat) : Int) = (i : Int) + 1 := by omega
                                                    rw [← this, g1]; rfl
  have g2' : gt b ((i : Int) + 2) = e.R.X0 := by have : ((i + 2 : Nat) : Int) = (i : Int) + 2 := by omega
                                                 rw [← this, g2]; rfl
  have g3' : gt b ((i : Int) + 3) = e.R.Y0 := by have : ((i + 3 : Nat) : Int) = (i : Int) + 3 := by omega
                                                 rw [← this, g3]; rfl
  have g4' : gt b ((i : Int) + 4) = e.R.X1 := by have : ((i + 4 : Nat) : Int) = (i : Int) + 4 := by omega
                                                 rw [← this, g4]; rfl
  have g5' : gt b ((i : Int) + 5) = e.R.Y1 := by have : ((i + 5 : Nat) : Int) = (i : Int) + 5 := by omega
                                                 rw [← this, g5]; rfl
  have h2' := h2
  unfold boxOkP at h2'
  have w : ∀ x : Int, 0 ≤ x ∧ x ≤ 255 → IntKind.i64.wrap x = x := fun x hx => by rw [i64w, w64 (by omega) (by omega)]
  rw [impl_GetEntry, w64 (n := ((List.length b : Nat) : Int) - 6) (by omega) (by omega), if_neg (by simp; omega), impl_get2_eq hw hl, some_bind,
    w64 (n := (i : Int) + 2) (by omega) (by omega), w64 (n := (i : Int) + 3) (by omega) (by omega), w64 (n := (i : Int) + 4) (by omega) (by omega), w64 (n := (i : Int) + 5) (by omega) (by omega),
    if_pos (by omega), if_pos (by omega), if_pos (by omega), if_pos (by omega), g2', g3', g4', g5', w _ (by omega), w _ (by omega), w _ (by omega), w _ (by omega)]
  have hbox : (⟨e.R.X0, e.R.Y0, e.R.X1, e.R.Y1⟩ : TBox) = e.R := rfl
  have hg : get2 b (i : Int) = (e.N, true) := by
    rw [get2, if_neg (by omega), g0', g1']
    have : 256 * (e.N / 256) + e.N % 256 = e.N := by omega
    rw [this]
  rw [hbox, impl_boxOk_eq, hg]
  simp [h2]
theorem flat_drop : ∀ {l : List TEntry} (i : Nat), (∀ e ∈ l, (putEntry e).length = 6) → (l.flatMap putEntry).drop (6 * i) = (l.drop i).flatMap putEntry
  | l, 0, _ => by simp
  | [], i + 1, _ => by simp
  | e :: l, i + 1, h => by
    have he := h e (by simp)
    have e1 : 6 * (i + 1) = (putEntry e).length + 6 * i := by omega
    rw [List.flatMap_cons, e1, List.drop_append]
    simp only [List.drop_succ_cons]
    rw [← flat_drop i fun x hx => h x (by simp [hx])]
    simp
theorem nodeOk_entry {p : TNode} (h : nodeOk p = true) : ∀ e ∈ p.L, (0 ≤ e.N ∧ e.N ≤ 65535) ∧ boxOkP e.R := by
  intro e he
  obtain ⟨i, hi, rfl⟩ := List.getElem_of_mem he
  have hb := (nodeOk_facts h).2.1 i hi
  unfold badEntry at hb
  rw [gt_nat hi] at hb
  simp only [not_or] at hb
  obtain ⟨h1, h2, h3, h4⟩ := hb
  refine ⟨?_, Decidable.byContradiction h1⟩
  cases hL : p.Leaf
  · have : 0 ≤ p.L[i].N ∧ p.L[i].N ≤ 47 := Decidable.byContradiction fun hn => h4 ⟨hL, hn⟩
    omega
  · have : 1 ≤ p.L[i].N ∧ p.L[i].N ≤ 999 := Decidable.byContradiction fun hn => h3 ⟨hL, hn⟩
    omega
theorem impl_getNode_round {k : Nat} (hk : Big k) {p : TNode} (h : nodeOk p = true) : impl_GetNode k (putNode p) = some (p, true) := by
  have hf := nodeOk_facts h
  have hen := nodeOk_entry h
  have h25 := putNode_ok_len h
  have h0 := putNode_first h
  have hw := putNode_wf p
  have hl4 := hf.1
  have hnode := putNode_in h (if p.Leaf = true then ((p.L.length : Int) + 16) % 256 else (p.L.length : Int) % 256)
  have hb : ∃ rest, putNode p = [if p.Leaf = true then ((p.L.length : Int) + 16) % 256 else (p.L.length : Int) % 256] ++ (p.L.flatMap putEntry ++ rest) := by
    rw [putNode, if_pos h, pad, if_pos (by decide), List.append_assoc]
    exact ⟨_, rfl⟩
  obtain ⟨rest, hb⟩ := hb
  have h6 : ∀ e ∈ p.L, (putEntry e).length = 6 := fun e he => by rw [putEntry_ok (hen e he).1 (hen e he).2]; rfl
  have hdrop : ∀ i, i < p.L.length → ∃ r, (putNode p).drop (1 + 6 * i) = putEntry (gt p.L (i : Int)) ++ r := by
    intro i hi
    rw [hb, ← List.drop_drop, List.drop_append]
    have e1 : List.drop 1 [if p.Leaf = true then ((p.L.length : Int) + 16) % 256 else (p.L.length : Int) % 256] = [] := rfl
    rw [e1]
    simp only [List.length_cons, List.length_nil, Nat.zero_add, Nat.sub_self, List.drop_zero, List.nil_append]
    have hfl : 6 * i ≤ (p.L.flatMap putEntry).length := by
      have : ((p.L.flatMap putEntry).drop (6 * i)).length = ((p.L.drop i).flatMap putEntry).length := by rw [flat_drop i h6]
      rw [List.length_drop] at this
      have hpos : 0 < ((p.L.drop i).flatMap putEntry).length := by
        rw [List.drop_eq_getElem_cons hi, List.flatMap_cons, List.length_append, h6 _ (List.getElem_mem hi)]
        omega
      omega
    rw [List.drop_append_of_le_length hfl, flat_drop i h6, List.drop_eq_getElem_cons hi, List.flatMap_cons, List.append_assoc, gt_nat hi]
    exact ⟨_, rfl⟩
  generalize hB : putNode p = b at *
  have hq := hw _ (gt_mem (l := b) (i := 0) (by omega) (by omega))
  have e2 : IntKind.i64.wrap (Int.tmod (gt b 0) 16) = (p.L.length : Int) := by
    rw [tmod_pos hq.1, i64w, w64 (by omega) (by omega), h0]
    split <;> omega
  have e3 : decide (gt b 0 ≥ 16) = p.Leaf := by
    rw [h0]
    cases p.Leaf
    · simp; omega
    · simp; omega
  have e4 : (if 4 < (p.L.length : Int) then 4 else (p.L.length : Int)) = (p.L.length : Int) := if_neg (by omega)
  have hloop : loopM (impl_GetNode_b0 b) k (0, ([] : List TEntry)) = some (.out ((p.L.length : Int), p.L)) := by
    have := loopM_run0 (b := impl_GetNode_b0 b) (k := k) (fun i => ((i : Int), p.L.take i)) p.L.length (r := .out ((p.L.length : Int), p.L)) (fun t h => by cases h) (fun i hi => by
      obtain ⟨r, hr⟩ := hdrop i hi
      have hm : gt p.L (i : Int) ∈ p.L := by rw [gt_nat hi]; exact List.getElem_mem hi
      have hge := impl_getEntry_round hw (by omega) hr (hen _ hm).1 (hen _ hm).2
      simp only [impl_GetNode_b0, e2, e4]
      have e5 : wrap64 (1 + wrap64 (6 * (i : Int))) = ((1 + 6 * i : Nat) : Int) := by
        rw [w64 (n := 6 * (i : Int)) (by omega) (by omega), w64 (by omega) (by omega)]; omega
      rw [if_pos (by simp; omega), e5, hge, some_bind]
      rw [if_neg (by simp), if_pos (okLen_iff.2 (by simp; omega)), w64s (by omega), List.take_succ_eq_append_getElem hi, gt_nat hi]) (by
      simp only [impl_GetNode_b0, e2, e4]
      rw [if_neg (by simp), List.take_length]) (by have : 9223372036854775808 ≤ k := hk; omega)
    exact this
  have c25 : (!decide (((List.length b : Nat) : Int) = 25)) = false := by simp; omega
  rw [impl_GetNode, c25, if_neg (by simp), if_pos (by omega), if_pos (by omega), hloop, some_bind]
  simp only [e3]
  have hn : (⟨p.Leaf, p.L⟩ : TNode) = p := rfl
  rw [hn, impl_nodeOk_eq hk (by omega), impl_putNode_eq hk (by omega), hB]
  simp only [some_bind, h, bytes_Equal, str_eq hw hw]
  simp
theorem putCell_ne {e : Int} {x : TChange} (h : putCell e x ≠ []) : (0 ≤ e ∧ e ≤ 65535) ∧ (0 ≤ x.Page ∧ x.Page ≤ 47) ∧ nodeOk x.N = true := by
  unfold putCell at h
  split at h
  · assumption
  · exact absurd rfl h
theorem putCell_form {e : Int} {x : TChange} (h : putCell e x ≠ []) : pad (putCell e x) 32 = [1, e / 256, e % 256, x.Page] ++ (putNode x.N ++ [0, 0, 0]) := by
  obtain ⟨h1, h2, h3⟩ := putCell_ne h
  have hl := putNode_ok_len h3
  have e1 : putCell e x = [1, e / 256, e % 256, x.Page] ++ putNode x.N := by
    rw [putCell, if_pos ⟨h1, h2, h3⟩, put2, if_pos h1]
    have : x.Page % 256 = x.Page := by omega
    rw [this]; rfl
  rw [e1, pad, if_pos (by decide), List.append_assoc]
  have : (32 : Int).toNat - ([1, e / 256, e % 256, x.Page] ++ putNode x.N).length = 3 := by simp [hl]
  rw [this]; rfl
theorem impl_getPut_cell {k : Nat} (hk : Big k) {e : Int} {x : TChange} (h : putCell e x ≠ []) (e' : Int) : impl_GetPut k e' (pad (putCell e x) 32) = some (if putCell e' x ≠ [] ∧ pad (putCell e' x) 32 = pad (putCell e x) 32 then (x, true) else (⟨0, ⟨false, []⟩⟩, false)) := by
  obtain ⟨h1, h2, h3⟩ := putCell_ne h
  have hl := putNode_ok_len h3
  have hcl := putCell_len e x
  have hcl' := putCell_len e' x
  have hpl : (pad (putCell e x) 32).length = 32 := pad_len (by omega) (by omega)
  have hsl : slc (pad (putCell e x) 32) 4 29 = putNode x.N := by
    rw [putCell_form h]
    show (List.drop 4 ([1, e / 256, e % 256, x.Page] ++ (putNode x.N ++ [0, 0, 0]))).take 25 = _
    have : List.drop 4 ([1, e / 256, e % 256, x.Page] ++ (putNode x.N ++ [0, 0, 0])) = putNode x.N ++ [0, 0, 0] := rfl
    rw [this, ← hl, List.take_left]
  have h3' : gt (pad (putCell e x) 32) 3 = x.Page := by rw [putCell_form h]; rfl
  rw [impl_GetPut, if_neg (by simp [hpl]), if_pos (by rw [hpl]; decide), hsl, impl_getNode_round hk h3, some_bind, if_pos (by rw [hpl]; decide), h3', i64w, w64 (by omega) (by omega)]
  have hx : (⟨x.Page, x.N⟩ : TChange) = x := rfl
  have h4 := (nodeOk_facts h3).1
  simp only [hx, impl_putCell_eq hk (e := e') (x := x) (by omega), impl_pad_eq hk (l := putCell e' x) (n := 32) (by omega), some_bind, bytes_Equal, str_eq (pad_wf (n := 32) (putCell_wf e' x)) (pad_wf (n := 32) (putCell_wf e x))]
  have hz : decide (((List.length (putCell e' x) : Nat) : Int) = 0) = decide (putCell e' x = []) := decide_eq_decide.2 (by rw [← List.length_eq_zero_iff]; omega)
  rw [hz]
  by_cases hn : putCell e' x = []
  · rw [if_pos (by simp [hn]), if_neg (fun hh => hh.1 hn)]
    rfl
  · rw [if_neg (by simp [hn])]
    by_cases hp : pad (putCell e' x) 32 = pad (putCell e x) 32
    · rw [if_pos (c := putCell e' x ≠ [] ∧ _) ⟨hn, hp⟩, hp]
      simp
    · rw [if_neg (c := putCell e' x ≠ [] ∧ _) (fun hh => hp hh.2)]
      simp [hp]
theorem impl_getPut_round {k : Nat} (hk : Big k) {e : Int} {x : TChange} (h : putCell e x ≠ []) : impl_GetPut k e (pad (putCell e x) 32) = some (x, true) := by
  rw [impl_getPut_cell hk h, if_pos ⟨h, rfl⟩]
theorem impl_getPut_zero {k : Nat} (hk : Big k) (e : Int) : impl_GetPut k e (List.replicate 32 0) = some (⟨0, ⟨false, []⟩⟩, false) := by
  have hw : ∀ x ∈ List.replicate 25 (0 : Int), wfU8 x := fun x hx => by rw [List.eq_of_mem_replicate hx]; constructor <;> omega
  have hg : impl_GetNode k (List.replicate 25 0) = some (⟨false, []⟩, false) := by
    have hloop : loopM (impl_GetNode_b0 (List.replicate 25 0)) k (0, ([] : List TEntry)) = some (.out (0, [])) :=
      loopM_run0 (b := impl_GetNode_b0 (List.replicate 25 0)) (fun _ => (0, [])) 0 (fun t h => by cases h) (fun j hj => by omega) (by
        simp only [impl_GetNode_b0]
        rw [if_neg (by decide)]) (by have : 9223372036854775808 ≤ k := hk; omega)
    rw [impl_GetNode, if_neg (by decide), if_pos (by decide), if_pos (by decide), hloop, some_bind]
    have hn : nodeOk ⟨false, []⟩ = false := rfl
    have e1 : decide (gt (List.replicate 25 (0 : Int)) 0 ≥ 16) = false := by decide
    simp only [e1, impl_nodeOk_eq hk (p := ⟨false, []⟩) (by simp), some_bind, hn]
    rfl
  have hs : slc (List.replicate 32 (0 : Int)) 4 29 = List.replicate 25 0 := by decide
  rw [impl_GetPut, if_neg (by decide), if_pos (by decide), hs, hg, some_bind, if_pos (by decide), impl_putCell_eq hk (by simp), some_bind]
  rfl
theorem putCell_epoch {e e' : Int} {x y : TChange} (h : putCell e x ≠ []) (h' : putCell e' y ≠ []) (he : pad (putCell e x) 32 = pad (putCell e' y) 32) : e = e' := by
  have h1 := (putCell_ne h).1
  have h2 := (putCell_ne h').1
  rw [putCell_form h, putCell_form h'] at he
  simp only [List.cons_append, List.cons.injEq, List.nil_append] at he
  obtain ⟨_, a, b, _⟩ := he
  omega

def endCell (e : Int) (t : TTx) (n : Int) : List Int := put2 (put2 [2] e) t.Seq ++ [t.Root % 256, t.Size % 256, n % 256]
theorem endCell_len8 (e : Int) (t : TTx) (n : Int) : (endCell e t n).length ≤ 8 := by
  have h2 := put2_len [2] e
  have h1 := put2_len (put2 [2] e) t.Seq
  simp only [endCell, List.length_append, List.length_cons, List.length_nil] at *; omega
theorem impl_endCell_eq (e : Int) (t : TTx) (n : Int) : impl_endCell e t n = some (endCell e t n) := by
  have h2 := put2_len [2] e
  have h1 := put2_len (put2 [2] e) t.Seq
  simp only [List.length_cons, List.length_nil] at h1 h2
  rw [impl_endCell, impl_put2_eq (x := e) (l := [2]) rfl, some_bind, impl_put2_eq (okLen_iff.2 (by omega)), some_bind, if_pos (okLen_iff.2 (by simp; omega))]
  simp only [u8w, endCell]
def endTx (b : List Int) : TTx := ⟨256 * gt b 3 + gt b 4, gt b 5, gt b 6, []⟩
def endOk (e : Int) (b : List Int) : Prop := b.length = 32 ∧ gt b 0 = 2 ∧ 256 * gt b 1 + gt b 2 = e ∧ (∀ i, i < 24 → gt b (8 + (i : Nat)) = 0) ∧ numsOk (endTx b) = true ∧ gt b 7 ≤ gt b 6
theorem txOk_nil {t : TTx} (h : t.Puts = []) : txOk t = numsOk t := by simp [txOk, h, firstN_zero]
theorem endCell_eq {e : Int} {b : List Int} (hw : ∀ x ∈ b, wfU8 x) (hl : b.length = 32) (he : 0 ≤ e ∧ e ≤ 65535) :
    pad (endCell e (endTx b) (gt b 7)) 32 = b ↔ gt b 0 = 2 ∧ 256 * gt b 1 + gt b 2 = e ∧ (∀ i, i < 24 → gt b (8 + (i : Nat)) = 0) := by
  rcases b with _ | ⟨b0, b⟩; · simp at hl
  rcases b with _ | ⟨b1, b⟩; · simp at hl
  rcases b with _ | ⟨b2, b⟩; · simp at hl
  rcases b with _ | ⟨b3, b⟩; · simp at hl
  rcases b with _ | ⟨b4, b⟩; · simp at hl
  rcases b with _ | ⟨b5, b⟩; · simp at hl
  rcases b with _ | ⟨b6, b⟩; · simp at hl
  rcases b with _ | ⟨b7, b⟩; · simp at hl
  have hr : b.length = 24 := by simpa using hl
  have w1 : wfU8 b1 := hw _ (by simp)
  have w2 : wfU8 b2 := hw _ (by simp)
  have w3 : wfU8 b3 := hw _ (by simp)
  have w4 : wfU8 b4 := hw _ (by simp)
  have w5 : wfU8 b5 := hw _ (by simp)
  have w6 : wfU8 b6 := hw _ (by simp)
  have w7 : wfU8 b7 := hw _ (by simp)
  simp only [wfU8] at w1 w2 w3 w4 w5 w6 w7
  have g0 : gt (b0 :: b1 :: b2 :: b3 :: b4 :: b5 :: b6 :: b7 :: b) 0 = b0 := rfl
  have g1 : gt (b0 :: b1 :: b2 :: b3 :: b4 :: b5 :: b6 :: b7 :: b) 1 = b1 := rfl
  have g2 : gt (b0 :: b1 :: b2 :: b3 :: b4 :: b5 :: b6 :: b7 :: b) 2 = b2 := rfl
  have g3 : gt (b0 :: b1 :: b2 :: b3 :: b4 :: b5 :: b6 :: b7 :: b) 3 = b3 := rfl
  have g4 : gt (b0 :: b1 :: b2 :: b3 :: b4 :: b5 :: b6 :: b7 :: b) 4 = b4 := rfl
  have g5 : gt (b0 :: b1 :: b2 :: b3 :: b4 :: b5 :: b6 :: b7 :: b) 5 = b5 := rfl
  have g6 : gt (b0 :: b1 :: b2 :: b3 :: b4 :: b5 :: b6 :: b7 :: b) 6 = b6 := rfl
  have g7 : gt (b0 :: b1 :: b2 :: b3 :: b4 :: b5 :: b6 :: b7 :: b) 7 = b7 := rfl
  have g8 : ∀ i, i < 24 → gt (b0 :: b1 :: b2 :: b3 :: b4 :: b5 :: b6 :: b7 :: b) (8 + (i : Nat)) = gt b (i : Int) := by
    intro i _
    have : (8 + (i : Int)).toNat = i + 8 := by omega
    simp only [gt, this, Int.toNat_natCast]
    rfl
  have hz : (∀ i, i < 24 → gt (b0 :: b1 :: b2 :: b3 :: b4 :: b5 :: b6 :: b7 :: b) (8 + (i : Nat)) = 0) ↔ b = List.replicate 24 0 := by
    rw [List.eq_replicate_iff]
    constructor
    · refine fun h => ⟨hr, fun x hx => ?_⟩
      obtain ⟨i, hi, rfl⟩ := List.getElem_of_mem hx
      have := h i (by omega)
      rw [g8 i (by omega), gt_nat hi] at this; exact this
    · rintro ⟨_, h⟩ i hi
      rw [g8 i hi, gt_nat (by omega)]; exact h _ (List.getElem_mem _)
  rw [hz, g0, g1, g2, g7]
  have e1 : put2 [2] e = [2, e / 256, e % 256] := by rw [put2, if_pos he]; rfl
  have e2 : put2 [2, e / 256, e % 256] (256 * b3 + b4) = [2, e / 256, e % 256, b3, b4] := by
    rw [put2, if_pos (by omega)]
    have q1 : (256 * b3 + b4) / 256 = b3 := by omega
    have q2 : (256 * b3 + b4) % 256 = b4 := by omega
    rw [q1, q2]; rfl
  have e3 : endCell e (endTx (b0 :: b1 :: b2 :: b3 :: b4 :: b5 :: b6 :: b7 :: b)) b7 = [2, e / 256, e % 256, b3, b4, b5, b6, b7] := by
    simp only [endCell, endTx, g3, g4, g5, g6, e1, e2]
    have q5 : b5 % 256 = b5 := by omega
    have q6 : b6 % 256 = b6 := by omega
    have q7 : b7 % 256 = b7 := by omega
    rw [q5, q6, q7]; rfl
  rw [e3, pad, if_pos (by omega)]
  have e4 : (32 : Int).toNat - ([2, e / 256, e % 256, b3, b4, b5, b6, b7] : List Int).length = 24 := rfl
  rw [e4]
  simp only [List.cons_append, List.nil_append, List.cons.injEq, true_and]
  constructor
  · rintro ⟨h0, h1, h2, h3⟩
    exact ⟨h0.symm, by omega, h3.symm⟩
  · rintro ⟨h0, h1, h3⟩
    exact ⟨h0.symm, by omega, by omega, h3.symm⟩
theorem byte_gt {b : List Int} (hw : ∀ x ∈ b, wfU8 x) {i : Int} (h0 : 0 ≤ i) (h : i < (b.length : Int)) : 0 ≤ gt b i ∧ gt b i ≤ 255 := hw _ (gt_mem h0 h)
theorem impl_getEnd_eq {k : Nat} (hk : Big k) {e : Int} {b : List Int} (hw : ∀ x ∈ b, wfU8 x) (hl : b.length ≤ 2097152) [Decidable (endOk e b)] :
    impl_GetEnd k e b = some (if endOk e b then (endTx b, gt b 7, true) else (⟨0, 0, 0, []⟩, 0, false)) := by
  rw [impl_GetEnd]
  by_cases h : b.length = 32
  · rw [if_neg (by simp; omega), impl_in_eq, some_bind, some_bind]
    have w1 := byte_gt hw (i := 1) (by omega) (by omega)
    have w2 := byte_gt hw (i := 2) (by omega) (by omega)
    by_cases he : 0 ≤ e ∧ e ≤ 65535
    · have b5 := byte_gt hw (i := 5) (by omega) (by omega)
      have b6 := byte_gt hw (i := 6) (by omega) (by omega)
      have b7 := byte_gt hw (i := 7) (by omega) (by omega)
      have hg3 : get2 b 3 = (256 * gt b 3 + gt b 4, true) := by rw [get2, if_neg (by omega)]; rfl
      rw [if_neg (by simp [he]), impl_get2_eq hw hl, some_bind, if_pos (by omega), if_pos (by omega), if_pos (by omega), hg3]
      have et : (⟨256 * gt b 3 + gt b 4, gt b 5, gt b 6, []⟩ : TTx) = endTx b := rfl
      have e5 : IntKind.i64.wrap (gt b 5) = gt b 5 := by rw [i64w, w64 (by omega) (by omega)]
      have e7 : IntKind.i64.wrap (gt b 7) = gt b 7 := by rw [i64w, w64 (by omega) (by omega)]
      have e6 : IntKind.i64.wrap (gt b 6) = gt b 6 := by rw [i64w, w64 (by omega) (by omega)]
      have hlen := endCell_len8 e (endTx b) (gt b 7)
      have hwe : ∀ x ∈ pad (endCell e (endTx b) (gt b 7)) 32, wfU8 x := by
        intro x hx
        have hp : ∀ (l : List Int) (y : Int), (∀ x ∈ l, wfU8 x) → ∀ x ∈ put2 l y, wfU8 x := by
          intro l y hl x hx
          unfold put2 at hx
          split at hx
          · simp only [List.mem_append, List.mem_cons, List.not_mem_nil, or_false] at hx
            rcases hx with h | h | h
            · exact hl x h
            · subst h; constructor <;> omega
            · subst h; constructor <;> omega
          · exact hl x hx
        unfold pad at hx
        rw [if_pos (by omega)] at hx
        rcases List.mem_append.1 hx with h1 | h1
        · unfold endCell at h1
          simp only [List.mem_append, List.mem_cons, List.not_mem_nil, or_false] at h1
          rcases h1 with h | h | h | h
          · refine hp _ _ (hp _ _ ?_) x h
            intro z hz; simp at hz; subst hz; constructor <;> omega
          · subst h; constructor <;> omega
          · subst h; constructor <;> omega
          · subst h; constructor <;> omega
        · rw [List.eq_of_mem_replicate h1]; constructor <;> omega
      simp only [e5, e6, e7, et, impl_numsOk_eq, some_bind, impl_endCell_eq, impl_pad_eq hk (l := endCell e (endTx b) (gt b 7)) (n := 32) (by omega), bytes_Equal, str_eq hwe hw]
      have hc := endCell_eq hw h he
      have eq6 : decide (gt b 7 > gt b 6) = !decide (gt b 7 ≤ gt b 6) := by rw [not_dec]; exact decide_eq_decide.2 (by omega)
      rw [eq6]
      by_cases h8 : pad (endCell e (endTx b) (gt b 7)) 32 = b
      · obtain ⟨q1, q2, q3⟩ := hc.1 h8
        cases h5 : numsOk (endTx b) <;> by_cases h7 : gt b 7 ≤ gt b 6 <;> simp [h5, h7, endOk, h, q1, q2, h8]
        all_goals exact q3
      · have h9 : ¬ endOk e b := fun hh => h8 (hc.2 ⟨hh.2.1, hh.2.2.1, hh.2.2.2.1⟩)
        rw [if_neg h9]
        cases h5 : numsOk (endTx b) <;> by_cases h7 : gt b 7 ≤ gt b 6 <;> simp [h7, h8]
    · rw [if_pos (by simp [he]), if_neg]
      rintro ⟨_, _, h3, _⟩; exact he (by omega)
  · rw [if_pos (by simp; omega), some_bind, if_pos rfl, if_neg]
    rintro ⟨h3, _⟩; exact h h3

def mp (t : TTx) : Nat → List (Int × Int)
  | 0 => []
  | i + 1 => mput (mp t i) (pg t i) 1
theorem mp_get (t : TTx) (x : Int) : ∀ i, mget (mp t i) x = if (List.range i).any (fun j => decide (pg t j = x)) = true then 1 else 0
  | 0 => rfl
  | i + 1 => by
    rw [mp, mget_mput, mp_get t x i, List.range_succ, List.any_append]
    by_cases h : x = pg t i
    · subst h; simp
    · have : ¬ pg t i = x := fun e => h e.symm
      simp [h, this]
theorem dec_if (b : Bool) : decide ((if b = true then (1 : Int) else 0) = 1) = b := by cases b <;> rfl
theorem impl_txOk_eq {k : Nat} (hk : Big k) {t : TTx} (h : smTx t) : impl_TxOk k t = some (txOk t) := by
  have hl := h.1
  have h2 := loop_first (b := impl_TxOk_b0 k t) (k := k) (n := t.Puts.length) (fun i => (mp t i, (i : Int))) (badTx t) (fun i => .ret false) (by omega) hk (fun i t h => by cases h)
    (fun i hi => by
      have c1 : decide ((i : Int) < ((List.length t.Puts : Nat) : Int)) = true := by simp; omega
      have c2 : (0 : Int) ≤ (i : Int) ∧ (i : Int) < ((List.length t.Puts : Nat) : Int) := by omega
      have hn : (gt t.Puts (i : Int)).N.L.length ≤ 2097152 := by rw [gt_nat hi]; exact h.2 _ (List.getElem_mem hi)
      have ep : (gt t.Puts (i : Int)).Page = pg t i := rfl
      have eN := impl_nodeOk_eq hk hn
      have eM := mp_get t (pg t i) i
      obtain ⟨nb, hnb⟩ : ∃ nb, nodeOk (gt t.Puts (i : Int)).N = nb := ⟨_, rfl⟩
      obtain ⟨ab, hab⟩ : ∃ ab, (List.range i).any (fun j => decide (pg t j = pg t i)) = ab := ⟨_, rfl⟩
      have eB : badTx t i = (!decide (0 ≤ pg t i ∧ pg t i ≤ wrap64 (t.Size - 1)) || ab || !nb) := by rw [badTx, hab, hnb]
      rw [hnb] at eN
      rw [hab] at eM
      simp only [impl_TxOk_b0, if_pos c1, if_pos c2, w64s (n := i) (by omega), eN, impl_in_eq, some_bind, ep, eM, eB, mp]
      by_cases hA : 0 ≤ pg t i ∧ pg t i ≤ wrap64 (t.Size - 1) <;> cases nb <;> cases ab <;> simp [hA])
    (by simp only [impl_TxOk_b0]; rw [if_neg (by simp)])
  have h2' : loopM (impl_TxOk_b0 k t) k (([] : List (Int × Int)), 0) = _ := h2
  rw [impl_TxOk, h2', txOk, impl_numsOk_eq]
  cases firstN (badTx t) t.Puts.length <;> rfl

theorem endCell_len (e : Int) (t : TTx) (n : Int) : (endCell e t n).length ≤ 8 ∧ 3 ≤ (endCell e t n).length := by
  have h2 := put2_len [2] e
  have h1 := put2_len (put2 [2] e) t.Seq
  simp only [endCell, List.length_append, List.length_cons, List.length_nil] at *; omega
def endOf (e : Int) (t : TTx) : List Int := if (0 ≤ e ∧ e ≤ 65535) ∧ txOk t = true then endCell e t (t.Puts.length : Int) else []
theorem endOf_len (e : Int) (t : TTx) : (endOf e t).length ≤ 8 := by
  unfold endOf; split
  · exact (endCell_len _ _ _).1
  · simp
theorem spec_endOf_eq {k : Nat} (hk : Big k) {e : Int} {t : TTx} (h : smTx t) : spec_EndCell k e t = some (endOf e t) := by
  have h2 := put2_len [2] e
  have h1 := put2_len (put2 [2] e) t.Seq
  simp only [List.length_cons, List.length_nil] at h1 h2
  rw [spec_EndCell, spec_in_eq, some_bind, spec_txOk_eq hk h, spec_put2_eq (x := e) (l := [2]) rfl]
  simp only [some_bind]
  rw [spec_put2_eq (x := t.Seq) (l := put2 [2] e) (okLen_iff.2 (by omega)), some_bind, if_pos (c := okLen _ = true) (okLen_iff.2 (by simp; omega)), endOf]
  by_cases he : 0 ≤ e ∧ e ≤ 65535 <;> cases txOk t <;> simp [he, u8w, endCell]
theorem impl_endOf_eq {k : Nat} (hk : Big k) {e : Int} {t : TTx} (h : smTx t) : impl_EndCell k e t = some (endOf e t) := by
  rw [impl_EndCell, impl_in_eq, some_bind, impl_txOk_eq hk h, impl_endCell_eq]
  simp only [some_bind, endOf]
  by_cases he : 0 ≤ e ∧ e ≤ 65535 <;> cases txOk t <;> simp [he]
def txCells (e : Int) (t : TTx) : List (List Int) := if (0 ≤ e ∧ e ≤ 65535) ∧ txOk t = true then t.Puts.map (putCell e) ++ [endOf e t] else []
theorem txCells_mem {e : Int} {t : TTx} : ∀ c ∈ txCells e t, c.length ≤ 29 := by
  intro c hc
  unfold txCells at hc
  split at hc
  · simp only [List.mem_append, List.mem_map, List.mem_cons, List.not_mem_nil, or_false] at hc
    rcases hc with ⟨x, _, rfl⟩ | rfl
    · exact putCell_len e x
    · have := endOf_len e t; omega
  · simp at hc
theorem txCells_len (e : Int) (t : TTx) : (txCells e t).length ≤ t.Puts.length + 1 := by
  unfold txCells; split <;> simp
theorem filter_len {l : List Int} {a : Int} (h : l.Pairwise (· ≠ ·)) : l.length ≤ (l.filter fun x => decide (x ≠ a)).length + 1 := by
  induction l with
  | nil => simp
  | cons x l ih =>
    obtain ⟨h1, h2⟩ := List.pairwise_cons.1 h
    by_cases hx : x = a
    · subst hx
      have e : l.filter (fun y => decide (y ≠ x)) = l := List.filter_eq_self.2 fun y hy => by simpa using fun he => h1 y hy he.symm
      rw [List.filter_cons_of_neg (by simp), e]; simp
    · rw [List.filter_cons_of_pos (by simpa using hx)]
      have := ih h2
      simp only [List.length_cons]; omega
theorem pigeon : ∀ (m : Nat) {l : List Int}, (∀ x ∈ l, 0 ≤ x ∧ x < (m : Int)) → l.Pairwise (· ≠ ·) → l.length ≤ m
  | 0, l, h, _ => by
    cases l with
    | nil => simp
    | cons x l => have := h x (by simp); omega
  | m + 1, l, h, hp => by
    have h1 := filter_len (a := (m : Int)) hp
    have h2 := pigeon m (l := l.filter fun x => decide (x ≠ (m : Int))) (fun x hx => by
      have hx' := List.mem_filter.1 hx
      have h3 := h x hx'.1
      have h4 : x ≠ (m : Int) := by simpa using hx'.2
      omega) (hp.sublist List.filter_sublist)
    omega

theorem txOk_puts {t : TTx} (h : txOk t = true) : numsOk t = true ∧ (t.Puts.length : Int) ≤ t.Size ∧ t.Puts.length ≤ 48 ∧ (∀ i, i < t.Puts.length → badTx t i = false) := by
  unfold txOk at h
  rw [Bool.and_eq_true, Option.isNone_iff_eq_none] at h
  obtain ⟨h1, h2⟩ := h
  have hb := firstN_none h1
  have hn := h2
  unfold numsOk at hn
  simp only [Bool.and_eq_true, decide_eq_true_eq] at hn
  have hs := hn.1.2
  have ew : wrap64 (t.Size - 1) = t.Size - 1 := w64 (by omega) (by omega)
  have key : ∀ i, i < t.Puts.length → (0 ≤ pg t i ∧ pg t i ≤ t.Size - 1) ∧ ∀ j, j < i → pg t j ≠ pg t i := by
    intro i hi
    have := hb i hi
    unfold badTx at this
    rw [Bool.or_eq_false_iff, Bool.or_eq_false_iff] at this
    obtain ⟨⟨b1, b2⟩, _⟩ := this
    rw [ew] at b1
    refine ⟨by simpa using b1, fun j hj he => ?_⟩
    have := List.any_eq_false.1 b2 j (List.mem_range.2 hj)
    exact this (by simpa using he)
  have hp := pigeon t.Size.toNat (l := t.Puts.map (·.Page)) (fun x hx => by
    obtain ⟨c, hc, rfl⟩ := List.mem_map.1 hx
    obtain ⟨i, hi, rfl⟩ := List.getElem_of_mem hc
    have := (key i hi).1
    rw [pg, gt_nat hi] at this
    omega) (by
    rw [List.pairwise_iff_getElem]
    intro i j hi hj hij
    simp only [List.length_map] at hi hj
    have := (key j hj).2 i hij
    rw [pg, pg, gt_nat hi, gt_nat hj] at this
    simpa using this)
  rw [List.length_map] at hp
  exact ⟨h2, by omega, by omega, fun i hi => hb i hi⟩
theorem endOf_ne {e : Int} {t : TTx} (h : endOf e t ≠ []) : (0 ≤ e ∧ e ≤ 65535) ∧ txOk t = true := by
  unfold endOf at h
  split at h
  · assumption
  · exact absurd rfl h
theorem endOf_form {e : Int} {t : TTx} (h : endOf e t ≠ []) : pad (endOf e t) 32 = [2, e / 256, e % 256, t.Seq / 256, t.Seq % 256, t.Root, t.Size, (t.Puts.length : Int)] ++ List.replicate 24 0 := by
  obtain ⟨h1, h2⟩ := endOf_ne h
  obtain ⟨n1, n2, n3, _⟩ := txOk_puts h2
  have hn := n1
  unfold numsOk at hn
  simp only [Bool.and_eq_true, decide_eq_true_eq] at hn
  have ew : wrap64 (t.Size - 1) = t.Size - 1 := w64 (by omega) (by omega)
  rw [ew] at hn
  have a : t.Root % 256 = t.Root := by omega
  have b : t.Size % 256 = t.Size := by omega
  have c : (t.Puts.length : Int) % 256 = (t.Puts.length : Int) := by omega
  rw [endOf, if_pos ⟨h1, h2⟩, endCell, put2, if_pos (by omega), put2, if_pos h1, a, b, c, pad, if_pos (by decide)]
  rfl
theorem endOk_round {e : Int} {t : TTx} (h : endOf e t ≠ []) : endOk e (pad (endOf e t) 32) ∧ endTx (pad (endOf e t) 32) = ⟨t.Seq, t.Root, t.Size, []⟩ ∧ gt (pad (endOf e t) 32) 7 = (t.Puts.length : Int) := by
  obtain ⟨h1, h2⟩ := endOf_ne h
  obtain ⟨n1, n2, n3, _⟩ := txOk_puts h2
  rw [endOf_form h]
  have hT : endTx ([2, e / 256, e % 256, t.Seq / 256, t.Seq % 256, t.Root, t.Size, (t.Puts.length : Int)] ++ List.replicate 24 0) = ⟨t.Seq, t.Root, t.Size, []⟩ := by
    show (⟨256 * (t.Seq / 256) + t.Seq % 256, t.Root, t.Size, []⟩ : TTx) = _
    have : 256 * (t.Seq / 256) + t.Seq % 256 = t.Seq := by omega
    rw [this]
  refine ⟨⟨rfl, rfl, ?_, ?_, ?_, n2⟩, hT, rfl⟩
  · show 256 * (e / 256) + e % 256 = e
    omega
  · intro i hi
    have e1 : (8 + (i : Int)) = ((8 + i : Nat) : Int) := by omega
    rw [e1, gt_nat (by simp; omega)]
    rw [List.getElem_append_right (by simp)]
    exact List.getElem_replicate _
  · rw [hT]; exact n1

theorem lsame_eq {k : Nat} (hk : Big k) {p q : List Int} (hl : p.length ≤ 2097152) : laws_same k p q = some (decide (p = q)) := by
  rw [laws_same]
  by_cases he : p.length = q.length
  · rw [if_neg (by simp [he])]
    rw [loop_all (c := fun i => decide (p[i]? = q[i]?)) (n := p.length) (r := false) (by omega) hk]
    · by_cases hpq : p = q
      · subst hpq; simp
      · rw [if_neg, decide_eq_false hpq]
        · rfl
        · intro hh
          exact hpq (List.ext_getElem? fun i => by
            by_cases hi : i < p.length
            · simpa using hh i hi
            · rw [List.getElem?_eq_none (by omega), List.getElem?_eq_none (by omega)])
    · intro i hi
      have c1 : decide ((i : Int) < ((List.length p : Nat) : Int)) = true := by simp; omega
      have c2 : (0 : Int) ≤ (i : Int) ∧ (i : Int) < ((List.length p : Nat) : Int) := by omega
      have c3 : (0 : Int) ≤ (i : Int) ∧ (i : Int) < ((List.length q : Nat) : Int) := by omega
      have hq : i < q.length := by omega
      simp only [laws_same_b0, if_pos c1, if_pos c2, if_pos c3, gt_nat hi, gt_nat hq, w64s (n := i) (by omega), List.getElem?_eq_getElem hi, List.getElem?_eq_getElem hq, Option.some.injEq]
      by_cases hv : p[i] = q[i] <;> simp [hv]
    · have c1 : ¬ decide (((List.length p : Nat) : Int) < ((List.length p : Nat) : Int)) = true := by simp
      simp only [laws_same_b0, if_neg c1]
  · rw [if_pos (by simp; omega), decide_eq_false]
    rintro rfl; exact he rfl
theorem eEqual_eq {k : Nat} (hk : Big k) {p q : List TEntry} (hl : p.length ≤ 2097152) : slices_Equal_impl_Entry_impl_Entry k p q = some (decide (p = q)) := by
  rw [slices_Equal_impl_Entry_impl_Entry]
  by_cases he : p.length = q.length
  · rw [if_neg (by simp [he])]
    rw [loop_all (c := fun i => decide (p[i]? = q[i]?)) (n := p.length) (r := false) (by omega) hk]
    · by_cases hpq : p = q
      · subst hpq; simp
      · rw [if_neg, decide_eq_false hpq]
        · rfl
        · intro hh
          exact hpq (List.ext_getElem? fun i => by
            by_cases hi : i < p.length
            · simpa using hh i hi
            · rw [List.getElem?_eq_none (by omega), List.getElem?_eq_none (by omega)])
    · intro i hi
      have c1 : decide ((i : Int) < ((List.length p : Nat) : Int)) = true := by simp; omega
      have c2 : (0 : Int) ≤ (i : Int) ∧ (i : Int) < ((List.length p : Nat) : Int) := by omega
      have c3 : (0 : Int) ≤ (i : Int) ∧ (i : Int) < ((List.length q : Nat) : Int) := by omega
      have hq : i < q.length := by omega
      simp only [slices_Equal_impl_Entry_impl_Entry_b0, if_pos c1, if_pos c2, if_pos c3, gt_nat hi, gt_nat hq, w64s (n := i) (by omega), List.getElem?_eq_getElem hi, List.getElem?_eq_getElem hq, Option.some.injEq]
      by_cases hv : p[i] = q[i] <;> simp [hv]
    · have c1 : ¬ decide (((List.length p : Nat) : Int) < ((List.length p : Nat) : Int)) = true := by simp
      simp only [slices_Equal_impl_Entry_impl_Entry_b0, if_neg c1]
  · rw [if_pos (by simp; omega), decide_eq_false]
    rintro rfl; exact he rfl
theorem sameNode_eq {k : Nat} (hk : Big k) {p q : TNode} (hl : p.L.length ≤ 2097152) : impl_SameNode k p q = some (decide (p = q)) := by
  rw [impl_SameNode]
  obtain ⟨a, l⟩ := p
  obtain ⟨c, m⟩ := q
  simp only at hl ⊢
  by_cases h : a = c
  · subst h
    rw [if_pos (by simp), eEqual_eq hk hl]
    simp
  · rw [if_neg (by simpa using h)]
    simp [h]
theorem sameNode_refl {k : Nat} (hk : Big k) {p : TNode} (hl : p.L.length ≤ 2097152) : impl_SameNode k p p = some true := by
  rw [sameNode_eq hk hl]; simp

theorem endOf_wf (e : Int) (t : TTx) : ∀ x ∈ endOf e t, wfU8 x := by
  intro x hx
  unfold endOf endCell at hx
  split at hx
  · rcases List.mem_append.1 hx with h | h
    · exact put2_wf (put2_wf (fun z hz => by simp at hz; subst hz; constructor <;> omega)) x h
    · simp only [List.mem_cons, List.not_mem_nil, or_false] at h
      rcases h with rfl | rfl | rfl <;> exact m256_wf _
  · simp at hx
theorem epoch_ok {b : List Int} {i h : Int} (hi : okI b i) (hl : b.length ≤ 1048576) : Dr b (spec_l19Epoch ⟨b, i, h⟩) (fun e => -1 ≤ e ∧ e ≤ 65536) := by
  rw [spec_l19Epoch]
  refine Dr.bind (int_dr hi hl (by simp)) fun x i1 h1 o1 hx => Dr.ret o1 ?_
  simp only [List.mem_cons, List.not_mem_nil, or_false] at hx
  show -1 ≤ x ∧ x ≤ 65536
  omega
theorem laws_FnFrames_true {p0 : List Int} (h0 : wfL wfU8 p0) : ∃ k, laws_FnFrames k p0 = some true := by
  refine ⟨9223372036854775808, ?_⟩
  generalize hK : 9223372036854775808 = k
  have hk : Big k := by rw [Big, hK]; exact Nat.le_refl _
  clear hK
  rw [laws_FnFrames, laws_big, some_bind]
  by_cases hl : ((List.length p0 : Nat) : Int) > 1048576
  · rw [if_pos (by simpa using hl)]
  rw [if_neg (by simpa using hl)]
  have hl' : p0.length ≤ 1048576 := by omega
  obtain ⟨hh, en⟩ := new_ok hk hl'
  have o0 : okI p0 0 := ⟨Int.le_refl _, by omega⟩
  obtain ⟨⟨e, x⟩, eP, he, hx⟩ : ∃ r, spec_DrawPutCell k p0 = some r ∧ (-1 ≤ r.1 ∧ r.1 ≤ 65536) ∧ r.2.N.L.length ≤ 8 := by
    rw [spec_DrawPutCell]
    refine Ne.pbind en ?_
    refine Dr.bindN (epoch_ok o0 hl') fun e i1 h1 o1 he => ?_
    exact Dr.bindN (l19change_dr hk o1 hl') fun x i2 h2 o2 hx => ⟨_, rfl, he, hx⟩
  obtain ⟨⟨f, t⟩, eE, ht⟩ : ∃ r, spec_DrawEndCell k p0 = some r ∧ (r.2.Puts.length ≤ 10 ∧ ∀ c ∈ r.2.Puts, c.N.L.length ≤ 8) := by
    rw [spec_DrawEndCell]
    refine Ne.pbind en ?_
    refine Dr.bindN (l19epoch_dr o0 hl') fun e i1 h1 o1 he => ?_
    exact Dr.bindN (l19any_dr hk o1 hl') fun t i2 h2 o2 ht => ⟨_, rfl, ht⟩
  obtain ⟨o, eT, hoo⟩ : ∃ r, spec_DrawTxOk k p0 = some r ∧ (r.Puts.length ≤ 10 ∧ ∀ c ∈ r.Puts, c.N.L.length ≤ 8) := by
    rw [spec_DrawTxOk]
    refine Ne.pbind en ?_
    exact Dr.bindN (l19any_dr hk o0 hl') fun t i2 h2 o2 ht => ⟨_, rfl, ht⟩
  simp only at he hx ht
  have sT : smTx t := ⟨by have := ht.1; omega, fun y hy => by have := ht.2 y hy; omega⟩
  have sO : smTx o := ⟨by have := hoo.1; omega, fun y hy => by have := hoo.2 y hy; omega⟩
  have hbl := putCell_len e x
  have hcl := endOf_len f t
  have hpw := pad_wf (n := 32) (putCell_wf e x)
  have hpl : (pad (putCell e x) 32).length = 32 := pad_len (by omega) (by omega)
  have hql : (pad (endOf f t) 32).length = 32 := pad_len (by omega) (by omega)
  have hgp : ∀ e', ∃ y, impl_GetPut k e' (pad (putCell e x) 32) = some y ∧ y.1.N.L.length ≤ 8 ∧ (y.2 = true → e' = e) := fun e' => by
    by_cases hn : putCell e x = []
    · rw [hn]
      exact ⟨_, impl_getPut_zero hk e', by simp, fun h => by cases h⟩
    · refine ⟨_, impl_getPut_cell hk hn e', ?_, ?_⟩
      · split
        · exact hx
        · simp
      · split
        · rename_i hc
          exact fun _ => putCell_epoch hc.1 hn hc.2
        · intro h; cases h
  obtain ⟨y, y2, y3, _⟩ := hgp e
  obtain ⟨z, z2, _, z4⟩ := hgp (wrap64 (e + 1))
  have := Classical.propDecidable (endOk f (pad (endOf f t) 32))
  have u1 := impl_getEnd_eq hk (e := f) (pad_wf (n := 32) (endOf_wf f t)) (by omega)
  -- what the cells give back
  have hy : putCell e x ≠ [] → y = (x, true) := fun h => Option.some.inj (y2.symm.trans (impl_getPut_round hk h))
  have hz : putCell e x ≠ [] → z.2 = false := fun h => by
    cases hz : z.2
    · rfl
    · exfalso
      have := z4 hz
      rw [w64 (by omega) (by omega)] at this
      omega
  have hpos : decide (((List.length (putCell e x) : Nat) : Int) > 0) = decide (putCell e x ≠ []) := decide_eq_decide.2 (by
    rw [← List.length_pos_iff]; omega)
  have hcond : decide (putCell e x ≠ []) = ((((decide (e ≥ 0) && decide (e ≤ 65535)) && decide (x.Page ≥ 0)) && decide (x.Page < 48)) && nodeOk x.N) := by
    rw [Bool.eq_iff_iff]
    simp only [decide_eq_true_eq, Bool.and_eq_true]
    constructor
    · intro h
      obtain ⟨h1, h2, h3⟩ := putCell_ne h
      exact ⟨⟨⟨⟨by omega, by omega⟩, by omega⟩, by omega⟩, h3⟩
    · rintro ⟨⟨⟨⟨h1, h2⟩, h3⟩, h4⟩, h5⟩ h6
      rw [putCell, if_pos ⟨⟨by omega, by omega⟩, ⟨by omega, by omega⟩, h5⟩] at h6
      simp at h6
  have hend : (decide (((List.length (endOf f t) : Nat) : Int) = 0) || (((((if endOk f (pad (endOf f t) 32) then (endTx (pad (endOf f t) 32), gt (pad (endOf f t) 32) 7, true) else ((⟨0, 0, 0, []⟩ : TTx), (0 : Int), false)).2.2 && (decide ((if endOk f (pad (endOf f t) 32) then (endTx (pad (endOf f t) 32), gt (pad (endOf f t) 32) 7, true) else ((⟨0, 0, 0, []⟩ : TTx), (0 : Int), false)).2.1 = ((List.length t.Puts : Nat) : Int)))) && (decide ((if endOk f (pad (endOf f t) 32) then (endTx (pad (endOf f t) 32), gt (pad (endOf f t) 32) 7, true) else ((⟨0, 0, 0, []⟩ : TTx), (0 : Int), false)).1.Seq = t.Seq))) && (decide ((if endOk f (pad (endOf f t) 32) then (endTx (pad (endOf f t) 32), gt (pad (endOf f t) 32) 7, true) else ((⟨0, 0, 0, []⟩ : TTx), (0 : Int), false)).1.Root = t.Root))) && (decide ((if endOk f (pad (endOf f t) 32) then (endTx (pad (endOf f t) 32), gt (pad (endOf f t) 32) 7, true) else ((⟨0, 0, 0, []⟩ : TTx), (0 : Int), false)).1.Size = t.Size)))) = true := by
    by_cases hn : endOf f t = []
    · have hz0 : decide (((List.length (endOf f t) : Nat) : Int) = 0) = true := by rw [hn]; rfl
      rw [hz0]; rfl
    · obtain ⟨r1, r2, r3⟩ := endOk_round hn
      rw [if_pos r1, r2, r3]
      simp
  generalize hU : (if endOk f (pad (endOf f t) 32) then (endTx (pad (endOf f t) 32), gt (pad (endOf f t) 32) 7, true) else ((⟨0, 0, 0, []⟩ : TTx), (0 : Int), false)) = u at u1 hend
  simp only [eP, impl_putCell_eq hk (e := e) (x := x) (by omega), impl_pad_eq hk (l := putCell e x) (n := 32) (by omega), y2, z2, eE, impl_endOf_eq hk sT, impl_pad_eq hk (l := endOf f t) (n := 32) (by omega), u1, eT, some_bind,
    spec_putCell_eq hk (e := e) (x := x) (by omega), lsame_eq hk (p := putCell e x) (q := putCell e x) (by omega), spec_endOf_eq hk sT, lsame_eq hk (p := endOf f t) (q := endOf f t) (by omega), impl_txOk_eq hk sO, spec_txOk_eq hk sO,
    decide_true, beq_self_eq_true, Bool.not_true, Bool.false_eq_true, if_false, Bool.false_or, hpos, hend, Bool.and_true, impl_nodeOk_eq hk (p := x.N) (by omega), sameNode_refl hk (p := x.N) (by omega)]
  by_cases hn : putCell e x = []
  · have hc2 : (if (((decide (e ≥ 0) && decide (e ≤ 65535)) && decide (x.Page ≥ 0)) && decide (x.Page < 48)) = true then some (nodeOk x.N) else some false) = some false := by
      have : ((((decide (e ≥ 0) && decide (e ≤ 65535)) && decide (x.Page ≥ 0)) && decide (x.Page < 48)) && nodeOk x.N) = false := by rw [← hcond]; simp [hn]
      generalize (((decide (e ≥ 0) && decide (e ≤ 65535)) && decide (x.Page ≥ 0)) && decide (x.Page < 48)) = a at this ⊢
      cases a
      · rfl
      · simpa using this
    rw [hc2]
    simp [hn]
  · have hc2 : (if (((decide (e ≥ 0) && decide (e ≤ 65535)) && decide (x.Page ≥ 0)) && decide (x.Page < 48)) = true then some (nodeOk x.N) else some false) = some true := by
      have : ((((decide (e ≥ 0) && decide (e ≤ 65535)) && decide (x.Page ≥ 0)) && decide (x.Page < 48)) && nodeOk x.N) = true := by rw [← hcond]; simp [hn]
      generalize (((decide (e ≥ 0) && decide (e ≤ 65535)) && decide (x.Page ≥ 0)) && decide (x.Page < 48)) = a at this ⊢
      cases a
      · simp at this
      · simpa using this
    rw [hc2]
    have hy' := hy hn
    subst hy'
    simp [hn, hz hn, sameNode_refl hk (p := x.N) (by omega)]

end Go.Proofs.Sx
