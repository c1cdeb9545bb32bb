/- FnLogsBent: the plain law. -/
import Derived.Test.YtkhommmhkeohbaaQfX
import Derived.Test.YtkhommmhkeohbaaLP
namespace Go.Proofs.Sx
open Go.RowKit
set_option maxRecDepth 20000
set_option linter.unusedVariables false
set_option linter.unusedSimpArgs false
def okI (b : List Int) (i : Int) : Prop := 0 ≤ i ∧ i ≤ (b.length : Int)
theorem and255 (x : Int) : 0 ≤ bits2 (· &&& ·) x 255 ∧ bits2 (· &&& ·) x 255 ≤ 255 := by
  show 0 ≤ wrap64 ((BitVec.ofInt 64 x &&& BitVec.ofInt 64 255).toNat : Int) ∧ wrap64 ((BitVec.ofInt 64 x &&& BitVec.ofInt 64 255).toNat : Int) ≤ 255
  have h : (BitVec.ofInt 64 x &&& BitVec.ofInt 64 255).toNat ≤ 255 := by
    rw [BitVec.toNat_and]
    exact Nat.and_le_right
  rw [w64 (by omega) (by omega)]; omega
theorem byte_ok {b : List Int} {i h : Int} (hi : okI b i) (hl : b.length ≤ 1048576) : ∃ v i' h', spec_l1Byte ⟨b, i, h⟩ = some (v, ⟨b, i', h'⟩) ∧ okI b i' ∧ 0 ≤ v ∧ v ≤ 255 := by
  obtain ⟨h0, h1⟩ := hi
  rw [spec_l1Byte]
  by_cases hc : i < ((List.length b : Nat) : Int)
  · rw [if_pos (by simpa using hc), if_pos ⟨h0, hc⟩]
    exact ⟨_, _, _, rfl, by simp only [okI]; rw [w64 (by omega) (by omega)]; omega, and255 _⟩
  · rw [if_neg (by simpa using hc)]
    exact ⟨_, _, _, rfl, ⟨h0, h1⟩, and255 _⟩
theorem below_ok {b : List Int} {i h : Int} (hi : okI b i) (hl : b.length ≤ 1048576) (n : Int) : ∃ v i' h', spec_l1Below ⟨b, i, h⟩ n = some (v, ⟨b, i', h'⟩) ∧ okI b i' ∧ 0 ≤ v ∧ (0 < n → v < n) ∧ (n ≤ 0 → v = 0) := by
  rw [spec_l1Below]
  by_cases h0 : n ≤ 0
  · rw [if_pos (by simpa using h0)]
    exact ⟨_, _, _, rfl, hi, Int.le_refl _, fun h => by omega, fun _ => rfl⟩
  · rw [if_neg (by simpa using h0)]
    by_cases h256 : n ≤ 256
    · obtain ⟨v, i1, h1, e1, o1, v0, v1⟩ := byte_ok (h := h) hi hl
      rw [if_pos (by simpa using h256), e1, some_bind, if_pos (by omega)]
      refine ⟨_, _, _, rfl, o1, ?_, fun _ => ?_, fun h => by omega⟩
      · simp only; rw [tmod_pos v0]; exact Int.emod_nonneg _ (by omega)
      · simp only; rw [tmod_pos v0]; exact Int.emod_lt_of_pos _ (by omega)
    · obtain ⟨v, i1, h1, e1, o1, v0, v1⟩ := byte_ok (h := h) hi hl
      rw [if_neg (by simpa using h256), e1, some_bind]
      obtain ⟨u, i2, h2, e2, o2, u0, u1⟩ := byte_ok (h := h1) o1 hl
      simp only [e2, some_bind]
      obtain ⟨t, i3, h3, e3, o3, t0, t1⟩ := byte_ok (h := h2) o2 hl
      simp only [e3, some_bind]
      rw [if_pos (by omega), w64 (n := v * 65536) (by omega) (by omega), w64 (n := u * 256) (by omega) (by omega), w64 (n := v * 65536 + u * 256) (by omega) (by omega), w64 (by omega) (by omega)]
      refine ⟨_, _, _, rfl, o3, ?_, fun _ => ?_, fun h => by omega⟩
      · rw [tmod_pos (by omega)]; exact Int.emod_nonneg _ (by omega)
      · rw [tmod_pos (by omega)]; exact Int.emod_lt_of_pos _ (by omega)
theorem once_ok {b : List Int} {i h : Int} (hi : okI b i) (hl : b.length ≤ 1048576) (n : Int) : ∃ v i' h', spec_l1Once ⟨b, i, h⟩ n = some (v, ⟨b, i', h'⟩) ∧ okI b i' := by
  obtain ⟨v, i1, h1, e1, o1, _⟩ := below_ok (h := h) hi hl n
  exact ⟨_, _, _, by rw [spec_l1Once, e1, some_bind], o1⟩
theorem int_ok {b : List Int} {i h : Int} (hi : okI b i) (hl : b.length ≤ 1048576) {l : List Int} (hn : 0 < l.length) : ∃ v i' h', spec_l1Int ⟨b, i, h⟩ l = some (v, ⟨b, i', h'⟩) ∧ okI b i' ∧ v ∈ l := by
  obtain ⟨v, i1, h1, e1, o1, v0, v1, _⟩ := below_ok (h := h) hi hl ((List.length l : Nat) : Int)
  have hv := v1 (by omega)
  refine ⟨_, _, _, by rw [spec_l1Int, e1, some_bind, if_pos ⟨v0, hv⟩], o1, ?_⟩
  obtain ⟨q, e⟩ := gt_eq v0 hv
  rw [e]; exact List.getElem_mem q
theorem new_ok {k : Nat} (hk : Big k) {b : List Int} (hl : b.length ≤ 1048576) : ∃ h, spec_l1New k b = some ⟨b, 0, h⟩ := by
  obtain ⟨o, e, hQ⟩ := loopM_ends (b := spec_l1New_b0 b) (fun s => 0 ≤ s.2 ∧ s.2 ≤ (b.length : Int)) (fun s => ((b.length : Int) - s.2).toNat) (fun o => ∃ s, o = .out s) (fun s hs => by
      obtain ⟨h, i⟩ := s
      simp only at hs
      simp only [spec_l1New_b0]
      by_cases hc : i < ((List.length b : Nat) : Int) ∧ i < 4000
      · rw [if_pos (by simpa using hc), if_pos (by omega)]
        exact ⟨_, rfl, ⟨by simp only; rw [w64 (by omega) (by omega)]; omega, by simp only; rw [w64 (by omega) (by omega)]; omega⟩, by simp only; rw [w64 (by omega) (by omega)]; omega⟩
      · rw [if_neg (by simpa using hc)]
        exact ⟨_, rfl, _, rfl⟩) k ((wrap64 (141373 + ((List.length b : Nat) : Int))), 0) ⟨Int.le_refl _, by omega⟩ (by have : 9223372036854775808 ≤ k := hk; simp; omega)
  obtain ⟨s, rfl⟩ := hQ
  exact ⟨s.1, by rw [spec_l1New, e, some_bind]⟩

/-- A draw: it answers, its cursor stays good, and what it draws is as P says. -/
def Dr {α : Type} (b : List Int) (o : Option (α × TCur)) (P : α → Prop) : Prop := ∃ v i h, o = some (v, ⟨b, i, h⟩) ∧ okI b i ∧ P v
theorem Dr.bind {α β : Type} {b : List Int} {o : Option (α × TCur)} {P : α → Prop} {f : α × TCur → Option (β × TCur)} {Q : β → Prop} (h : Dr b o P) (hf : ∀ v i h, okI b i → P v → Dr b (f (v, ⟨b, i, h⟩)) Q) : Dr b (o.bind f) Q := by
  obtain ⟨v, i, h, rfl, h1, h2⟩ := h
  exact hf v i h h1 h2
theorem Dr.bindN {α β : Type} {b : List Int} {o : Option (α × TCur)} {P : α → Prop} {f : α × TCur → Option β} {Q : β → Prop} (h : Dr b o P) (hf : ∀ v i h, okI b i → P v → ∃ r, f (v, ⟨b, i, h⟩) = some r ∧ Q r) : ∃ r, o.bind f = some r ∧ Q r := by
  obtain ⟨v, i, h, rfl, h1, h2⟩ := h
  exact hf v i h h1 h2
theorem Dr.pbind {α β : Type} {b : List Int} {o : Option α} {a : α} {f : α → Option (β × TCur)} {Q : β → Prop} (h : o = some a) (hf : Dr b (f a) Q) : Dr b (o.bind f) Q := by
  subst h; exact hf
theorem Dr.ebind {α β : Type} {b : List Int} {o : Option α} {P : α → Prop} {f : α → Option (β × TCur)} {Q : β → Prop} (h : ∃ a, o = some a ∧ P a) (hf : ∀ a, P a → Dr b (f a) Q) : Dr b (o.bind f) Q := by
  obtain ⟨a, rfl, hp⟩ := h; exact hf a hp
theorem Dr.ret {α : Type} {b : List Int} {v : α} {i h : Int} {P : α → Prop} (hi : okI b i) (hp : P v) : Dr b (some (v, ⟨b, i, h⟩)) P := ⟨v, i, h, rfl, hi, hp⟩
theorem Dr.ite {α : Type} {b : List Int} {c : Prop} [Decidable c] {x y : Option (α × TCur)} {P : α → Prop} (h1 : c → Dr b x P) (h2 : ¬ c → Dr b y P) : Dr b (if c then x else y) P := by
  by_cases h : c
  · rw [if_pos h]; exact h1 h
  · rw [if_neg h]; exact h2 h
theorem Dr.mono {α : Type} {b : List Int} {o : Option (α × TCur)} {P Q : α → Prop} (h : Dr b o P) (hpq : ∀ v, P v → Q v) : Dr b o Q := by
  obtain ⟨v, i, h, h0, h1, h2⟩ := h
  exact ⟨v, i, h, h0, h1, hpq v h2⟩
theorem below_dr {b : List Int} {i h : Int} (hi : okI b i) (hl : b.length ≤ 1048576) (n : Int) : Dr b (spec_l1Below ⟨b, i, h⟩ n) (fun v => 0 ≤ v ∧ (0 < n → v < n)) := by
  obtain ⟨v, i', h', e, o, h0, h1, _⟩ := below_ok (h := h) hi hl n
  exact ⟨v, i', h', e, o, h0, h1⟩
theorem once_dr {b : List Int} {i h : Int} (hi : okI b i) (hl : b.length ≤ 1048576) (n : Int) : Dr b (spec_l1Once ⟨b, i, h⟩ n) (fun _ => True) := by
  obtain ⟨v, i', h', e, o⟩ := once_ok (h := h) hi hl n
  exact ⟨v, i', h', e, o, trivial⟩
theorem int_dr {b : List Int} {i h : Int} (hi : okI b i) (hl : b.length ≤ 1048576) {l : List Int} (hn : 0 < l.length) : Dr b (spec_l1Int ⟨b, i, h⟩ l) (· ∈ l) := by
  obtain ⟨v, i', h', e, o, h1⟩ := int_ok (h := h) hi hl hn
  exact ⟨v, i', h', e, o, h1⟩
theorem Ne.ite {β : Type} {c : Prop} [Decidable c] {x y : Option β} {Q : β → Prop} (h1 : c → ∃ r, x = some r ∧ Q r) (h2 : ¬ c → ∃ r, y = some r ∧ Q r) : ∃ r, (if c then x else y) = some r ∧ Q r := by
  by_cases h : c
  · rw [if_pos h]; exact h1 h
  · rw [if_neg h]; exact h2 h
theorem Ne.pbind {α β : Type} {o : Option α} {a : α} {f : α → Option β} {Q : β → Prop} (h : o = some a) (hf : ∃ r, f a = some r ∧ Q r) : ∃ r, o.bind f = some r ∧ Q r := by
  subst h; exact hf
theorem Ne.ebind {α β : Type} {o : Option α} {P : α → Prop} {f : α → Option β} {Q : β → Prop} (h : ∃ a, o = some a ∧ P a) (hf : ∀ a, P a → ∃ r, f a = some r ∧ Q r) : ∃ r, o.bind f = some r ∧ Q r := by
  obtain ⟨a, rfl, hp⟩ := h; exact hf a hp

theorem impl_in_eq (x a b : Int) : impl_in x a b = some (decide (a ≤ x ∧ x ≤ b)) := by simp [impl_in, Bool.decide_and]

theorem spec_in_eq (x a b : Int) : spec_l1In x a b = some (decide (a ≤ x ∧ x ≤ b)) := by simp [spec_l1In, Bool.decide_and, ge_iff_le]


def boxOkP (b : TBox) : Prop := 0 ≤ b.X0 ∧ b.X0 ≤ b.X1 ∧ b.X1 ≤ 255 ∧ 0 ≤ b.Y0 ∧ b.Y0 ≤ b.Y1 ∧ b.Y1 ≤ 255
instance (b : TBox) : Decidable (boxOkP b) := by unfold boxOkP; infer_instance
theorem spec_boxOk_eq (b : TBox) : spec_BoxOk b = some (decide (boxOkP b)) := by
  simp only [spec_BoxOk, spec_in_eq, some_bind, and_if]
  exact some_dec (by unfold boxOkP; omega)
theorem impl_boxOk_eq (b : TBox) : impl_BoxOk b = some (decide (boxOkP b)) := by
  simp only [impl_BoxOk, impl_in_eq, some_bind, and_if]
  exact some_dec (by unfold boxOkP; omega)

def entryAt (l : List TEntry) (n : Int) : Int := match firstN (fun i => decide ((gt l (i : Int)).N = n)) l.length with
  | some i => (i : Int)
  | none => -1
theorem spec_entryAt_eq {k : Nat} (hk : Big k) {l : List TEntry} (hl : l.length ≤ 2097152) (n : Int) : spec_EntryAt k l n = some (entryAt l n) := by
  have h := loop_first (b := spec_EntryAt_b0 l n) (k := k) (n := l.length) (fun i => (i : Int)) (fun i => decide ((gt l (i : Int)).N = n)) (fun i => .ret (i : Int)) (by omega) hk (fun i t h => by cases h)
    (fun i hi => by
      have c1 : decide ((i : Int) < ((List.length l : Nat) : Int)) = true := by simp; omega
      have c2 : (0 : Int) ≤ (i : Int) ∧ (i : Int) < ((List.length l : Nat) : Int) := by omega
      simp only [spec_EntryAt_b0, if_pos c1, if_pos c2, w64s (n := i) (by omega)]
      split <;> rfl)
    (by simp only [spec_EntryAt_b0]; rw [if_neg (by simp)])
  have h' : loopM (spec_EntryAt_b0 l n) k 0 = _ := h
  rw [spec_EntryAt, h', entryAt]
  cases firstN (fun i => decide ((gt l (i : Int)).N = n)) l.length <;> rfl
theorem impl_entryAt_eq {k : Nat} (hk : Big k) {l : List TEntry} (hl : l.length ≤ 2097152) (n : Int) : impl_EntryAt k l n = some (entryAt l n) := by
  have h := loop_first (b := slices_IndexFunc_impl_Entry_impl_Entry_impl_EntryAt_1_b0 l) (k := k) (n := l.length) (fun i => ((i : Int), n)) (fun i => decide ((gt l (i : Int)).N = n)) (fun i => .ret ((i : Int), n)) (by omega) hk (fun i t h => by cases h)
    (fun i hi => by
      have c1 : decide ((i : Int) < ((List.length l : Nat) : Int)) = true := by simp; omega
      have c2 : (0 : Int) ≤ (i : Int) ∧ (i : Int) < ((List.length l : Nat) : Int) := by omega
      simp only [slices_IndexFunc_impl_Entry_impl_Entry_impl_EntryAt_1_b0, impl_EntryAt_1, some_bind, if_pos c1, if_pos c2, w64s (n := i) (by omega)]
      split <;> rfl)
    (by simp only [slices_IndexFunc_impl_Entry_impl_Entry_impl_EntryAt_1_b0]; rw [if_neg (by simp)])
  have h' : loopM (slices_IndexFunc_impl_Entry_impl_Entry_impl_EntryAt_1_b0 l) k (0, n) = _ := h
  rw [impl_EntryAt, slices_IndexFunc_impl_Entry_impl_Entry_impl_EntryAt_1, h', entryAt]
  cases firstN (fun i => decide ((gt l (i : Int)).N = n)) l.length <;> rfl

def badEntry (p : TNode) (i : Nat) : Prop := ¬ boxOkP (gt p.L (i : Int)).R ∨ entryAt p.L (gt p.L (i : Int)).N ≠ (i : Int) ∨ (p.Leaf = true ∧ ¬ (1 ≤ (gt p.L (i : Int)).N ∧ (gt p.L (i : Int)).N ≤ 999)) ∨ (p.Leaf = false ∧ ¬ (0 ≤ (gt p.L (i : Int)).N ∧ (gt p.L (i : Int)).N ≤ 47))
instance (p : TNode) (i : Nat) : Decidable (badEntry p i) := by unfold badEntry; infer_instance
def nodeOk (p : TNode) : Bool := (firstN (fun i => decide (badEntry p i)) p.L.length).isNone && decide (p.L.length ≤ 4) && (p.Leaf || decide (p.L.length > 0))
theorem spec_nodeOk_eq {k : Nat} (hk : Big k) {p : TNode} (hl : p.L.length ≤ 2097152) : spec_NodeOk k p = some (nodeOk p) := by
  have h := loop_first (b := spec_NodeOk_b0 k p) (k := k) (n := p.L.length) (fun i => (i : Int)) (fun i => decide (badEntry p i)) (fun i => .ret false) (by omega) hk (fun i t h => by cases h)
    (fun i hi => by
      have c1 : decide ((i : Int) < ((List.length p.L : Nat) : Int)) = true := by simp; omega
      have c2 : (0 : Int) ≤ (i : Int) ∧ (i : Int) < ((List.length p.L : Nat) : Int) := by omega
      simp only [spec_NodeOk_b0, if_pos c1, if_pos c2, w64s (n := i) (by omega), spec_boxOk_eq, spec_entryAt_eq hk hl, spec_in_eq, some_bind]
      by_cases hA : boxOkP (gt p.L (i : Int)).R <;> by_cases hB : entryAt p.L (gt p.L (i : Int)).N = (i : Int) <;> cases hL : p.Leaf <;>
        by_cases hC : 1 ≤ (gt p.L (i : Int)).N ∧ (gt p.L (i : Int)).N ≤ 999 <;> by_cases hD : 0 ≤ (gt p.L (i : Int)).N ∧ (gt p.L (i : Int)).N ≤ 47 <;> simp [badEntry, hA, hB, hC, hD, hL])
    (by simp only [spec_NodeOk_b0]; rw [if_neg (by simp)])
  have h' : loopM (spec_NodeOk_b0 k p) k 0 = _ := h
  rw [spec_NodeOk, h', nodeOk]
  cases firstN (fun i => decide (badEntry p i)) p.L.length
  · have e1 : decide (((List.length p.L : Nat) : Int) ≤ 4) = decide (p.L.length ≤ 4) := decide_eq_decide.2 (by omega)
    have e2 : decide (((List.length p.L : Nat) : Int) > 0) = decide (p.L.length > 0) := decide_eq_decide.2 (by omega)
    simp only [some_bind, e1, e2, Option.isNone_none, Bool.true_and]
  · rfl
theorem impl_nodeOk_eq {k : Nat} (hk : Big k) {p : TNode} (hl : p.L.length ≤ 2097152) : impl_NodeOk k p = some (nodeOk p) := by
  have h := loop_first (b := impl_NodeOk_b0 k p) (k := k) (n := p.L.length) (fun i => (i : Int)) (fun i => decide (badEntry p i)) (fun i => .ret false) (by omega) hk (fun i t h => by cases h)
    (fun i hi => by
      have c1 : decide ((i : Int) < ((List.length p.L : Nat) : Int)) = true := by simp; omega
      have c2 : (0 : Int) ≤ (i : Int) ∧ (i : Int) < ((List.length p.L : Nat) : Int) := by omega
      simp only [impl_NodeOk_b0, if_pos c1, if_pos c2, w64s (n := i) (by omega), impl_boxOk_eq, impl_entryAt_eq hk hl, impl_in_eq, some_bind]
      by_cases hA : boxOkP (gt p.L (i : Int)).R <;> by_cases hB : entryAt p.L (gt p.L (i : Int)).N = (i : Int) <;> cases hL : p.Leaf <;>
        by_cases hC : 1 ≤ (gt p.L (i : Int)).N ∧ (gt p.L (i : Int)).N ≤ 999 <;> by_cases hD : 0 ≤ (gt p.L (i : Int)).N ∧ (gt p.L (i : Int)).N ≤ 47 <;> simp [badEntry, hA, hB, hC, hD, hL])
    (by simp only [impl_NodeOk_b0]; rw [if_neg (by simp)])
  have h' : loopM (impl_NodeOk_b0 k p) k 0 = _ := h
  rw [impl_NodeOk, h', nodeOk]
  by_cases h4 : p.L.length ≤ 4
  · have e4 : decide (((List.length p.L : Nat) : Int) > 4) = false := decide_eq_false (by omega)
    by_cases h0 : p.L.length > 0
    · have e0 : decide (((List.length p.L : Nat) : Int) = 0) = false := decide_eq_false (by omega)
      rw [e4, e0, Bool.and_false, if_neg (by decide)]
      cases firstN (fun i => decide (badEntry p i)) p.L.length <;> simp [h4, h0]
    · have e0 : decide (((List.length p.L : Nat) : Int) = 0) = true := decide_eq_true (by omega)
      cases hL : p.Leaf
      · rw [e4, e0, if_pos (by decide)]; simp [h0]
      · rw [e4, e0, if_neg (by decide)]
        cases firstN (fun i => decide (badEntry p i)) p.L.length <;> simp [h4]
  · have e4 : decide (((List.length p.L : Nat) : Int) > 4) = true := decide_eq_true (by omega)
    rw [e4, Bool.true_or, if_pos (by decide)]
    simp [h4]
theorem nodeOk_facts {p : TNode} (h : nodeOk p = true) : p.L.length ≤ 4 ∧ (∀ i, i < p.L.length → ¬ badEntry p i) ∧ (p.Leaf = false → 0 < p.L.length) := by
  unfold nodeOk at h
  simp only [Bool.and_eq_true, decide_eq_true_eq, Bool.or_eq_true, Option.isNone_iff_eq_none] at h
  obtain ⟨⟨h1, h2⟩, h3⟩ := h
  exact ⟨h2, fun i hi => by simpa using firstN_none h1 i hi, fun hL => by rcases h3 with h | h; rw [hL] at h; cases h; exact h⟩

theorem least_eq (a c : Int) : spec_Least a c = some (if c < a then c else a) := by
  rw [spec_Least]
  by_cases h : c < a
  · rw [if_pos (by simpa using h), if_pos h]
  · rw [if_neg (by simpa using h), if_neg h]
theorem box_of {x y d e : Int} (hx : 0 ≤ x ∧ x < 250) (hy : 0 ≤ y ∧ y < 250) (hd : 0 ≤ d ∧ d ≤ 40) (he : 0 ≤ e ∧ e ≤ 40) :
    boxOkP ⟨x, y, if wrap64 (x + d) < 255 then wrap64 (x + d) else 255, if wrap64 (y + e) < 255 then wrap64 (y + e) else 255⟩ := by
  rw [w64 (n := x + d) (by omega) (by omega), w64 (n := y + e) (by omega) (by omega)]
  unfold boxOkP
  simp only
  split <;> split <;> omega
theorem l2draw_dr {b : List Int} {i h : Int} (hi : okI b i) (hl : b.length ≤ 1048576) : Dr b (spec_l2Draw ⟨b, i, h⟩) boxOkP := by
  have h5 : ∀ d : Int, d ∈ ([0, 1, 5, 9, 40] : List Int) → 0 ≤ d ∧ d ≤ 40 := fun d hd => by
    simp only [List.mem_cons, List.not_mem_nil, or_false] at hd
    omega
  have h4 : ∀ d : Int, d ∈ ([0, 1, 3, 12] : List Int) → 0 ≤ d ∧ d ≤ 40 := fun d hd => by
    simp only [List.mem_cons, List.not_mem_nil, or_false] at hd
    omega
  rw [spec_l2Draw]
  refine Dr.bind (below_dr hi hl 250) fun x i1 h1 o1 hx => ?_
  refine Dr.bind (below_dr o1 hl 250) fun y i2 h2 o2 hy => ?_
  refine Dr.bind (once_dr o2 hl 2) fun c i3 h3 o3 _ => ?_
  refine Dr.ite (fun _ => ?_) fun _ => ?_
  · refine Dr.bind (below_dr o3 hl 20) fun u i4 h4' o4 hu => ?_
    refine Dr.bind (below_dr o4 hl 20) fun v i5 h5' o5 hv => ?_
    refine Dr.bind (int_dr o5 hl (by simp)) fun d i6 h6 o6 hd => ?_
    refine Dr.pbind (least_eq _ _) ?_
    refine Dr.bind (int_dr o6 hl (by simp)) fun e i7 h7 o7 he => ?_
    refine Dr.pbind (least_eq _ _) ?_
    have hu' := hu.2 (by decide)
    have hv' := hv.2 (by decide)
    exact Dr.ret o7 (box_of ⟨hu.1, by omega⟩ ⟨hv.1, by omega⟩ (h5 d hd) (h4 e he))
  · refine Dr.bind (int_dr o3 hl (by simp)) fun d i6 h6 o6 hd => ?_
    refine Dr.pbind (least_eq _ _) ?_
    refine Dr.bind (int_dr o6 hl (by simp)) fun e i7 h7 o7 he => ?_
    refine Dr.pbind (least_eq _ _) ?_
    exact Dr.ret o7 (box_of ⟨hx.1, hx.2 (by decide)⟩ ⟨hy.1, hy.2 (by decide)⟩ (h5 d hd) (h4 e he))
def goodI (x : TItem) : Prop := boxOkP x.R ∧ 1 ≤ x.Id ∧ x.Id ≤ 30
theorem l4draw_dr {b : List Int} {i h : Int} (hi : okI b i) (hl : b.length ≤ 1048576) : Dr b (spec_l4Draw ⟨b, i, h⟩) goodI := by
  rw [spec_l4Draw]
  refine Dr.bind (below_dr hi hl 30) fun x i1 h1 o1 hx => ?_
  refine Dr.bind (l2draw_dr o1 hl) fun y i2 h2 o2 hy => ?_
  have hx' := hx.2 (by decide)
  have hx0 := hx.1
  refine Dr.ret o2 ⟨hy, ?_, ?_⟩
  · show 1 ≤ wrap64 (1 + x); rw [w64 (by omega) (by omega)]; omega
  · show wrap64 (1 + x) ≤ 30; rw [w64 (by omega) (by omega)]; omega
theorem spec_itemAt_ex {k : Nat} (hk : Big k) {l : List TItem} (hl : l.length ≤ 2097152) (n : Int) : ∃ v, spec_ItemAt k l n = some v ∧ (v < 0 → ∀ x ∈ l, x.Id ≠ n) := by
  have h := loop_first (b := spec_ItemAt_b0 l n) (k := k) (n := l.length) (fun i => (i : Int)) (fun i => decide ((gt l (i : Int)).Id = n)) (fun i => .ret (i : Int)) (by omega) hk (fun i t h => by cases h)
    (fun i hi => by
      have c1 : decide ((i : Int) < ((List.length l : Nat) : Int)) = true := by simp; omega
      have c2 : (0 : Int) ≤ (i : Int) ∧ (i : Int) < ((List.length l : Nat) : Int) := by omega
      simp only [spec_ItemAt_b0, if_pos c1, if_pos c2, w64s (n := i) (by omega)]
      split <;> rfl)
    (by simp only [spec_ItemAt_b0]; rw [if_neg (by simp)])
  have h' : loopM (spec_ItemAt_b0 l n) k 0 = _ := h
  rw [spec_ItemAt, h']
  cases hf : firstN (fun i => decide ((gt l (i : Int)).Id = n)) l.length with
  | none =>
    refine ⟨-1, rfl, fun _ x hx => ?_⟩
    obtain ⟨j, hj, rfl⟩ := List.getElem_of_mem hx
    have := firstN_none hf j hj
    rw [gt_nat hj] at this
    simpa using this
  | some j => exact ⟨(j : Int), rfl, fun h => by omega⟩
def goodIs (l : List TItem) : Prop := (∀ x ∈ l, goodI x) ∧ l.Pairwise (fun x y => x.Id ≠ y.Id)
theorem l4list_dr {k : Nat} (hk : Big k) {b : List Int} {i h : Int} (hi : okI b i) (hl : b.length ≤ 1048576) {n : Int} (hn0 : 0 ≤ n) (hn : n ≤ 4096) : Dr b (spec_l4List k ⟨b, i, h⟩ n) (fun l => (l.length : Int) ≤ n ∧ goodIs l) := by
  rw [spec_l4List]
  refine Dr.bind (below_dr hi hl _) fun m i1 h1 o1 hm => ?_
  rw [w64 (n := n + 1) (by omega) (by omega)] at hm
  have hm0 := hm.1
  have hm1 := hm.2 (by omega)
  obtain ⟨o, e, hQ⟩ := loopM_ends (b := spec_l4List_b0 k ⟨b, i, h⟩) (fun s => 0 ≤ s.2.1 ∧ (s.1.length : Int) + s.2.1 ≤ n ∧ okI b s.2.2.1 ∧ goodIs s.1) (fun s => s.2.1.toNat) (fun o => ∃ l r i' h', o = .out (l, r, i', h') ∧ okI b i' ∧ (l.length : Int) ≤ n ∧ goodIs l) (fun s hs => by
      obtain ⟨l, r, i', h'⟩ := s
      obtain ⟨q0, q1, q2, q3⟩ := hs
      simp only at q0 q1 q2 q3
      simp only [spec_l4List_b0]
      by_cases hr : r > 0
      · obtain ⟨x, i2, h2, ex, o2, hx⟩ := l4draw_dr (h := h') q2 hl
        obtain ⟨v, ev, hv⟩ := spec_itemAt_ex hk (l := l) (by omega) x.Id
        rw [if_pos (by simpa using hr), ex, some_bind]
        simp only [ev, some_bind]
        rw [w64 (n := r - 1) (by omega) (by omega)]
        by_cases hneg : v < 0
        · rw [if_pos (by simpa using hneg), if_pos (okLen_iff.2 (by simp; omega))]
          refine ⟨_, rfl, ⟨by simp only; omega, by simp; omega, o2, fun y hy => ?_, ?_⟩, by simp only; omega⟩
          · simp only [List.mem_append, List.mem_cons, List.not_mem_nil, or_false] at hy
            rcases hy with hy | rfl
            · exact q3.1 y hy
            · exact hx
          · rw [List.pairwise_append]
            refine ⟨q3.2, by simp, fun y hy z hz => ?_⟩
            simp only [List.mem_cons, List.not_mem_nil, or_false] at hz
            subst hz
            exact hv hneg y hy
        · rw [if_neg (by simpa using hneg)]
          exact ⟨_, rfl, ⟨by simp only; omega, by simp only; omega, o2, q3⟩, by simp only; omega⟩
      · rw [if_neg (by simpa using hr)]
        exact ⟨_, rfl, _, _, _, _, rfl, q2, by omega, q3⟩) k (([] : List TItem), m, i1, h1) ⟨hm0, by simp; omega, o1, by simp, by simp⟩ (by have : 9223372036854775808 ≤ k := hk; simp only; omega)
  obtain ⟨l, r, i', h', rfl, p1, p2, p3⟩ := hQ
  refine Dr.pbind e ?_
  exact Dr.ret p1 ⟨p2, p3⟩
def leafL (l : List TItem) : List TEntry := l.map fun x => ⟨x.Id, x.R⟩
theorem spec_leafOf_eq {k : Nat} (hk : Big k) {l : List TItem} (hl : l.length ≤ 2097152) : spec_LeafOf k l = some ⟨true, leafL l⟩ := by
  obtain ⟨o, e, hQ⟩ := loopM_ends (b := spec_LeafOf_b0 l) (fun s => ∃ j : Nat, j ≤ l.length ∧ s = ((j : Int), leafL (l.take j))) (fun s => l.length - s.1.toNat) (fun o => ∃ j, o = .out (j, leafL l)) (fun s hs => by
      obtain ⟨j, hj, rfl⟩ := hs
      simp only [spec_LeafOf_b0]
      rcases Nat.lt_or_ge j l.length with hlt | hge
      · have c2 : (0 : Int) ≤ (j : Int) ∧ (j : Int) < ((List.length l : Nat) : Int) := by omega
        rw [if_pos (by simp; omega), if_pos c2, if_pos c2, if_pos (okLen_iff.2 (by simp [leafL]; omega)), w64s (by omega), gt_nat hlt]
        refine ⟨_, rfl, ⟨j + 1, hlt, ?_⟩, by simp only; omega⟩
        rw [List.take_succ_eq_append_getElem hlt, leafL, leafL, List.map_append]
        rfl
      · have : j = l.length := by omega
        subst this
        rw [if_neg (by simp), List.take_length]
        exact ⟨_, rfl, _, rfl⟩) k (0, ([] : List TEntry)) ⟨0, Nat.zero_le _, rfl⟩ (by have : 9223372036854775808 ≤ k := hk; simp only; omega)
  obtain ⟨j, rfl⟩ := hQ
  rw [spec_LeafOf, e, some_bind]
def goodE (x : TEntry) : Prop := boxOkP x.R ∧ 1 ≤ x.N ∧ x.N ≤ 30
def goodN (p : TNode) : Prop := p.L.length ≤ 4 ∧ ((∀ x ∈ p.L, goodE x) ∧ p.L.Pairwise (fun x y => x.N ≠ y.N)) ∧ (p.Leaf = false → 0 < p.L.length)
theorem leafL_good {l : List TItem} (h : goodIs l) : (∀ x ∈ leafL l, goodE x) ∧ (leafL l).Pairwise (fun x y => x.N ≠ y.N) := by
  refine ⟨fun x hx => ?_, ?_⟩
  · obtain ⟨y, hy, rfl⟩ := List.mem_map.1 hx
    exact h.1 y hy
  · exact List.pairwise_map.2 h.2
theorem l5draw_dr {k : Nat} (hk : Big k) {b : List Int} {i h : Int} (hi : okI b i) (hl : b.length ≤ 1048576) : Dr b (spec_l5Draw k ⟨b, i, h⟩) goodN := by
  rw [spec_l5Draw]
  refine Dr.bind (l4list_dr hk hi hl (n := 4) (by omega) (by omega)) fun l i1 h1 o1 hq => ?_
  have hll : l.length ≤ 4 := by have := hq.1; omega
  refine Dr.pbind (spec_leafOf_eq hk (l := l) (by omega)) ?_
  have hg := leafL_good hq.2
  have hlen : (leafL l).length = l.length := by simp [leafL]
  refine Dr.ebind (P := fun c => (c.1 = true → 0 < l.length) ∧ okI b c.2.1) ?_ fun c hc => ?_
  · by_cases h0 : ((List.length l : Nat) : Int) > 0
    · obtain ⟨c, i2, h2, e2, o2⟩ := once_ok (h := h1) o1 hl 3
      refine ⟨(c, i2, h2), ?_, ⟨fun _ => by omega, o2⟩⟩
      rw [if_pos (by simpa using h0)]
      simp only [e2, some_bind]
    · exact ⟨(false, i1, h1), by rw [if_neg (by simpa using h0)], ⟨(fun h => by cases h), o1⟩⟩
  · refine Dr.ite (fun h' => Dr.ret hc.2 ⟨by simp only [hlen]; exact hll, hg, fun _ => by simp only [hlen]; exact hc.1 h'⟩) fun _ => Dr.ret hc.2 ⟨by simp only [hlen]; exact hll, hg, fun h => by cases h⟩
def pg (t : TTx) (i : Nat) : Int := (gt t.Puts (i : Int)).Page
def badTx (t : TTx) (i : Nat) : Bool := !decide (0 ≤ pg t i ∧ pg t i ≤ wrap64 (t.Size - 1)) || (List.range i).any (fun j => decide (pg t j = pg t i)) || !nodeOk (gt t.Puts (i : Int)).N
def numsOk (t : TTx) : Bool := decide (1 ≤ t.Seq ∧ t.Seq ≤ 65535) && decide (1 ≤ t.Size ∧ t.Size ≤ 48) && decide (0 ≤ t.Root ∧ t.Root ≤ wrap64 (t.Size - 1))
def txOk (t : TTx) : Bool := (firstN (badTx t) t.Puts.length).isNone && numsOk t
def smTx (t : TTx) : Prop := t.Puts.length ≤ 2097152 ∧ ∀ y ∈ t.Puts, y.N.L.length ≤ 2097152
theorem spec_txOk_eq {k : Nat} (hk : Big k) {t : TTx} (h : smTx t) : spec_TxOk k t = some (txOk t) := by
  have hl := h.1
  have h2 := loop_first (b := spec_TxOk_b2 k t) (k := k) (n := t.Puts.length) (fun i => (i : Int)) (badTx t) (fun i => .ret false) (by omega) hk (fun i t h => by cases h)
    (fun i hi => by
      have c1 : decide ((i : Int) < ((List.length t.Puts : Nat) : Int)) = true := by simp; omega
      have c2 : (0 : Int) ≤ (i : Int) ∧ (i : Int) < ((List.length t.Puts : Nat) : Int) := by omega
      have hn : (gt t.Puts (i : Int)).N.L.length ≤ 2097152 := by rw [gt_nat hi]; exact h.2 _ (List.getElem_mem hi)
      have h3 := loop_first (b := spec_TxOk_b3 t (i : Int)) (k := k) (n := i) (fun j => (j : Int)) (fun j => decide (pg t j = pg t i)) (fun i => .ret false) (by omega) hk (fun i t h => by cases h)
        (fun j hj => by
          have d1 : decide ((j : Int) < (i : Int)) = true := by simp; omega
          have d2 : (0 : Int) ≤ (j : Int) ∧ (j : Int) < ((List.length t.Puts : Nat) : Int) := by omega
          simp only [spec_TxOk_b3, if_pos d1, if_pos d2, if_pos c2, w64s (n := j) (by omega), pg]
          exact some_ite _ _ _)
        (by simp only [spec_TxOk_b3]; rw [if_neg (by simp)])
      have h3' : loopM (spec_TxOk_b3 t (i : Int)) k 0 = _ := h3
      simp only [spec_TxOk_b2, if_pos c1, if_pos c2, w64s (n := i) (by omega), spec_nodeOk_eq hk hn, spec_in_eq, some_bind, h3', badTx, firstN_any]
      have ep : (gt t.Puts (i : Int)).Page = pg t i := rfl
      rw [ep]
      by_cases hA : 0 ≤ pg t i ∧ pg t i ≤ wrap64 (t.Size - 1) <;> cases hB : nodeOk (gt t.Puts (i : Int)).N <;> cases hC : firstN (fun j => decide (pg t j = pg t i)) i <;> simp [hA])
    (by simp only [spec_TxOk_b2]; rw [if_neg (by simp)])
  have h2' : loopM (spec_TxOk_b2 k t) k 0 = _ := h2
  rw [spec_TxOk, h2', txOk]
  cases firstN (badTx t) t.Puts.length
  · simp only [some_bind, spec_in_eq, Option.isNone_none, Bool.true_and, numsOk]
    generalize decide (1 ≤ t.Seq ∧ t.Seq ≤ 65535) = a
    generalize decide (1 ≤ t.Size ∧ t.Size ≤ 48) = b
    generalize decide (0 ≤ t.Root ∧ t.Root ≤ wrap64 (t.Size - 1)) = c
    cases a <;> cases b <;> cases c <;> rfl
  · rfl
theorem impl_numsOk_eq (t : TTx) : impl_Tx_numbersOk t = some (numsOk t) := by
  simp only [impl_Tx_numbersOk, impl_in_eq, some_bind, numsOk]
  generalize decide (1 ≤ t.Seq ∧ t.Seq ≤ 65535) = a
  generalize decide (1 ≤ t.Size ∧ t.Size ≤ 48) = b
  generalize decide (0 ≤ t.Root ∧ t.Root ≤ wrap64 (t.Size - 1)) = c
  cases a <;> cases b <;> cases c <;> rfl

def pad (l : List Int) (n : Int) : List Int := if n ≤ 64 then l ++ List.replicate (n.toNat - l.length) 0 else l
theorem pad_len {l : List Int} {n : Int} (h0 : (l.length : Int) ≤ n) (h : n ≤ 64) : (pad l n).length = n.toNat := by
  unfold pad; rw [if_pos h]; simp; omega
theorem pad_trace {ρ : Type} {b : List Int → Option (Nx (List Int) ρ)} {l : List Int} {n : Int} {k : Nat} (hk : Big k) (hn : n ≤ 64)
    (hb : ∀ m : List Int, (m.length : Int) < n → b m = some (.next (m ++ [0]))) (he : ∀ m : List Int, ¬ (m.length : Int) < n → b m = some (.out m)) :
    loopM b k l = some (.out (l ++ List.replicate (n.toNat - l.length) 0)) := by
  have key := loopM_run0 (b := b) (k := k) (fun j => l ++ List.replicate j (0 : Int)) (n.toNat - l.length) (r := .out (l ++ List.replicate (n.toNat - l.length) 0)) (fun t h => by cases h) ?_ ?_ (by have : 9223372036854775808 ≤ k := hk; omega)
  · simpa using key
  · intro j hj
    rw [hb _ (by simp; omega), List.replicate_succ', List.append_assoc]
  · exact he _ (by simp; omega)
theorem spec_pad_eq {k : Nat} (hk : Big k) {l : List Int} {n : Int} (hl : l.length ≤ 2097152) : spec_Pad k l n = some (pad l n) := by
  unfold spec_Pad pad
  rw [if_pos (okLen_iff.2 (by simp; omega)), List.nil_append]
  by_cases hn : n ≤ 64
  · rw [pad_trace hk hn]
    · simp [hn]
    · intro m hm
      simp only [spec_Pad_b0]
      rw [if_pos (by simp [hm, hn]), if_pos (okLen_iff.2 (by simp; omega))]
    · intro m hm
      simp only [spec_Pad_b0]
      rw [if_neg (by simp [hm])]
  · have : loopM (spec_Pad_b0 n) k l = some (.out l) :=
      loopM_run0 (b := spec_Pad_b0 n) (fun _ => l) 0 (fun t h => by cases h) (fun j hj => by omega) (by simp only [spec_Pad_b0]; rw [if_neg (by simp [hn])]) (by have : 9223372036854775808 ≤ k := hk; omega)
    rw [this]; simp [hn]
theorem impl_pad_eq {k : Nat} (hk : Big k) {l : List Int} {n : Int} (hl : l.length ≤ 2097152) : impl_Pad k l n = some (pad l n) := by
  unfold impl_Pad pad
  simp only [slices_Clone_byte_byte]
  rw [if_pos (okLen_iff.2 (by omega)), some_bind]
  by_cases hn : n ≤ 64
  · rw [if_neg (by simp; omega), pad_trace hk hn]
    · simp [hn]
    · intro m hm
      simp only [impl_Pad_b0]
      rw [if_pos (by simp [hm]), if_pos (okLen_iff.2 (by simp; omega))]
    · intro m hm
      simp only [impl_Pad_b0]
      rw [if_neg (by simp [hm])]
  · rw [if_pos (by simp; omega)]; simp [hn]

theorem l1odd_dr {b : List Int} {i h : Int} (hi : okI b i) (hl : b.length ≤ 1048576) : Dr b (spec_l1Odd ⟨b, i, h⟩) (fun _ => True) := by
  rw [spec_l1Odd]
  exact Dr.bind (int_dr hi hl (by simp)) fun x i1 h1 o1 hx => Dr.ret o1 trivial
theorem l1raw_dr {b : List Int} {i h : Int} (hi : okI b i) (hl : b.length ≤ 1048576) : Dr b (spec_l1Raw ⟨b, i, h⟩) (fun _ => True) := by
  rw [spec_l1Raw]
  refine Dr.bind (once_dr hi hl 2) fun x i1 h1 o1 hx => Dr.ite (fun _ => ?_) fun _ => ?_
  · exact Dr.bind (l1odd_dr o1 hl) fun x i1 h1 o1 hx => Dr.ret o1 trivial
  · exact Dr.bind (int_dr o1 hl (by simp)) fun x i1 h1 o1 hx => Dr.ret o1 trivial
theorem l2any_dr {b : List Int} {i h : Int} (hi : okI b i) (hl : b.length ≤ 1048576) : Dr b (spec_l2Any ⟨b, i, h⟩) (fun _ => True) := by
  rw [spec_l2Any]
  refine Dr.bind (l2draw_dr hi hl) fun x i1 h1 o1 hx => ?_
  refine Dr.bind (below_dr o1 hl 12) fun y i2 h2 o2 hy => ?_
  refine Dr.ite (fun _ => ?_) fun _ => Dr.ite (fun _ => ?_) fun _ => Dr.ite (fun _ => ?_) fun _ => Dr.ite (fun _ => ?_) fun _ => ?_
  · exact Dr.bind (l1raw_dr o2 hl) fun x i1 h1 o1 hx => Dr.ret o1 trivial
  · exact Dr.bind (l1raw_dr o2 hl) fun x i1 h1 o1 hx => Dr.ret o1 trivial
  · exact Dr.ret o2 trivial
  · exact Dr.ret o2 trivial
  · exact Dr.ret o2 trivial
theorem l5any_dr {k : Nat} (hk : Big k) {b : List Int} {i h : Int} (hi : okI b i) (hl : b.length ≤ 1048576) : Dr b (spec_l5Any k ⟨b, i, h⟩) (fun p => p.L.length ≤ 8) := by
  rw [spec_l5Any]
  refine Dr.bind (l5draw_dr hk hi hl) fun x i1 h1 o1 hx => ?_
  have hx4 := hx.1
  refine Dr.bind (below_dr o1 hl 12) fun y i2 h2 o2 hy => ?_
  refine Dr.ite (fun _ => ?_) fun _ => Dr.ite (fun _ => ?_) fun _ => Dr.ite (fun _ => ?_) fun _ => Dr.ite (fun _ => ?_) fun _ => Dr.ite (fun _ => ?_) fun _ => ?_
  · exact Dr.ret o2 (by simp only; omega)
  · refine Dr.bind (int_dr o2 hl (by simp)) fun z i3 h3 o3 hz => ?_
    refine Dr.bind (l2any_dr o3 hl) fun u i4 h4 o4 hu => ?_
    refine Dr.ite (fun _ => ?_) fun hn => absurd (okLen_iff.2 (by simp; omega)) hn
    exact Dr.ret o4 (by simp; omega)
  · obtain ⟨o, e, hQ⟩ := loopM_ends (b := spec_l5Any_b0 ⟨b, i, h⟩) (fun s => (s.1 ≤ 4 ∧ 0 ≤ s.1) ∧ okI b s.2.1 ∧ (s.2.2.2.length : Int) ≤ 4 + s.1) (fun s => (4 - s.1).toNat) (fun o => ∃ j i' h' l, o = .out (j, i', h', l) ∧ okI b i' ∧ l.length ≤ 8) (fun s hs => by
      obtain ⟨j, i', h', l⟩ := s
      obtain ⟨q0, q2, q3⟩ := hs
      simp only at q0 q2 q3
      simp only [spec_l5Any_b0]
      by_cases hj : j < 4
      · obtain ⟨x, i3, h3, ex, o3, _⟩ := l2draw_dr (h := h') q2 hl
        rw [if_pos (by simpa using hj), ex, some_bind, if_pos (okLen_iff.2 (by simp; omega)), w64 (n := j + 1) (by omega) (by omega)]
        exact ⟨_, rfl, ⟨by simp only; omega, o3, by simp; omega⟩, by simp only; omega⟩
      · rw [if_neg (by simpa using hj)]
        exact ⟨_, rfl, _, _, _, _, rfl, q2, by omega⟩) k (0, i2, h2, x.L) ⟨by simp, o2, by simp only; omega⟩ (by have : 9223372036854775808 ≤ k := hk; simp only; omega)
    obtain ⟨j, i', h', l, rfl, p1, p2⟩ := hQ
    refine Dr.pbind e ?_
    exact Dr.ret p1 p2
  · refine Dr.ite (fun _ => ?_) fun hn => absurd (okLen_iff.2 (by simp only; omega)) hn
    exact Dr.ret o2 (by simp; omega)
  · exact Dr.ret o2 (by simp)
  · exact Dr.ret o2 (by simp only; omega)
theorem l19change_dr {k : Nat} (hk : Big k) {b : List Int} {i h : Int} (hi : okI b i) (hl : b.length ≤ 1048576) : Dr b (spec_l19Change k ⟨b, i, h⟩) (fun c => c.N.L.length ≤ 8) := by
  rw [spec_l19Change]
  refine Dr.bind (below_dr hi hl 48) fun y i1 h1 o1 hy => ?_
  refine Dr.bind (l5draw_dr hk o1 hl) fun x i2 h2 o2 hx => ?_
  have hx4 := hx.1
  refine Dr.bind (below_dr o2 hl 8) fun z i3 h3 o3 hz => ?_
  refine Dr.ite (fun _ => ?_) fun _ => Dr.ite (fun _ => ?_) fun _ => ?_
  · exact Dr.bind (int_dr o3 hl (by simp)) fun u i4 h4 o4 hu => Dr.ret o4 (by simp only; omega)
  · exact Dr.bind (l5any_dr hk o3 hl) fun u i4 h4 o4 hu => Dr.ret o4 hu
  · exact Dr.ret o3 (by simp only; omega)
/-- A transaction as it is drawn: good. -/
def goodT (t : TTx) : Prop := (1 ≤ t.Seq ∧ t.Seq ≤ 99) ∧ (2 ≤ t.Size ∧ t.Size ≤ 9) ∧ (0 ≤ t.Root ∧ t.Root < t.Size) ∧ t.Puts.length ≤ 9 ∧ (∀ c ∈ t.Puts, goodN c.N ∧ 0 ≤ c.Page ∧ c.Page < t.Size) ∧ t.Puts.Pairwise (fun x y => x.Page < y.Page)
theorem l19draw_dr {k : Nat} (hk : Big k) {b : List Int} {i h : Int} (hi : okI b i) (hl : b.length ≤ 1048576) : Dr b (spec_l19Draw k ⟨b, i, h⟩) goodT := by
  rw [spec_l19Draw]
  refine Dr.bind (below_dr hi hl 9) fun s i1 h1 o1 hs => ?_
  refine Dr.bind (below_dr o1 hl 8) fun n i2 h2 o2 hn => ?_
  have hn0 := hn.1
  have hn1 := hn.2 (by decide)
  have hs0 := hs.1
  have hs1 := hs.2 (by decide)
  have ew : wrap64 (2 + n) = 2 + n := w64 (by omega) (by omega)
  refine Dr.bind (below_dr o2 hl _) fun r i3 h3 o3 hr => ?_
  have hr0 := hr.1
  have hr1 : r < wrap64 (2 + n) := hr.2 (by show 0 < wrap64 (2 + n); rw [ew]; omega)
  rw [ew] at hr1
  obtain ⟨o, e, hQ⟩ := loopM_ends (b := spec_l19Draw_b0 k ⟨b, i, h⟩ (n, ⟨b, i2, h2⟩)) (fun s => (0 ≤ s.1 ∧ s.1 ≤ 2 + n) ∧ okI b s.2.1 ∧ (s.2.2.2.length : Int) ≤ s.1 ∧ (∀ c ∈ s.2.2.2, goodN c.N ∧ 0 ≤ c.Page ∧ c.Page < s.1) ∧ s.2.2.2.Pairwise (fun x y => x.Page < y.Page)) (fun s => (2 + n - s.1).toNat)
    (fun o => ∃ j i' h' l, o = .out (j, i', h', l) ∧ okI b i' ∧ l.length ≤ 9 ∧ (∀ c ∈ l, goodN c.N ∧ 0 ≤ c.Page ∧ c.Page < 2 + n) ∧ l.Pairwise (fun x y => x.Page < y.Page)) (fun s hs => by
      obtain ⟨j, i', h', l⟩ := s
      obtain ⟨q0, q2, q3, q4, q5⟩ := hs
      simp only at q0 q2 q3 q4 q5
      simp only [spec_l19Draw_b0, ew]
      by_cases hj : j < 2 + n
      · obtain ⟨c, i3, h3, ec, o3, _⟩ := once_dr (h := h') q2 hl 3
        rw [if_pos (by simpa using hj), ec, some_bind, w64 (n := j + 1) (by omega) (by omega)]
        cases c
        · rw [if_neg (by simp)]
          exact ⟨_, rfl, ⟨by simp only; omega, o3, by simp only; omega, fun c hc => ⟨(q4 c hc).1, (q4 c hc).2.1, by have := (q4 c hc).2.2; simp only; omega⟩, q5⟩, by simp only; omega⟩
        · obtain ⟨x, i4, h4, ex, o4, hx⟩ := l5draw_dr hk (h := h3) o3 hl
          rw [if_pos rfl]
          simp only [ex, some_bind]
          rw [if_pos (okLen_iff.2 (by simp; omega))]
          refine ⟨_, rfl, ⟨by simp only; omega, o4, by simp; omega, fun c hc => ?_, ?_⟩, by simp only; omega⟩
          · simp only [List.mem_append, List.mem_cons, List.not_mem_nil, or_false] at hc
            rcases hc with hc | rfl
            · exact ⟨(q4 c hc).1, (q4 c hc).2.1, by have := (q4 c hc).2.2; simp only; omega⟩
            · exact ⟨hx, q0.1, by simp only; omega⟩
          · rw [List.pairwise_append]
            refine ⟨q5, by simp, fun y hy z hz => ?_⟩
            simp only [List.mem_cons, List.not_mem_nil, or_false] at hz
            subst hz
            exact (q4 y hy).2.2
      · rw [if_neg (by simpa using hj)]
        exact ⟨_, rfl, _, _, _, _, rfl, q2, by omega, fun c hc => ⟨(q4 c hc).1, (q4 c hc).2.1, by have := (q4 c hc).2.2; omega⟩, q5⟩) k (0, i3, h3, ([] : List TChange)) ⟨by simp only; omega, o3, by simp, by simp, by simp⟩ (by have : 9223372036854775808 ≤ k := hk; simp only; omega)
  obtain ⟨j, i', h', l, rfl, p1, p2, p3, p4⟩ := hQ
  refine Dr.pbind e ?_
  refine Dr.ret p1 ⟨?_, ?_, ?_, p2, ?_, p4⟩
  · show 1 ≤ wrap64 (1 + s) ∧ wrap64 (1 + s) ≤ 99
    rw [w64 (by omega) (by omega)]; omega
  · show 2 ≤ wrap64 (2 + n) ∧ wrap64 (2 + n) ≤ 9
    rw [ew]; omega
  · show 0 ≤ r ∧ r < wrap64 (2 + n)
    rw [ew]; exact ⟨hr0, hr1⟩
  · show ∀ c ∈ l, goodN c.N ∧ 0 ≤ c.Page ∧ c.Page < wrap64 (2 + n)
    rw [ew]; exact p3
theorem l19any_dr {k : Nat} (hk : Big k) {b : List Int} {i h : Int} (hi : okI b i) (hl : b.length ≤ 1048576) : Dr b (spec_l19Any k ⟨b, i, h⟩) (fun t => t.Puts.length ≤ 10 ∧ ∀ c ∈ t.Puts, c.N.L.length ≤ 8) := by
  rw [spec_l19Any]
  refine Dr.bind (l19draw_dr hk hi hl) fun t i1 h1 o1 ht => ?_
  have h9 := ht.2.2.2.1
  have h8 : ∀ c ∈ t.Puts, c.N.L.length ≤ 8 := fun c hc => by have := (ht.2.2.2.2.1 c hc).1.1; omega
  have hT : t.Puts.length ≤ 10 ∧ ∀ c ∈ t.Puts, c.N.L.length ≤ 8 := ⟨by omega, h8⟩
  refine Dr.bind (below_dr o1 hl 12) fun y i2 h2 o2 hy => ?_
  refine Dr.ite (fun _ => ?_) fun _ => Dr.ite (fun _ => ?_) fun _ => Dr.ite (fun _ => ?_) fun _ => Dr.ite (fun _ => ?_) fun _ => ?_
  · exact Dr.bind (int_dr o2 hl (by simp)) fun z i3 h3 o3 hz => Dr.ret o3 hT
  · exact Dr.bind (int_dr o2 hl (by simp)) fun z i3 h3 o3 hz => Dr.ret o3 hT
  · exact Dr.bind (int_dr o2 hl (by simp)) fun z i3 h3 o3 hz => Dr.ret o3 hT
  · refine Dr.bind (below_dr o2 hl 12) fun z i3 h3 o3 hz => ?_
    refine Dr.bind (l5any_dr hk o3 hl) fun u i4 h4 o4 hu => ?_
    refine Dr.ite (fun _ => ?_) fun hn => absurd (okLen_iff.2 (by simp; omega)) hn
    refine Dr.ret o4 ⟨by simp; omega, fun c hc => ?_⟩
    simp only [List.mem_append, List.mem_cons, List.not_mem_nil, or_false] at hc
    rcases hc with hc | rfl
    · exact h8 c hc
    · exact hu
  · exact Dr.ret o2 hT
theorem l19epoch_dr {b : List Int} {i h : Int} (hi : okI b i) (hl : b.length ≤ 1048576) : Dr b (spec_l19Epoch ⟨b, i, h⟩) (fun _ => True) := by
  rw [spec_l19Epoch]
  exact Dr.bind (int_dr hi hl (by simp)) fun x i1 h1 o1 hx => Dr.ret o1 trivial
def smD (M : Nat) (p : TDisk) : Prop := p.Cells.length ≤ M ∧ (∀ y ∈ p.Cells, y.B.length ≤ M) ∧ p.Wet.length ≤ M ∧ ∀ y ∈ p.Wet, y.B.length ≤ M
theorem smD.mono {M N : Nat} {p : TDisk} (h : smD M p) (hn : M ≤ N) : smD N p := ⟨Nat.le_trans h.1 hn, fun y hy => Nat.le_trans (h.2.1 y hy) hn, Nat.le_trans h.2.2.1 hn, fun y hy => Nat.le_trans (h.2.2.2 y hy) hn⟩
theorem spec_copyDisk_eq {k M : Nat} (hk : Big k) {p : TDisk} (h : smD M p) (hM : M ≤ 2097152) : spec_l18Copy k p = some p := by
  obtain ⟨h1, h2, h3, h4⟩ := h
  have e := loop_app2 (b := spec_l18Copy_b0 p) (k := k) (f := fun x : TCell => [x]) (p := p.Cells) (z := []) (B := 1) (by omega) hk (fun _ _ => Nat.le_refl _) (fun i hi l hl2 => by
      simp only [List.length_nil] at hl2
      have c1 : decide ((i : Int) < ((List.length p.Cells : Nat) : Int)) = true := by simp; omega
      have c2 : (0 : Int) ≤ (i : Int) ∧ (i : Int) < ((List.length p.Cells : Nat) : Int) := by omega
      have hn := h2 _ (List.getElem_mem hi)
      simp only [spec_l18Copy_b0, if_pos c1, if_pos c2, gt_nat hi, List.nil_append]
      rw [if_pos (okLen_iff.2 (by simp; omega)), if_pos (okLen_iff.2 (by simp; omega)), w64s (by omega)])
    (fun l => by simp only [spec_l18Copy_b0]; rw [if_neg (by simp)])
  have e2 := loop_app2 (b := spec_l18Copy_b1 p) (k := k) (f := fun x : TWet => [x]) (p := p.Wet) (z := []) (B := 1) (by omega) hk (fun _ _ => Nat.le_refl _) (fun i hi l hl2 => by
      simp only [List.length_nil] at hl2
      have c1 : decide ((i : Int) < ((List.length p.Wet : Nat) : Int)) = true := by simp; omega
      have c2 : (0 : Int) ≤ (i : Int) ∧ (i : Int) < ((List.length p.Wet : Nat) : Int) := by omega
      have hn := h4 _ (List.getElem_mem hi)
      simp only [spec_l18Copy_b1, if_pos c1, if_pos c2, gt_nat hi, List.nil_append]
      rw [if_pos (okLen_iff.2 (by simp; omega)), if_pos (okLen_iff.2 (by simp; omega)), w64s (by omega)])
    (fun l => by simp only [spec_l18Copy_b1]; rw [if_neg (by simp)])
  rw [spec_l18Copy, e, some_bind]
  simp only
  rw [e2, some_bind]
  simp only [List.nil_append, fm_single]
theorem impl_copyDisk_eq {k M : Nat} (hk : Big k) {p : TDisk} (h : smD M p) (hM : M ≤ 2097152) : impl_copyDisk k p = some p := by
  obtain ⟨h1, h2, h3, h4⟩ := h
  have e := loop_app2 (b := impl_copyDisk_b0 p) (k := k) (f := fun x : TCell => [x]) (p := p.Cells) (z := []) (B := 1) (by omega) hk (fun _ _ => Nat.le_refl _) (fun i hi l hl2 => by
      simp only [List.length_nil] at hl2
      have c1 : decide ((i : Int) < ((List.length p.Cells : Nat) : Int)) = true := by simp; omega
      have c2 : (0 : Int) ≤ (i : Int) ∧ (i : Int) < ((List.length p.Cells : Nat) : Int) := by omega
      have hn := h2 _ (List.getElem_mem hi)
      simp only [impl_copyDisk_b0, if_pos c1, if_pos c2, gt_nat hi, slices_Clone_byte_byte]
      rw [if_pos (okLen_iff.2 (by omega)), some_bind, if_pos (okLen_iff.2 (by simp; omega)), w64s (by omega)])
    (fun l => by simp only [impl_copyDisk_b0]; rw [if_neg (by simp)])
  have e2 := loop_app2 (b := impl_copyDisk_b1 p) (k := k) (f := fun x : TWet => [x]) (p := p.Wet) (z := []) (B := 1) (by omega) hk (fun _ _ => Nat.le_refl _) (fun i hi l hl2 => by
      simp only [List.length_nil] at hl2
      have c1 : decide ((i : Int) < ((List.length p.Wet : Nat) : Int)) = true := by simp; omega
      have c2 : (0 : Int) ≤ (i : Int) ∧ (i : Int) < ((List.length p.Wet : Nat) : Int) := by omega
      have hn := h4 _ (List.getElem_mem hi)
      simp only [impl_copyDisk_b1, if_pos c1, if_pos c2, gt_nat hi, slices_Clone_byte_byte]
      rw [if_pos (okLen_iff.2 (by omega)), some_bind, if_pos (okLen_iff.2 (by simp; omega)), w64s (by omega)])
    (fun l => by simp only [impl_copyDisk_b1]; rw [if_neg (by simp)])
  rw [impl_copyDisk, e, some_bind]
  simp only
  rw [e2, some_bind]
  simp only [List.nil_append, fm_single]
def burn (p : TDisk) : Bool × TDisk := if p.Dead = true then (false, p) else if p.Fuse = 0 then (false, ⟨p.Cells, p.Wet, p.Fuse, true⟩) else if p.Fuse > 0 then (true, ⟨p.Cells, p.Wet, wrap64 (p.Fuse - 1), p.Dead⟩) else (true, p)
theorem spec_burn_eq (p : TDisk) : spec_l18Burn p = some (burn p) := by
  simp only [spec_l18Burn, burn, decide_eq_true_eq]
  split
  · rfl
  · split
    · rfl
    · split <;> rfl
theorem impl_burn_eq (p : TDisk) : impl_Disk_burn p = some (burn p) := by
  simp only [impl_Disk_burn, burn, decide_eq_true_eq]
  split
  · rfl
  · split
    · rfl
    · split <;> rfl
def writeD (p : TDisk) (s : Int) (b : List Int) : TDisk := if (burn p).1 = true ∧ (0 ≤ s ∧ s ≤ 113) ∧ b.length ≤ 32 then ⟨p.Cells, p.Wet ++ [⟨s, pad b 32⟩], (burn p).2.Fuse, (burn p).2.Dead⟩ else ⟨p.Cells, p.Wet, (burn p).2.Fuse, (burn p).2.Dead⟩
theorem writeD_sm {M : Nat} {p : TDisk} (h : smD M p) {s : Int} {b : List Int} (hM : 32 ≤ M) : smD (M + 1) (writeD p s b) := by
  obtain ⟨h1, h2, h3, h4⟩ := h
  unfold writeD
  split
  · rename_i hc
    refine ⟨by simp only; omega, fun y hy => by have := h2 y hy; omega, by simp only [List.length_append, List.length_cons, List.length_nil]; omega, fun y hy => ?_⟩
    simp only [List.mem_append, List.mem_cons, List.not_mem_nil, or_false] at hy
    rcases hy with hy | rfl
    · have := h4 y hy; omega
    · have := pad_len (l := b) (n := 32) (by omega) (by omega); simp only [this]; omega
  · exact ⟨by simp only; omega, fun y hy => by have := h2 y hy; omega, by simp only; omega, fun y hy => by have := h4 y hy; omega⟩
theorem spec_writeD_eq {k M : Nat} (hk : Big k) {p : TDisk} (h : smD M p) (hM : M ≤ 2097152) {s : Int} {b : List Int} (hb : b.length ≤ 2097152) : spec_Write k p s b = some (writeD p s b) := by
  have h3 := h.2.2.1
  rw [spec_Write, spec_copyDisk_eq hk h hM, some_bind, spec_burn_eq, some_bind, spec_in_eq, writeD]
  rw [spec_pad_eq hk (by omega)]
  simp only [some_bind]
  rw [if_pos (c := okLen _ = true) (okLen_iff.2 (by simp; omega))]
  cases (burn p).1 <;> by_cases hs : 0 ≤ s ∧ s ≤ 113 <;> by_cases hl : b.length ≤ 32
  all_goals (have hl2 : ((List.length b : Nat) : Int) ≤ 32 ↔ b.length ≤ 32 := by omega)
  all_goals simp [hs, hl, hl2]
theorem impl_writeD_eq {k M : Nat} (hk : Big k) {p : TDisk} (h : smD M p) (hM : M ≤ 2097152) {s : Int} {b : List Int} (hb : b.length ≤ 2097152) : impl_Write k p s b = some (writeD p s b) := by
  have h3 := h.2.2.1
  rw [impl_Write, impl_copyDisk_eq hk h hM, some_bind, impl_burn_eq, some_bind, impl_in_eq, writeD]
  rw [impl_pad_eq hk (by omega)]
  simp only [some_bind]
  rw [if_pos (c := okLen _ = true) (okLen_iff.2 (by simp; omega))]
  cases (burn p).1 <;> by_cases hs : 0 ≤ s ∧ s ≤ 113 <;> by_cases hl : b.length ≤ 32
  all_goals (have hl2 : ((List.length b : Nat) : Int) ≤ 32 ↔ b.length ≤ 32 := by omega)
  all_goals simp [hs, hl, hl2]
def mp (t : TTx) : Nat → List (Int × Int)
  | 0 => []
  | i + 1 => mput (mp t i) (pg t i) 1
theorem mp_get (t : TTx) (x : Int) : ∀ i, mget (mp t i) x = if (List.range i).any (fun j => decide (pg t j = x)) = true then 1 else 0
  | 0 => rfl
  | i + 1 => by
    rw [mp, mget_mput, mp_get t x i, List.range_succ, List.any_append]
    by_cases h : x = pg t i
    · subst h; simp
    · have : ¬ pg t i = x := fun e => h e.symm
      simp [h, this]
theorem impl_txOk_eq {k : Nat} (hk : Big k) {t : TTx} (h : smTx t) : impl_TxOk k t = some (txOk t) := by
  have hl := h.1
  have h2 := loop_first (b := impl_TxOk_b0 k t) (k := k) (n := t.Puts.length) (fun i => (mp t i, (i : Int))) (badTx t) (fun i => .ret false) (by omega) hk (fun i t h => by cases h)
    (fun i hi => by
      have c1 : decide ((i : Int) < ((List.length t.Puts : Nat) : Int)) = true := by simp; omega
      have c2 : (0 : Int) ≤ (i : Int) ∧ (i : Int) < ((List.length t.Puts : Nat) : Int) := by omega
      have hn : (gt t.Puts (i : Int)).N.L.length ≤ 2097152 := by rw [gt_nat hi]; exact h.2 _ (List.getElem_mem hi)
      have ep : (gt t.Puts (i : Int)).Page = pg t i := rfl
      have eN := impl_nodeOk_eq hk hn
      have eM := mp_get t (pg t i) i
      obtain ⟨nb, hnb⟩ : ∃ nb, nodeOk (gt t.Puts (i : Int)).N = nb := ⟨_, rfl⟩
      obtain ⟨ab, hab⟩ : ∃ ab, (List.range i).any (fun j => decide (pg t j = pg t i)) = ab := ⟨_, rfl⟩
      have eB : badTx t i = (!decide (0 ≤ pg t i ∧ pg t i ≤ wrap64 (t.Size - 1)) || ab || !nb) := by rw [badTx, hab, hnb]
      rw [hnb] at eN
      rw [hab] at eM
      simp only [impl_TxOk_b0, if_pos c1, if_pos c2, w64s (n := i) (by omega), eN, impl_in_eq, some_bind, ep, eM, eB, mp]
      by_cases hA : 0 ≤ pg t i ∧ pg t i ≤ wrap64 (t.Size - 1) <;> cases nb <;> cases ab <;> simp [hA])
    (by simp only [impl_TxOk_b0]; rw [if_neg (by simp)])
  have h2' : loopM (impl_TxOk_b0 k t) k (([] : List (Int × Int)), 0) = _ := h2
  rw [impl_TxOk, h2', txOk, impl_numsOk_eq]
  cases firstN (badTx t) t.Puts.length <;> rfl

def put2 (l : List Int) (x : Int) : List Int := if 0 ≤ x ∧ x ≤ 65535 then l ++ [x / 256, x % 256] else l
theorem put2_len (l : List Int) (x : Int) : (put2 l x).length ≤ l.length + 2 := by
  unfold put2; split <;> simp
theorem spec_put2_eq {l : List Int} {x : Int} (h : okLen (l.length + 2) = true) : spec_Put2 l x = some (put2 l x) := by
  have h1 : okLen l.length = true := okLen_le h (by omega)
  simp only [spec_Put2, spec_in_eq, some_bind, List.nil_append, List.length_nil, Nat.zero_add, h1, if_true, List.length_cons, h, put2]
  by_cases hx : 0 ≤ x ∧ x ≤ 65535
  · have e1 : Int.tdiv x 256 = x / 256 := tdiv_pos hx.1
    have e2 : Int.tmod x 256 = x % 256 := tmod_pos hx.1
    simp only [hx, decide_true, Bool.not_true, Bool.false_eq_true, if_false, if_true, and_self, e1, e2, u8w]
    rw [w64 (by omega) (by omega)]
    have e3 : x / 256 % 256 = x / 256 := by omega
    have e4 : x % 256 % 256 = x % 256 := by omega
    rw [e3, e4]
  · simp [hx]
theorem impl_put2_eq {l : List Int} {x : Int} (h : okLen (l.length + 2) = true) : impl_Put2 l x = some (put2 l x) := by
  have h1 : okLen l.length = true := okLen_le h (by omega)
  simp only [impl_Put2, slices_Clone_byte_byte, impl_in_eq, some_bind, h1, if_true, List.length_cons, List.length_nil, Nat.zero_add, h, put2]
  by_cases hx : 0 ≤ x ∧ x ≤ 65535
  · simp only [hx, decide_true, Bool.not_true, Bool.false_eq_true, if_false, if_true, and_self, u8w, sh8]
    rw [fdiv_pos (by omega)]
    have e3 : x / 256 % 256 = x / 256 := by omega
    rw [e3]
  · simp [hx]

def endCell (e : Int) (t : TTx) (n : Int) : List Int := put2 (put2 [2] e) t.Seq ++ [t.Root % 256, t.Size % 256, n % 256]
theorem endCell_len (e : Int) (t : TTx) (n : Int) : (endCell e t n).length ≤ 8 ∧ 3 ≤ (endCell e t n).length := by
  have h2 := put2_len [2] e
  have h1 := put2_len (put2 [2] e) t.Seq
  simp only [endCell, List.length_append, List.length_cons, List.length_nil] at *; omega
theorem impl_endCell_eq (e : Int) (t : TTx) (n : Int) : impl_endCell e t n = some (endCell e t n) := by
  have h2 := put2_len [2] e
  have h1 := put2_len (put2 [2] e) t.Seq
  simp only [List.length_cons, List.length_nil] at h1 h2
  rw [impl_endCell, impl_put2_eq (x := e) (l := [2]) rfl, some_bind, impl_put2_eq (okLen_iff.2 (by omega)), some_bind, if_pos (okLen_iff.2 (by simp; omega))]
  simp only [u8w, endCell]
def endOf (e : Int) (t : TTx) : List Int := if (0 ≤ e ∧ e ≤ 65535) ∧ txOk t = true then endCell e t (t.Puts.length : Int) else []
theorem endOf_len (e : Int) (t : TTx) : (endOf e t).length ≤ 8 := by
  unfold endOf; split
  · exact (endCell_len _ _ _).1
  · simp
theorem spec_endOf_eq {k : Nat} (hk : Big k) {e : Int} {t : TTx} (h : smTx t) : spec_EndCell k e t = some (endOf e t) := by
  have h2 := put2_len [2] e
  have h1 := put2_len (put2 [2] e) t.Seq
  simp only [List.length_cons, List.length_nil] at h1 h2
  rw [spec_EndCell, spec_in_eq, some_bind, spec_txOk_eq hk h, spec_put2_eq (x := e) (l := [2]) rfl]
  simp only [some_bind]
  rw [spec_put2_eq (x := t.Seq) (l := put2 [2] e) (okLen_iff.2 (by omega)), some_bind, if_pos (c := okLen _ = true) (okLen_iff.2 (by simp; omega)), endOf]
  by_cases he : 0 ≤ e ∧ e ≤ 65535 <;> cases txOk t <;> simp [he, u8w, endCell]
theorem impl_endOf_eq {k : Nat} (hk : Big k) {e : Int} {t : TTx} (h : smTx t) : impl_EndCell k e t = some (endOf e t) := by
  rw [impl_EndCell, impl_in_eq, some_bind, impl_txOk_eq hk h, impl_endCell_eq]
  simp only [some_bind, endOf]
  by_cases he : 0 ≤ e ∧ e ≤ 65535 <;> cases txOk t <;> simp [he]
def putEntry (e : TEntry) : List Int := if (0 ≤ e.N ∧ e.N ≤ 65535) ∧ boxOkP e.R then put2 [] e.N ++ [e.R.X0 % 256, e.R.Y0 % 256, e.R.X1 % 256, e.R.Y1 % 256] else []
theorem putEntry_len (e : TEntry) : (putEntry e).length ≤ 6 := by
  unfold putEntry
  split
  · have h := put2_len [] e.N
    simp only [List.length_append, List.length_cons, List.length_nil] at *
    omega
  · simp
theorem spec_putEntry_eq (e : TEntry) : spec_PutEntry e = some (putEntry e) := by
  have h2 := put2_len [] e.N
  simp only [List.length_nil] at h2
  have k1 : okLen (([] : List Int).length + 2) = true := rfl
  have k2 : okLen ((put2 [] e.N).length + 4) = true := okLen_iff.2 (by omega)
  simp only [spec_PutEntry, spec_in_eq, spec_boxOk_eq, some_bind, spec_put2_eq (x := e.N) k1, putEntry, u8w, List.length_cons, List.length_nil, Nat.zero_add, Nat.reduceAdd, k2, if_true]
  by_cases hA : 0 ≤ e.N ∧ e.N ≤ 65535 <;> by_cases hB : boxOkP e.R <;> simp [hA, hB]
theorem impl_putEntry_eq (e : TEntry) : impl_PutEntry e = some (putEntry e) := by
  have h2 := put2_len [] e.N
  simp only [List.length_nil] at h2
  have k1 : okLen (([] : List Int).length + 2) = true := rfl
  have k2 : okLen ((put2 [] e.N).length + 4) = true := okLen_iff.2 (by omega)
  simp only [impl_PutEntry, impl_in_eq, impl_boxOk_eq, some_bind, impl_put2_eq (x := e.N) k1, putEntry, u8w, List.length_cons, List.length_nil, Nat.zero_add, Nat.reduceAdd, k2, if_true]
  by_cases hA : 0 ≤ e.N ∧ e.N ≤ 65535 <;> by_cases hB : boxOkP e.R <;> simp [hA, hB]
def putNode (p : TNode) : List Int := if nodeOk p = true then pad ([if p.Leaf = true then ((p.L.length : Int) + 16) % 256 else (p.L.length : Int) % 256] ++ p.L.flatMap putEntry) 25 else []
theorem putNode_in {p : TNode} (h : nodeOk p = true) (x : Int) : ([x] ++ p.L.flatMap putEntry).length ≤ 25 := by
  have h1 := (nodeOk_facts h).1
  have h2 := fm_len (f := putEntry) (p := p.L) (B := 6) fun y _ => putEntry_len y
  simp only [List.length_append, List.length_cons, List.length_nil]; omega
theorem putNode_len (p : TNode) : (putNode p).length ≤ 25 := by
  unfold putNode
  split
  · rename_i h
    rw [pad_len (by have := putNode_in h (if p.Leaf = true then ((p.L.length : Int) + 16) % 256 else (p.L.length : Int) % 256); omega) (by omega)]; decide
  · simp
theorem putNode_trace {k : Nat} (hk : Big k) {p : TNode} (h : nodeOk p = true) {pe : TEntry → Option (List Int)} (hpe : ∀ e, pe e = some (putEntry e)) {b : (List Int × Int) → Option (Nx (List Int × Int) (List Int))} (x : Int)
    (hb : ∀ l i, b (l, i) = (if (decide (i < ((List.length p.L : Nat) : Int))) = true then (if (0 : Int) ≤ i ∧ i < ((List.length p.L : Nat) : Int) then ((pe (gt p.L i)).bind fun t => (if okLen (List.length l + List.length t) = true then some (.next ((l ++ t), (wrap64 (i + 1)))) else none)) else none) else some (.out (l, i)))) :
    loopM b k ([x], 0) = some (.out ([x] ++ p.L.flatMap putEntry, (p.L.length : Int))) := by
  have h4 := (nodeOk_facts h).1
  refine loop_app (f := putEntry) (p := p.L) (B := 6) (by omega) hk (fun y _ => putEntry_len y) ?_ ?_
  · intro i hi l hl
    have hp := putEntry_len p.L[i]
    simp only [List.length_cons, List.length_nil] at hl
    rw [hb, if_pos (by simp; omega), if_pos (by omega), hpe, some_bind, gt_nat hi, if_pos (okLen_iff.2 (by omega)), w64s (by omega)]
  · intro l
    rw [hb, if_neg (by simp)]
theorem spec_putNode_eq {k : Nat} (hk : Big k) {p : TNode} (hl : p.L.length ≤ 2097152) : spec_PutNode k p = some (putNode p) := by
  rw [spec_PutNode, spec_nodeOk_eq hk hl, some_bind, putNode]
  by_cases h : nodeOk p = true
  · have hin := putNode_in h
    rw [if_neg (by simp [h]), if_pos h]
    by_cases hL : p.Leaf = true
    · rw [if_pos hL, if_pos hL, putNode_trace hk h spec_putEntry_eq _ (fun l i => rfl)]
      simp only [some_bind]
      rw [spec_pad_eq hk (by have := hin (IntKind.u8.wrap (wrap64 (((List.length p.L : Nat) : Int) + 16))); omega), some_bind, u8w, w64 (by omega) (by omega)]
    · rw [if_neg hL, if_neg hL, putNode_trace hk h spec_putEntry_eq _ (fun l i => rfl)]
      simp only [some_bind]
      rw [spec_pad_eq hk (by have := hin (IntKind.u8.wrap (((List.length p.L : Nat) : Int))); omega), some_bind, u8w]
  · rw [if_pos (by simpa using h), if_neg h]
theorem impl_putNode_eq {k : Nat} (hk : Big k) {p : TNode} (hl : p.L.length ≤ 2097152) : impl_PutNode k p = some (putNode p) := by
  rw [impl_PutNode, impl_nodeOk_eq hk hl, some_bind, putNode]
  by_cases h : nodeOk p = true
  · have hin := putNode_in h
    rw [if_neg (by simp [h]), if_pos h]
    by_cases hL : p.Leaf = true
    · rw [if_pos hL, if_pos hL, putNode_trace hk h impl_putEntry_eq _ (fun l i => rfl)]
      simp only [some_bind]
      rw [impl_pad_eq hk (by have := hin (IntKind.u8.wrap (wrap64 (((List.length p.L : Nat) : Int) + 16))); omega), some_bind, u8w, w64 (by omega) (by omega)]
    · rw [if_neg hL, if_neg hL, putNode_trace hk h impl_putEntry_eq _ (fun l i => rfl)]
      simp only [some_bind]
      rw [impl_pad_eq hk (by have := hin (IntKind.u8.wrap (((List.length p.L : Nat) : Int))); omega), some_bind, u8w]
  · rw [if_pos (by simpa using h), if_neg h]

def putCell (e : Int) (x : TChange) : List Int := if (0 ≤ e ∧ e ≤ 65535) ∧ (0 ≤ x.Page ∧ x.Page ≤ 47) ∧ nodeOk x.N = true then (put2 [1] e ++ [x.Page % 256]) ++ putNode x.N else []
theorem putCell_len (e : Int) (x : TChange) : (putCell e x).length ≤ 29 := by
  have h1 := put2_len [1] e
  have h2 := putNode_len x.N
  unfold putCell
  split
  · simp only [List.length_append, List.length_cons, List.length_nil] at *; omega
  · simp
theorem spec_putCell_eq {k : Nat} (hk : Big k) {e : Int} {x : TChange} (hl : x.N.L.length ≤ 2097152) : spec_PutCell k e x = some (putCell e x) := by
  have h1 := put2_len [1] e
  have h2 := putNode_len x.N
  simp only [List.length_cons, List.length_nil] at h1
  rw [spec_PutCell]
  simp only [spec_in_eq, some_bind, spec_nodeOk_eq hk hl, spec_put2_eq (x := e) (l := [1]) rfl, spec_putNode_eq hk hl, u8w, putCell]
  rw [if_pos (c := okLen _ = true) (okLen_iff.2 (by simp; omega)), if_pos (c := okLen _ = true) (okLen_iff.2 (by simp; omega))]
  by_cases hA : 0 ≤ e ∧ e ≤ 65535 <;> by_cases hB : 0 ≤ x.Page ∧ x.Page ≤ 47 <;> cases hC : nodeOk x.N <;> simp [hA, hB]
theorem impl_putCell_eq {k : Nat} (hk : Big k) {e : Int} {x : TChange} (hl : x.N.L.length ≤ 2097152) : impl_PutCell k e x = some (putCell e x) := by
  have h1 := put2_len [1] e
  have h2 := putNode_len x.N
  simp only [List.length_cons, List.length_nil] at h1
  rw [impl_PutCell]
  simp only [impl_in_eq, some_bind, impl_nodeOk_eq hk hl, impl_put2_eq (x := e) (l := [1]) rfl, impl_putNode_eq hk hl, u8w, putCell]
  rw [if_pos (c := okLen _ = true) (okLen_iff.2 (by simp; omega)), if_pos (c := okLen _ = true) (okLen_iff.2 (by simp; omega))]
  by_cases hA : 0 ≤ e ∧ e ≤ 65535 <;> by_cases hB : 0 ≤ x.Page ∧ x.Page ≤ 47 <;> cases hC : nodeOk x.N <;> simp [hA, hB]

def txCells (e : Int) (t : TTx) : List (List Int) := if (0 ≤ e ∧ e ≤ 65535) ∧ txOk t = true then t.Puts.map (putCell e) ++ [endOf e t] else []
theorem txCells_mem {e : Int} {t : TTx} : ∀ c ∈ txCells e t, c.length ≤ 29 := by
  intro c hc
  unfold txCells at hc
  split at hc
  · simp only [List.mem_append, List.mem_map, List.mem_cons, List.not_mem_nil, or_false] at hc
    rcases hc with ⟨x, _, rfl⟩ | rfl
    · exact putCell_len e x
    · have := endOf_len e t; omega
  · simp at hc
theorem txCells_len (e : Int) (t : TTx) : (txCells e t).length ≤ t.Puts.length + 1 := by
  unfold txCells; split <;> simp
theorem spec_txCells_eq {k : Nat} (hk : Big k) {e : Int} {t : TTx} (h : smTx t) : spec_TxCells k e t = some (txCells e t) := by
  have hl := h.1
  have e1 := loop_app (b := spec_TxCells_b0 k e t) (k := k) (f := fun x : TChange => [putCell e x]) (p := t.Puts) (z := []) (B := 1) (by omega) hk (fun _ _ => Nat.le_refl _) (fun i hi l hl2 => by
      simp only [List.length_nil] at hl2
      have c1 : decide ((i : Int) < ((List.length t.Puts : Nat) : Int)) = true := by simp; omega
      have c2 : (0 : Int) ≤ (i : Int) ∧ (i : Int) < ((List.length t.Puts : Nat) : Int) := by omega
      have hn := h.2 _ (List.getElem_mem hi)
      simp only [spec_TxCells_b0, if_pos c1, if_pos c2, gt_nat hi, spec_putCell_eq hk hn, some_bind]
      rw [if_pos (okLen_iff.2 (by simp; omega)), w64s (by omega)])
    (fun l => by simp only [spec_TxCells_b0]; rw [if_neg (by simp)])
  rw [spec_TxCells, spec_in_eq, some_bind, spec_txOk_eq hk h, e1, spec_endOf_eq hk h]
  simp only [some_bind, fm_map, List.nil_append]
  rw [if_pos (c := okLen _ = true) (okLen_iff.2 (by simp; omega)), txCells]
  by_cases he : 0 ≤ e ∧ e ≤ 65535 <;> cases txOk t <;> simp [he]
theorem impl_txCells_eq {k : Nat} (hk : Big k) {e : Int} {t : TTx} (h : smTx t) : impl_TxCells k e t = some (txCells e t) := by
  have hl := h.1
  have e1 := loop_app (b := impl_TxCells_b0 k e t) (k := k) (f := fun x : TChange => [putCell e x]) (p := t.Puts) (z := []) (B := 1) (by omega) hk (fun _ _ => Nat.le_refl _) (fun i hi l hl2 => by
      simp only [List.length_nil] at hl2
      have c1 : decide ((i : Int) < ((List.length t.Puts : Nat) : Int)) = true := by simp; omega
      have c2 : (0 : Int) ≤ (i : Int) ∧ (i : Int) < ((List.length t.Puts : Nat) : Int) := by omega
      have hn := h.2 _ (List.getElem_mem hi)
      simp only [impl_TxCells_b0, if_pos c1, if_pos c2, gt_nat hi, impl_putCell_eq hk hn, some_bind]
      rw [if_pos (okLen_iff.2 (by simp; omega)), w64s (by omega)])
    (fun l => by simp only [impl_TxCells_b0]; rw [if_neg (by simp)])
  rw [impl_TxCells, impl_endOf_eq hk h, e1]
  simp only [some_bind, fm_map, List.nil_append]
  rw [if_pos (c := okLen _ = true) (okLen_iff.2 (by simp; omega)), txCells]
  by_cases hc : (0 ≤ e ∧ e ≤ 65535) ∧ txOk t = true
  · have : 3 ≤ (endOf e t).length := by rw [endOf, if_pos hc]; exact (endCell_len _ _ _).2
    rw [if_pos hc, if_neg (by simp; intro hh; rw [hh] at this; simp at this)]
  · have : endOf e t = [] := by rw [endOf, if_neg hc]
    rw [if_neg hc, if_pos (by simp [this])]

def dAt (d : TDisk) (s : Int) (cs : List (List Int)) : Nat → TDisk
  | 0 => d
  | i + 1 => writeD (dAt d s cs i) (2 + s + (i : Int)) (gt cs (i : Int))
theorem dAt_sm {M : Nat} {d : TDisk} (h : smD M d) {s : Int} {cs : List (List Int)} (hM : 32 ≤ M) : ∀ i, smD (M + i) (dAt d s cs i)
  | 0 => h
  | i + 1 => by rw [← Nat.add_assoc]; exact writeD_sm (dAt_sm h hM i) (by omega)
def appendD (d : TDisk) (s : Int) (e : Int) (t : TTx) : TDisk × Int := if (txCells e t).length = 0 ∨ s < 0 ∨ s > 64 - ((txCells e t).length : Int) then (d, -1) else (dAt d s (txCells e t) (txCells e t).length, s + ((txCells e t).length : Int))
theorem spec_appendD_eq {k : Nat} (hk : Big k) {d : TDisk} (hd : smD 1048576 d) {s : Int} {e : Int} {t : TTx} (h : smTx t) (hs : wfI s) : spec_Append k d s e t = some (appendD d s e t) := by
  have hl := txCells_len e t
  have hl2 := h.1
  rw [spec_Append, spec_copyDisk_eq hk hd (by omega), some_bind, spec_txCells_eq hk h, some_bind, appendD, w64 (n := 64 - ((List.length (txCells e t) : Nat) : Int)) (by omega) (by omega)]
  by_cases hc : (txCells e t).length = 0 ∨ s < 0 ∨ s > 64 - ((txCells e t).length : Int)
  · rw [if_pos hc, if_pos]
    rcases hc with hc | hc | hc
    · have : decide (((List.length (txCells e t) : Nat) : Int) = 0) = true := decide_eq_true (by omega)
      rw [this]; rfl
    · simp [hc]
    · simp [hc]
  · have e1 := loopM_run0 (b := spec_Append_b0 k s (txCells e t)) (k := k) (fun i => ((i : Int), (dAt d s (txCells e t) i).Cells, (dAt d s (txCells e t) i).Wet, (dAt d s (txCells e t) i).Fuse, (dAt d s (txCells e t) i).Dead)) (txCells e t).length
      (r := .out (((txCells e t).length : Int), (dAt d s (txCells e t) (txCells e t).length).Cells, (dAt d s (txCells e t) (txCells e t).length).Wet, (dAt d s (txCells e t) (txCells e t).length).Fuse, (dAt d s (txCells e t) (txCells e t).length).Dead)) (fun t h => by cases h)
      (fun j hj => by
        have c1 : decide ((j : Int) < ((List.length (txCells e t) : Nat) : Int)) = true := by simp; omega
        have c2 : (0 : Int) ≤ (j : Int) ∧ (j : Int) < ((List.length (txCells e t) : Nat) : Int) := by omega
        have hm := dAt_sm hd (s := s) (cs := txCells e t) (by omega) j
        have hb : (gt (txCells e t) (j : Int)).length ≤ 2097152 := by rw [gt_nat hj]; have := txCells_mem (e := e) (t := t) _ (List.getElem_mem hj); omega
        have e2 := spec_writeD_eq hk hm (s := 2 + s + (j : Int)) (by omega) hb
        have e3 : wrap64 (wrap64 (2 + s) + (j : Int)) = 2 + s + (j : Int) := by rw [w64 (n := 2 + s) (by omega) (by omega), w64 (by omega) (by omega)]
        have e4 : (⟨(dAt d s (txCells e t) j).Cells, (dAt d s (txCells e t) j).Wet, (dAt d s (txCells e t) j).Fuse, (dAt d s (txCells e t) j).Dead⟩ : TDisk) = dAt d s (txCells e t) j := rfl
        simp only [spec_Append_b0, if_pos c1, if_pos c2, e3, e4, e2, some_bind, w64s (n := j) (by omega), dAt])
      (by simp only [spec_Append_b0]; rw [if_neg (by simp)]) (by have : 9223372036854775808 ≤ k := hk; omega)
    rw [if_neg hc, if_neg]
    · have e1' : loopM (spec_Append_b0 k s (txCells e t)) k (0, d.Cells, d.Wet, d.Fuse, d.Dead) = _ := e1
      rw [e1', some_bind]
      simp only
      rw [w64 (by omega) (by omega)]
    · intro hh
      simp only [Bool.or_eq_true, decide_eq_true_eq] at hh
      omega
theorem impl_appendD_eq {k : Nat} (hk : Big k) {d : TDisk} (hd : smD 1048576 d) {s : Int} {e : Int} {t : TTx} (h : smTx t) (hs : wfI s) : impl_Append k d s e t = some (appendD d s e t) := by
  have hl := txCells_len e t
  have hl2 := h.1
  rw [impl_Append, impl_txCells_eq hk h, some_bind, impl_copyDisk_eq hk hd (by omega), some_bind, appendD, w64 (n := 64 - ((List.length (txCells e t) : Nat) : Int)) (by omega) (by omega)]
  by_cases hc : (txCells e t).length = 0 ∨ s < 0 ∨ s > 64 - ((txCells e t).length : Int)
  · rw [if_pos hc, if_pos]
    rcases hc with hc | hc | hc
    · have : decide (((List.length (txCells e t) : Nat) : Int) = 0) = true := decide_eq_true (by omega)
      rw [this]; rfl
    · simp [hc]
    · simp [hc]
  · have e1 := loopM_run0 (b := impl_Append_b0 k s (txCells e t)) (k := k) (fun i => ((i : Int), (dAt d s (txCells e t) i).Cells, (dAt d s (txCells e t) i).Wet, (dAt d s (txCells e t) i).Fuse, (dAt d s (txCells e t) i).Dead)) (txCells e t).length
      (r := .out (((txCells e t).length : Int), (dAt d s (txCells e t) (txCells e t).length).Cells, (dAt d s (txCells e t) (txCells e t).length).Wet, (dAt d s (txCells e t) (txCells e t).length).Fuse, (dAt d s (txCells e t) (txCells e t).length).Dead)) (fun t h => by cases h)
      (fun j hj => by
        have c1 : decide ((j : Int) < ((List.length (txCells e t) : Nat) : Int)) = true := by simp; omega
        have c2 : (0 : Int) ≤ (j : Int) ∧ (j : Int) < ((List.length (txCells e t) : Nat) : Int) := by omega
        have hm := dAt_sm hd (s := s) (cs := txCells e t) (by omega) j
        have hb : (gt (txCells e t) (j : Int)).length ≤ 2097152 := by rw [gt_nat hj]; have := txCells_mem (e := e) (t := t) _ (List.getElem_mem hj); omega
        have e2 := impl_writeD_eq hk hm (s := 2 + s + (j : Int)) (by omega) hb
        have e3 : wrap64 (wrap64 (2 + s) + (j : Int)) = 2 + s + (j : Int) := by rw [w64 (n := 2 + s) (by omega) (by omega), w64 (by omega) (by omega)]
        have e4 : (⟨(dAt d s (txCells e t) j).Cells, (dAt d s (txCells e t) j).Wet, (dAt d s (txCells e t) j).Fuse, (dAt d s (txCells e t) j).Dead⟩ : TDisk) = dAt d s (txCells e t) j := rfl
        simp only [impl_Append_b0, if_pos c1, if_pos c2, e3, e4, e2, some_bind, w64s (n := j) (by omega), dAt])
      (by simp only [impl_Append_b0]; rw [if_neg (by simp)]) (by have : 9223372036854775808 ≤ k := hk; omega)
    rw [if_neg hc, if_neg]
    · have e1' : loopM (impl_Append_b0 k s (txCells e t)) k (0, d.Cells, d.Wet, d.Fuse, d.Dead) = _ := e1
      rw [e1', some_bind]
      simp only
      rw [w64 (by omega) (by omega)]
    · intro hh
      simp only [Bool.or_eq_true, decide_eq_true_eq] at hh
      omega

theorem put2_wf {l : List Int} {y : Int} (hl : ∀ x ∈ l, wfU8 x) : ∀ x ∈ put2 l y, wfU8 x := by
  intro x hx
  unfold put2 at hx
  split at hx
  · simp only [List.mem_append, List.mem_cons, List.not_mem_nil, or_false] at hx
    rcases hx with h | h | h
    · exact hl x h
    · subst h; constructor <;> omega
    · subst h; constructor <;> omega
  · exact hl x hx
theorem pad_wf {l : List Int} {n : Int} (h : ∀ x ∈ l, wfU8 x) : ∀ x ∈ pad l n, wfU8 x := by
  intro x hx
  unfold pad at hx
  split at hx
  · rcases List.mem_append.1 hx with h1 | h1
    · exact h x h1
    · rw [List.eq_of_mem_replicate h1]; constructor <;> omega
  · exact h x hx
theorem m256_wf (x : Int) : wfU8 (x % 256) := by constructor <;> omega
theorem putEntry_wf (e : TEntry) : ∀ x ∈ putEntry e, wfU8 x := by
  intro x hx
  unfold putEntry at hx
  split at hx
  · rcases List.mem_append.1 hx with h | h
    · exact put2_wf (by simp) x h
    · simp only [List.mem_cons, List.not_mem_nil, or_false] at h
      rcases h with h | h | h | h <;> (subst h; exact m256_wf _)
  · simp at hx
theorem putNode_wf (p : TNode) : ∀ x ∈ putNode p, wfU8 x := by
  intro x hx
  unfold putNode at hx
  split at hx
  · refine pad_wf (fun z hz => ?_) x hx
    rcases List.mem_append.1 hz with h | h
    · simp only [List.mem_cons, List.not_mem_nil, or_false] at h
      subst h; split <;> exact m256_wf _
    · obtain ⟨e, _, he⟩ := List.mem_flatMap.1 h
      exact putEntry_wf e z he
  · simp at hx
theorem putCell_wf (e : Int) (p : TChange) : ∀ x ∈ putCell e p, wfU8 x := by
  intro x hx
  unfold putCell at hx
  split at hx
  · rcases List.mem_append.1 hx with h | h
    · rcases List.mem_append.1 h with h | h
      · exact put2_wf (fun z hz => by simp at hz; subst hz; constructor <;> omega) x h
      · simp only [List.mem_cons, List.not_mem_nil, or_false] at h
        subst h; exact m256_wf _
    · exact putNode_wf _ x h
  · simp at hx
theorem putNode_first {p : TNode} (h : nodeOk p = true) : gt (putNode p) 0 = (if p.Leaf = true then ((p.L.length : Int) + 16) % 256 else (p.L.length : Int) % 256) := by
  rw [putNode, if_pos h, pad, if_pos (by omega)]; rfl
theorem putNode_nil {p : TNode} (h : ¬ nodeOk p = true) : putNode p = [] := by rw [putNode, if_neg h]
def noCell : TCell := ⟨false, []⟩
def growC (l : List TCell) (s : Int) : List TCell := l ++ List.replicate (s.toNat + 1 - l.length) noCell
def storeC (l : List TCell) (s : Int) (c : TCell) : List TCell := if 0 ≤ s ∧ s ≤ 113 then (growC l s).set s.toNat c else l
theorem growC_len (l : List TCell) (s : Int) : (growC l s).length = max l.length (s.toNat + 1) := by simp [growC]; omega
theorem growC_mem {l : List TCell} {s : Int} : ∀ y ∈ growC l s, y ∈ l ∨ y = noCell := by
  intro y hy
  rcases List.mem_append.1 hy with h | h
  · exact .inl h
  · exact .inr (List.eq_of_mem_replicate h)
theorem storeC_len (l : List TCell) (s : Int) (c : TCell) : (storeC l s c).length ≤ max l.length 114 := by
  unfold storeC
  split
  · rw [List.length_set, growC_len]; omega
  · omega
theorem storeC_mem {l : List TCell} {s : Int} {c : TCell} : ∀ y ∈ storeC l s c, y ∈ l ∨ y = noCell ∨ y = c := by
  intro y hy
  unfold storeC at hy
  split at hy
  · rcases List.mem_or_eq_of_mem_set hy with h | h
    · rcases growC_mem y h with h | h
      · exact .inl h
      · exact .inr (.inl h)
    · exact .inr (.inr h)
  · exact .inl hy
theorem room_trace {ρ : Type} {b : List TCell → Option (Nx (List TCell) ρ)} {l : List TCell} {s : Int} {k : Nat} (hk : Big k) (hs : 0 ≤ s ∧ s ≤ 113) (hl : l.length ≤ 2097152)
    (hb : ∀ m : List TCell, b m = (if (decide (((List.length m : Nat) : Int) ≤ s)) = true then (if okLen (List.length m + List.length ([(⟨false, ([] : (List Int))⟩ : TCell)] : (List TCell))) = true then some (.next (m ++ ([(⟨false, ([] : (List Int))⟩ : TCell)] : (List TCell)))) else none) else some (.out m))) :
    loopM b k l = some (.out (growC l s)) := by
  have key := loopM_run0 (b := b) (k := k) (fun j => l ++ List.replicate j noCell) (s.toNat + 1 - l.length) (r := .out (growC l s)) (fun t h => by cases h) ?_ ?_ (by have : 9223372036854775808 ≤ k := hk; omega)
  · simpa using key
  · intro j hj
    rw [hb, if_pos (by simp; omega), if_pos (okLen_iff.2 (by simp; omega)), List.replicate_succ', List.append_assoc]; rfl
  · rw [hb, if_neg (by simp; omega)]; rfl
theorem spec_room_eq {k : Nat} (hk : Big k) {p : TDisk} {s : Int} (hs : 0 ≤ s ∧ s ≤ 113) (hl : p.Cells.length ≤ 2097152) : spec_l18Room k p s = some ⟨growC p.Cells s, p.Wet, p.Fuse, p.Dead⟩ := by
  rw [spec_l18Room, room_trace (b := spec_l18Room_b0 s) hk hs hl (fun _ => rfl)]; rfl
def flushC (l : List TCell) (ws : List TWet) : List TCell := ws.foldl (fun l w => storeC l w.At ⟨false, w.B⟩) l
theorem flushC_len (ws : List TWet) : ∀ l : List TCell, (flushC l ws).length ≤ max l.length 114 := by
  induction ws with
  | nil => intro l; simp [flushC]; omega
  | cons w ws ih =>
    intro l
    have h1 := ih (storeC l w.At ⟨false, w.B⟩)
    have h2 := storeC_len l w.At ⟨false, w.B⟩
    simp only [flushC, List.foldl_cons] at *
    omega
theorem flushC_mem (ws : List TWet) : ∀ l : List TCell, ∀ y ∈ flushC l ws, y ∈ l ∨ y = noCell ∨ ∃ w ∈ ws, y = ⟨false, w.B⟩ := by
  induction ws with
  | nil => intro l y hy; exact .inl hy
  | cons w ws ih =>
    intro l y hy
    have hy' : y ∈ flushC (storeC l w.At ⟨false, w.B⟩) ws := hy
    rcases ih _ y hy' with h | h | ⟨v, hv, h⟩
    · rcases storeC_mem y h with h | h | h
      · exact .inl h
      · exact .inr (.inl h)
      · exact .inr (.inr ⟨w, List.mem_cons_self .., h⟩)
    · exact .inr (.inl h)
    · exact .inr (.inr ⟨v, List.mem_cons_of_mem _ hv, h⟩)
theorem flushC_succ {l : List TCell} {ws : List TWet} {i : Nat} (h : i < ws.length) : flushC l (ws.take (i + 1)) = storeC (flushC l (ws.take i)) ws[i].At ⟨false, ws[i].B⟩ := by
  rw [List.take_add_one, List.getElem?_eq_getElem h, Option.toList_some, flushC, List.foldl_append]; rfl
def flushD (p : TDisk) : TDisk := if (burn p).1 = true then ⟨flushC p.Cells p.Wet, [], (burn p).2.Fuse, (burn p).2.Dead⟩ else ⟨p.Cells, p.Wet, (burn p).2.Fuse, (burn p).2.Dead⟩
theorem spec_flushD_eq {k M : Nat} (hk : Big k) {p : TDisk} (h : smD M p) (hM : M ≤ 2097000) : spec_Flush k p = some (flushD p) := by
  obtain ⟨h1, h2, h3, h4⟩ := h
  rw [spec_Flush, spec_copyDisk_eq hk ⟨h1, h2, h3, h4⟩ (by omega), some_bind, spec_burn_eq, some_bind, flushD]
  by_cases hb : (burn p).1 = true
  · rw [if_neg (by simp [hb]), if_pos hb]
    obtain ⟨o, e, hQ⟩ := loopM_ends (b := spec_Flush_b0 k p) (fun s => ∃ i : Nat, i ≤ p.Wet.length ∧ s.1 = (i : Int) ∧ s.2.1 = flushC p.Cells (p.Wet.take i) ∧ s.2.2.1 = (burn p).2.Fuse ∧ s.2.2.2.1 = (burn p).2.Dead ∧ s.2.2.2.2 ≤ (i : Int)) (fun s => p.Wet.length - s.1.toNat)
      (fun o => ∃ s, o = .out s ∧ s.2.1 = flushC p.Cells p.Wet ∧ s.2.2.1 = (burn p).2.Fuse ∧ s.2.2.2.1 = (burn p).2.Dead) (fun s hs => by
        obtain ⟨j, c, f, dd, r⟩ := s
        obtain ⟨i, hi, rfl, rfl, rfl, rfl, hr⟩ := hs
        simp only at hr
        simp only [spec_Flush_b0]
        rcases Nat.lt_or_ge i p.Wet.length with hlt | hge
        · have hcl := flushC_len (p.Wet.take i) p.Cells
          rw [if_pos (by simp; omega), if_pos (by omega), if_pos hr, gt_nat hlt, spec_in_eq, some_bind]
          by_cases hs : 0 ≤ p.Wet[i].At ∧ p.Wet[i].At ≤ 113
          · rw [if_pos (by simpa using hs), spec_room_eq hk hs (by simp only; omega), some_bind, if_pos (by omega), if_pos hr]
            simp only
            rw [if_pos (by rw [growC_len]; omega)]
            refine ⟨_, rfl, ⟨i + 1, hlt, by simp only; rw [w64s (by omega)], ?_, rfl, rfl, by simp only; omega⟩, by simp only; rw [w64s (by omega)]; omega⟩
            simp only
            rw [flushC_succ hlt, storeC, if_pos hs]
          · rw [if_neg (by simpa using hs)]
            refine ⟨_, rfl, ⟨i + 1, hlt, by simp only; rw [w64s (by omega)], ?_, rfl, rfl, by simp only; omega⟩, by simp only; rw [w64s (by omega)]; omega⟩
            simp only
            rw [flushC_succ hlt, storeC, if_neg hs]
        · rw [if_neg (by simp; omega)]
          exact ⟨_, rfl, _, rfl, by simp only; rw [List.take_of_length_le hge], rfl, rfl⟩)
      k (0, p.Cells, (burn p).2.Fuse, (burn p).2.Dead, 0) ⟨0, Nat.zero_le _, rfl, rfl, rfl, rfl, Int.le_refl _⟩ (by have : 9223372036854775808 ≤ k := hk; simp; omega)
    obtain ⟨s, rfl, q1, q2, q3⟩ := hQ
    obtain ⟨j, c, f, dd, r⟩ := s
    simp only at q1 q2 q3
    rw [e, some_bind, q1, q2, q3]
  · rw [if_pos (by simp [hb]), if_neg hb]
def okDisk (m : Nat) (d : TDisk) : Prop := d.Cells.length ≤ 114 ∧ (∀ c ∈ d.Cells, c.B.length ≤ 32 ∧ ∀ x ∈ c.B, wfU8 x) ∧ d.Wet.length ≤ m ∧ ∀ w ∈ d.Wet, (0 ≤ w.At ∧ w.At ≤ 113) ∧ w.B.length = 32 ∧ ∀ x ∈ w.B, wfU8 x
theorem okDisk.sm {m : Nat} {d : TDisk} (h : okDisk m d) : smD (m + 114) d := ⟨by have := h.1; omega, fun c hc => by have := (h.2.1 c hc).1; omega, by have := h.2.2.1; omega, fun w hw => by have := (h.2.2.2 w hw).2.1; omega⟩
theorem padw {b : List Int} {n : Int} (h : ∀ x ∈ b, wfU8 x) : ∀ x ∈ pad b n, wfU8 x := by
  intro x hx
  unfold pad at hx
  split at hx
  · rcases List.mem_append.1 hx with h1 | h1
    · exact h x h1
    · rw [List.eq_of_mem_replicate h1]; constructor <;> omega
  · exact h x hx
theorem okDisk.write {m : Nat} {d : TDisk} (h : okDisk m d) {s : Int} {b : List Int} (hb : ∀ x ∈ b, wfU8 x) : okDisk (m + 1) (writeD d s b) := by
  obtain ⟨h1, h2, h3, h4⟩ := h
  unfold writeD
  split
  · rename_i hc
    refine ⟨h1, h2, by simp only [List.length_append, List.length_cons, List.length_nil]; omega, fun w hw => ?_⟩
    simp only [List.mem_append, List.mem_cons, List.not_mem_nil, or_false] at hw
    rcases hw with hw | rfl
    · exact h4 w hw
    · exact ⟨hc.2.1, by rw [pad_len (by omega) (by omega)]; rfl, fun x hx => padw (n := 32) hb x hx⟩
  · exact ⟨h1, h2, by simp only; omega, h4⟩
theorem okDisk.mono {m n : Nat} {d : TDisk} (h : okDisk m d) (hn : m ≤ n) : okDisk n d := ⟨h.1, h.2.1, Nat.le_trans h.2.2.1 hn, h.2.2.2⟩
theorem okDisk.flush {m : Nat} {d : TDisk} (h : okDisk m d) : okDisk m (flushD d) := by
  obtain ⟨h1, h2, h3, h4⟩ := h
  unfold flushD
  split
  · refine ⟨by have := flushC_len d.Wet d.Cells; simp only; omega, fun y hy => ?_, by simp, by simp⟩
    rcases flushC_mem d.Wet d.Cells y hy with h | rfl | ⟨w, hw, rfl⟩
    · exact h2 y h
    · simp [noCell]
    · exact ⟨by have := (h4 w hw).2.1; simp only; omega, (h4 w hw).2.2⟩
  · exact ⟨h1, h2, h3, h4⟩
theorem drawHow_ok {k : Nat} (hk : Big k) {b : List Int} {i h : Int} (hi : okI b i) (hl : b.length ≤ 1048576) {n : Int} (hn : n ≤ 4096) : ∃ v i' h', spec_l18How k ⟨b, i, h⟩ n = some (v, ⟨b, i', h'⟩) ∧ okI b i' ∧ v.length ≤ 4096 := by
  obtain ⟨s, i2, h2, e2, o2, s0, s1, s2⟩ := below_ok (h := h) hi hl n
  rw [spec_l18How, e2, some_bind]
  have hs : s ≤ 4096 := by
    rcases Int.lt_or_le 0 n with h | h
    · have := s1 h; omega
    · have := s2 h; omega
  obtain ⟨o, e, hQ⟩ := loopM_ends (b := spec_l18How_b0 ⟨b, i, h⟩) (fun t => (0 ≤ t.2.1 ∧ (t.1.length : Int) + t.2.1 ≤ 4096) ∧ okI b t.2.2.1) (fun t => t.2.1.toNat) (fun o => ∃ v j i' h', o = .out (v, j, i', h') ∧ okI b i' ∧ v.length ≤ 4096) (fun t ht => by
      obtain ⟨v, j, i3, h3⟩ := t
      obtain ⟨q1, q2⟩ := ht
      simp only at q1 q2
      simp only [spec_l18How_b0]
      by_cases hj : j > 0
      · obtain ⟨u, i4, h4, e4, o4, _⟩ := int_ok (h := h3) q2 hl (l := [0, 1, 1, 2, 3]) (by simp)
        rw [if_pos (by simpa using hj), e4, some_bind, if_pos (okLen_iff.2 (by simp; omega)), w64 (by omega) (by omega)]
        exact ⟨_, rfl, ⟨by simp; omega, o4⟩, by simp only; omega⟩
      · rw [if_neg (by simpa using hj)]
        exact ⟨_, rfl, _, _, _, _, rfl, q2, by omega⟩) k ([], s, i2, h2) ⟨by simp; omega, o2⟩ (by have : 9223372036854775808 ≤ k := hk; simp only; omega)
  obtain ⟨v, j, i', h', rfl, q1, q2⟩ := hQ
  simp only [e, some_bind]
  exact ⟨_, _, _, rfl, q1, q2⟩

def crash1 (l : List TCell) (x : TWet × Int) : List TCell := if x.2 = 1 then storeC l x.1.At ⟨false, x.1.B⟩ else if x.2 = 2 then storeC l x.1.At ⟨true, []⟩ else l
def crashC (l : List TCell) (xs : List (TWet × Int)) : List TCell := xs.foldl crash1 l
theorem crash1_len (l : List TCell) (x : TWet × Int) : (crash1 l x).length ≤ max l.length 114 := by
  unfold crash1
  split
  · exact storeC_len _ _ _
  · split
    · exact storeC_len _ _ _
    · omega
theorem crash1_mem {l : List TCell} {x : TWet × Int} : ∀ y ∈ crash1 l x, y ∈ l ∨ y = noCell ∨ y = ⟨true, []⟩ ∨ y = ⟨false, x.1.B⟩ := by
  intro y hy
  unfold crash1 at hy
  split at hy
  · rcases storeC_mem y hy with h | h | h
    · exact .inl h
    · exact .inr (.inl h)
    · exact .inr (.inr (.inr h))
  · split at hy
    · rcases storeC_mem y hy with h | h | h
      · exact .inl h
      · exact .inr (.inl h)
      · exact .inr (.inr (.inl h))
    · exact .inl hy
theorem crashC_len (xs : List (TWet × Int)) : ∀ l : List TCell, (crashC l xs).length ≤ max l.length 114 := by
  induction xs with
  | nil => intro l; simp [crashC]; omega
  | cons w ws ih =>
    intro l
    have h1 := ih (crash1 l w)
    have h2 := crash1_len l w
    simp only [crashC, List.foldl_cons] at *
    omega
theorem crashC_mem (xs : List (TWet × Int)) : ∀ l : List TCell, ∀ y ∈ crashC l xs, y ∈ l ∨ y = noCell ∨ y = ⟨true, []⟩ ∨ ∃ x ∈ xs, y = ⟨false, x.1.B⟩ := by
  induction xs with
  | nil => intro l y hy; exact .inl hy
  | cons w ws ih =>
    intro l y hy
    have hy' : y ∈ crashC (crash1 l w) ws := hy
    rcases ih _ y hy' with h | h | h | ⟨v, hv, h⟩
    · rcases crash1_mem y h with h | h | h | h
      · exact .inl h
      · exact .inr (.inl h)
      · exact .inr (.inr (.inl h))
      · exact .inr (.inr (.inr ⟨w, List.mem_cons_self .., h⟩))
    · exact .inr (.inl h)
    · exact .inr (.inr (.inl h))
    · exact .inr (.inr (.inr ⟨v, List.mem_cons_of_mem _ hv, h⟩))
theorem crashC_succ {l : List TCell} {ws : List TWet} {hw : List Int} {i : Nat} (h : i < ws.length) (h2 : i < hw.length) : crashC l ((ws.zip hw).take (i + 1)) = crash1 (crashC l ((ws.zip hw).take i)) (ws[i], hw[i]) := by
  have h3 : i < (ws.zip hw).length := by simp; omega
  rw [List.take_add_one, List.getElem?_eq_getElem h3, Option.toList_some, crashC, List.foldl_append, List.getElem_zip]; rfl
def crashD (p : TDisk) (hw : List Int) (f : Int) : TDisk := ⟨crashC p.Cells (p.Wet.zip hw), [], if f < -1 then -1 else f, false⟩
theorem spec_crashD_eq {k M : Nat} (hk : Big k) {p : TDisk} {hw : List Int} {f : Int} (h : smD M p) (hM : M ≤ 2097000) (hl : hw.length ≤ 2097152) : spec_Crash k p hw f = some (crashD p hw f) := by
  obtain ⟨h1, h2, h3, h4⟩ := h
  rw [spec_Crash, spec_copyDisk_eq hk ⟨h1, h2, h3, h4⟩ (by omega), some_bind, crashD]
  obtain ⟨o, e, hQ⟩ := loopM_ends (b := spec_Crash_b0 k hw p) (fun s => ∃ i : Nat, i ≤ p.Wet.length ∧ i ≤ hw.length ∧ s.1 = (i : Int) ∧ s.2.1 = crashC p.Cells ((p.Wet.zip hw).take i) ∧ s.2.2.2.2 ≤ (i : Int)) (fun s => p.Wet.length - s.1.toNat)
      (fun o => ∃ s, o = .out s ∧ s.2.1 = crashC p.Cells (p.Wet.zip hw)) (fun s hs => by
        obtain ⟨j, c, ff, dd, r⟩ := s
        obtain ⟨i, hi, hi2, rfl, rfl, hr⟩ := hs
        simp only at hr
        simp only [spec_Crash_b0]
        by_cases hlt : i < p.Wet.length ∧ i < hw.length
        · obtain ⟨hlt, hlt2⟩ := hlt
          have hcl := crashC_len ((p.Wet.zip hw).take i) p.Cells
          have hmu : p.Wet.length - (((i + 1 : Nat) : Int)).toNat < p.Wet.length - ((i : Int)).toNat := by omega
          rw [if_pos (by simp; omega), if_pos (by omega), if_pos hr, gt_nat hlt, spec_in_eq, some_bind, w64s (n := i) (by omega), gt_nat hlt2]
          have c3 : (0 : Int) ≤ (i : Int) ∧ (i : Int) < ((List.length hw : Nat) : Int) := by omega
          simp only [if_pos c3]
          by_cases hs : 0 ≤ p.Wet[i].At ∧ p.Wet[i].At ≤ 113
          · rw [if_neg (by simpa using hs)]
            by_cases e1 : hw[i] = 1
            · rw [if_pos (by simpa using e1), spec_room_eq hk hs (by simp only; omega), some_bind, if_pos (by omega), if_pos hr]
              simp only
              rw [if_pos (by rw [growC_len]; omega)]
              refine ⟨_, rfl, ⟨i + 1, hlt, hlt2, rfl, ?_, by simp only; omega⟩, hmu⟩
              simp only
              rw [crashC_succ hlt hlt2, crash1, if_pos e1, storeC, if_pos hs]
            · rw [if_neg (by simpa using e1)]
              by_cases e2 : hw[i] = 2
              · rw [if_pos (by simpa using e2), spec_room_eq hk hs (by simp only; omega), some_bind]
                simp only
                rw [if_pos (by rw [growC_len]; omega)]
                refine ⟨_, rfl, ⟨i + 1, hlt, hlt2, rfl, ?_, by simp only; omega⟩, hmu⟩
                simp only
                rw [crashC_succ hlt hlt2, crash1, if_neg e1, if_pos e2, storeC, if_pos hs]
              · rw [if_neg (by simpa using e2)]
                refine ⟨_, rfl, ⟨i + 1, hlt, hlt2, rfl, ?_, by simp only; omega⟩, hmu⟩
                simp only
                rw [crashC_succ hlt hlt2, crash1, if_neg e1, if_neg e2]
          · rw [if_pos (by simp [hs])]
            refine ⟨_, rfl, ⟨i + 1, hlt, hlt2, rfl, ?_, by simp only; omega⟩, hmu⟩
            simp only
            rw [crashC_succ hlt hlt2, crash1, storeC, storeC, if_neg hs, if_neg hs]
            split
            · rfl
            · split <;> rfl
        · rw [if_neg (by simp; omega)]
          exact ⟨_, rfl, _, rfl, by simp only; rw [List.take_of_length_le (by simp; omega)]⟩)
      k (0, p.Cells, p.Fuse, p.Dead, 0) ⟨0, Nat.zero_le _, Nat.zero_le _, rfl, rfl, Int.le_refl _⟩ (by have : 9223372036854775808 ≤ k := hk; simp; omega)
  obtain ⟨s, rfl, q1⟩ := hQ
  obtain ⟨j, c, ff, dd, r⟩ := s
  simp only at q1
  rw [e, some_bind, q1, spec_Most]
  by_cases hf : f < -1
  · rw [if_pos hf, if_neg (by simp; omega)]; rfl
  · rw [if_neg hf]
    by_cases hf2 : f > -1
    · rw [if_pos (by simpa using hf2)]; rfl
    · rw [if_neg (by simpa using hf2)]
      have : f = -1 := by omega
      subst this; rfl
def readC (l : List TCell) (n : Int) : List Int × Bool := if (0 ≤ n ∧ n < (l.length : Int)) ∧ (gt l n).Bad = false ∧ (gt l n).B ≠ [] then ((gt l n).B, true) else ([], false)
theorem readC_out {l : List TCell} {n : Int} (h : ¬ (0 ≤ n ∧ n < (l.length : Int))) : readC l n = ([], false) := by rw [readC, if_neg fun hh => h hh.1]
theorem impl_read_dry {k : Nat} (hk : Big k) {d : TDisk} (hd : d.Wet = []) (hc : d.Cells.length ≤ 2097152) (hb : ∀ c ∈ d.Cells, c.B.length ≤ 2097152) (n : Int) : impl_Read k d n = some (readC d.Cells n) := by
  have e : loopM (impl_Read_b0 d n) k (wrap64 (((List.length d.Wet : Nat) : Int) - 1)) = some (.out (-1)) := by
    have e0 : wrap64 (((List.length ([] : List TWet) : Nat) : Int) - 1) = -1 := by rw [List.length_nil]; exact w64 (n := -1) (by decide) (by decide)
    rw [hd, e0]
    exact loopM_run0 (b := impl_Read_b0 d n) (k := k) (r := .out (-1)) (fun _ => -1) 0 (fun t h => by cases h) (fun j hj => absurd hj (Nat.not_lt_zero j)) (by simp only [impl_Read_b0]; rw [if_neg (by decide)]) (by have : 9223372036854775808 ≤ k := hk; omega)
  rw [impl_Read, e, some_bind]
  simp only
  by_cases hin : 0 ≤ n ∧ n < ((List.length d.Cells : Nat) : Int)
  · have e2 : (decide (n < 0) || decide (n ≥ ((List.length d.Cells : Nat) : Int))) = false := by simp; omega
    obtain ⟨hlt, eg⟩ := gt_eq hin.1 hin.2
    have hbl : (gt d.Cells n).B.length ≤ 2097152 := by rw [eg]; exact hb _ (List.getElem_mem hlt)
    have hok : okLen (List.length (gt d.Cells n).B) = true := okLen_iff.2 (by omega)
    simp only [e2, Bool.false_eq_true, if_false, if_pos hin, some_bind, slices_Clone_byte_byte, hok, if_true, readC]
    cases hbad : (gt d.Cells n).Bad
    · by_cases hz : (gt d.Cells n).B = []
      · simp [hz]
      · simp [hin, hz]
    · simp
  · have e2 : (decide (n < 0) || decide (n ≥ ((List.length d.Cells : Nat) : Int))) = true := by simp; omega
    simp only [e2, if_true, some_bind]
    rw [readC_out hin]
theorem readC_len {l : List TCell} {M : Nat} (h : ∀ c ∈ l, c.B.length ≤ M) (n : Int) : (readC l n).1.length ≤ M := by
  unfold readC
  split
  · rename_i hc
    obtain ⟨hlt, eg⟩ := gt_eq hc.1.1 hc.1.2
    rw [eg]; exact h _ (List.getElem_mem hlt)
  · simp

def readW (ws : List TWet) (n : Int) (r : List Int × Bool) : List Int × Bool := ws.foldl (fun r w => if w.At = n then (w.B, true) else r) r
theorem readW_snoc (ws : List TWet) (w : TWet) (n : Int) (r : List Int × Bool) : readW (ws ++ [w]) n r = if w.At = n then (w.B, true) else readW ws n r := by simp [readW]
theorem readW_take {ws : List TWet} {n : Int} {r : List Int × Bool} {j : Nat} (h : j < ws.length) : readW (ws.take (j + 1)) n r = if ws[j].At = n then (ws[j].B, true) else readW (ws.take j) n r := by
  rw [List.take_succ_eq_append_getElem h, readW_snoc]
theorem readW_len {ws : List TWet} {n : Int} {r : List Int × Bool} {M : Nat} (h : ∀ w ∈ ws, w.B.length ≤ M) (hr : r.1.length ≤ M) : (readW ws n r).1.length ≤ M := by
  induction ws generalizing r with
  | nil => exact hr
  | cons w ws ih =>
    rw [readW, List.foldl_cons]
    refine ih (fun y hy => h y (by simp [hy])) ?_
    split
    · exact h w (by simp)
    · exact hr
def readD (d : TDisk) (n : Int) : List Int × Bool := readW d.Wet n (readC d.Cells n)
theorem readD_len {d : TDisk} {M : Nat} (h : smD M d) (n : Int) : (readD d n).1.length ≤ M := readW_len h.2.2.2 (readC_len h.2.1 n)
theorem spec_read_body {d : TDisk} {M : Nat} (h : smD M d) (hM : M ≤ 2097152) (q : Int) : impl_Read_b0 d q = spec_Read_b0 d q := by
  funext i
  simp only [impl_Read_b0, spec_Read_b0, slices_Clone_byte_byte, List.nil_append, List.length_nil, Nat.zero_add]
  by_cases h1 : decide (i ≥ 0) = true
  · rw [if_pos h1, if_pos h1]
    by_cases h2 : (0 : Int) ≤ i ∧ i < ((List.length d.Wet : Nat) : Int)
    · rw [if_pos h2, if_pos h2, if_pos h2, if_pos h2]
      by_cases h3 : decide ((gt d.Wet i).At = q) = true
      · rw [if_pos h3, if_pos h3]
        by_cases h4 : okLen (List.length (gt d.Wet i).B) = true
        · rw [if_pos h4, if_pos h4]; rfl
        · rw [if_neg h4, if_neg h4]; rfl
      · rw [if_neg h3, if_neg h3]
    · rw [if_neg h2, if_neg h2]
  · rw [if_neg h1, if_neg h1]
theorem read_loop {k : Nat} (hk : Big k) {d : TDisk} {M : Nat} (h : smD M d) (hM : M ≤ 2097152) (n : Int) :
    ∃ o, loopM (impl_Read_b0 d n) k (wrap64 (((List.length d.Wet : Nat) : Int) - 1)) = some o ∧ match o with
      | .ret r => ∀ x, readW d.Wet n x = r
      | .out _ => ∀ x, readW d.Wet n x = x
      | .next _ => False := by
  have hl := h.2.2.1
  refine loopM_ends (b := impl_Read_b0 d n) (fun i => ∃ j : Nat, j ≤ d.Wet.length ∧ i = (j : Int) - 1 ∧ ∀ x, readW d.Wet n x = readW (d.Wet.take j) n x) (fun i => (i + 1).toNat) _ (fun i hi => ?_) k _ ⟨d.Wet.length, Nat.le_refl _, by rw [w64 (by omega) (by omega)], fun x => by rw [List.take_length]⟩ (by rw [w64 (by omega) (by omega)]; have : 9223372036854775808 ≤ k := hk; omega)
  obtain ⟨j, hj, rfl, he⟩ := hi
  simp only [impl_Read_b0]
  rcases j with _ | j
  · rw [if_neg (by simp)]
    exact ⟨_, rfl, fun x => by rw [he]; rfl⟩
  · have e1 : (((j + 1 : Nat) : Int)) - 1 = (j : Int) := by omega
    rw [e1]
    have h2 : (0 : Int) ≤ (j : Int) ∧ (j : Int) < ((List.length d.Wet : Nat) : Int) := by omega
    have hlt : j < d.Wet.length := by omega
    have hb := h.2.2.2 _ (List.getElem_mem hlt)
    rw [if_pos (by simp), if_pos h2, if_pos h2, gt_nat hlt, slices_Clone_byte_byte, if_pos (okLen_iff.2 (by omega)), some_bind]
    by_cases h3 : d.Wet[j].At = n
    · rw [if_pos (by simpa using h3)]
      exact ⟨_, rfl, fun x => by rw [he, readW_take hlt, if_pos h3]⟩
    · rw [if_neg (by simpa using h3)]
      refine ⟨_, rfl, ⟨j, by omega, by rw [w64 (by omega) (by omega)], fun x => by rw [he, readW_take hlt, if_neg h3]⟩, ?_⟩
      rw [w64 (by omega) (by omega)]; omega
theorem impl_readD_eq {k : Nat} (hk : Big k) {d : TDisk} {M : Nat} (h : smD M d) (hM : M ≤ 2097152) (n : Int) : impl_Read k d n = some (readD d n) := by
  obtain ⟨o, e, hQ⟩ := read_loop hk h hM n
  have ed := impl_read_dry hk (d := ⟨d.Cells, [], d.Fuse, d.Dead⟩) rfl (by have := h.1; simp only; omega) (fun c hc => by have := h.2.1 c hc; omega) n
  rw [impl_Read, e, some_bind]
  match o, hQ with
  | .ret r, hr => rw [readD, hr]
  | .out i, hr =>
    rw [readD, hr, ← ed, impl_Read]
    have e0 : loopM (impl_Read_b0 ⟨d.Cells, [], d.Fuse, d.Dead⟩ n) k (wrap64 (((List.length ([] : List TWet) : Nat) : Int) - 1)) = some (.out (-1)) := by
      have e0 : wrap64 (((List.length ([] : List TWet) : Nat) : Int) - 1) = -1 := by rw [List.length_nil]; exact w64 (n := -1) (by decide) (by decide)
      rw [e0]
      exact loopM_run0 (b := impl_Read_b0 _ n) (k := k) (r := .out (-1)) (fun _ => -1) 0 (fun t h => by cases h) (fun j hj => absurd hj (Nat.not_lt_zero j)) (by simp only [impl_Read_b0]; rw [if_neg (by decide)]) (by have : 9223372036854775808 ≤ k := hk; omega)
    rw [e0, some_bind]
theorem spec_readD_eq {k : Nat} (hk : Big k) {d : TDisk} {M : Nat} (h : smD M d) (hM : M ≤ 2097152) (n : Int) : spec_Read k d n = some (readD d n) := by
  obtain ⟨o, e, hQ⟩ := read_loop hk h hM n
  have hl := h.1
  rw [spec_Read, ← spec_read_body h hM, e, some_bind]
  match o, hQ with
  | .ret r, hr => rw [readD, hr]
  | .out i, hr =>
    simp only [some_bind, spec_in_eq]
    rw [w64 (n := (d.Cells.length : Int) - 1) (by omega) (by omega), readD, hr, readC]
    by_cases hin : 0 ≤ n ∧ n < (d.Cells.length : Int)
    · have e1 : decide (0 ≤ n ∧ n ≤ (d.Cells.length : Int) - 1) = true := by simp; omega
      obtain ⟨hlt, eg⟩ := gt_eq hin.1 hin.2
      have hbl : (gt d.Cells n).B.length ≤ 2097152 := by rw [eg]; have := h.2.1 _ (List.getElem_mem hlt); omega
      have hok : okLen (List.length (gt d.Cells n).B) = true := okLen_iff.2 (by omega)
      simp only [e1, Bool.not_true, Bool.false_eq_true, if_false, if_pos hin, if_true, some_bind, List.nil_append, List.length_nil, Nat.zero_add, hok]
      cases hbad : (gt d.Cells n).Bad
      · by_cases hz : (gt d.Cells n).B = []
        · simp [hz]
        · simp [hin, hz]
      · simp
    · have e1 : decide (0 ≤ n ∧ n ≤ (d.Cells.length : Int) - 1) = false := by simp; omega
      simp only [e1, Bool.not_false, if_true, some_bind]
      rw [if_neg fun hh => hin hh.1]
def bytesD (d : TDisk) : Prop := (∀ c ∈ d.Cells, ∀ x ∈ c.B, wfU8 x) ∧ ∀ w ∈ d.Wet, ∀ x ∈ w.B, wfU8 x
theorem readW_wf {ws : List TWet} {n : Int} {r : List Int × Bool} (h : ∀ w ∈ ws, ∀ x ∈ w.B, wfU8 x) (hr : ∀ x ∈ r.1, wfU8 x) : ∀ x ∈ (readW ws n r).1, wfU8 x := by
  induction ws generalizing r with
  | nil => exact hr
  | cons w ws ih =>
    rw [readW, List.foldl_cons]
    refine ih (fun y hy => h y (by simp [hy])) ?_
    split
    · exact h w (by simp)
    · exact hr
theorem readC_wf {l : List TCell} (h : ∀ c ∈ l, ∀ x ∈ c.B, wfU8 x) (n : Int) : ∀ x ∈ (readC l n).1, wfU8 x := by
  unfold readC
  split
  · rename_i hc
    obtain ⟨hlt, eg⟩ := gt_eq hc.1.1 hc.1.2
    rw [eg]; exact h _ (List.getElem_mem hlt)
  · simp
theorem readD_wf {d : TDisk} (h : bytesD d) (n : Int) : ∀ x ∈ (readD d n).1, wfU8 x := readW_wf h.2 (readC_wf h.1 n)

theorem okDisk.crash {m : Nat} {d : TDisk} (h : okDisk m d) (hw : List Int) (f : Int) : okDisk m (crashD d hw f) := by
  obtain ⟨h1, h2, h3, h4⟩ := h
  refine ⟨by have := crashC_len (d.Wet.zip hw) d.Cells; simp only [crashD]; omega, fun y hy => ?_, by simp [crashD], by simp [crashD]⟩
  rcases crashC_mem (d.Wet.zip hw) d.Cells y hy with h | rfl | rfl | ⟨w, hw, rfl⟩
  · exact h2 y h
  · simp [noCell]
  · simp
  · have hm := (List.of_mem_zip hw).1
    exact ⟨by have := (h4 _ hm).2.1; simp only; omega, (h4 _ hm).2.2⟩
theorem okDisk.bytes {m : Nat} {d : TDisk} (h : okDisk m d) : bytesD d := ⟨fun c hc => (h.2.1 c hc).2, fun w hw => (h.2.2.2 w hw).2.2⟩

def goodTs (l : List TTx) : Prop := (∀ t ∈ l, goodT t) ∧ ∀ (i : Nat) (h : i < l.length), l[i].Seq = 5 + (i : Int)
theorem goodT.sm {t : TTx} (h : goodT t) : smTx t := ⟨by have := h.2.2.2.1; omega, fun c hc => by have := (h.2.2.2.2.1 c hc).1.1; omega⟩
theorem goodT.uniq {t : TTx} (h : goodT t) : ∀ c ∈ t.Puts, ∀ c' ∈ t.Puts, c.Page = c'.Page → c = c' := by
  intro c hc c' hc' e
  obtain ⟨i, hi, rfl⟩ := List.getElem_of_mem hc
  obtain ⟨j, hj, rfl⟩ := List.getElem_of_mem hc'
  have hp := List.pairwise_iff_getElem.1 h.2.2.2.2.2
  rcases Nat.lt_trichotomy i j with h1 | h1 | h1
  · have := hp i j hi hj h1; omega
  · subst h1; rfl
  · have := hp j i hj hi h1; omega
theorem l20txs_dr {k : Nat} (hk : Big k) {b : List Int} {i h : Int} (hi : okI b i) (hl : b.length ≤ 1048576) {n : Int} (hn0 : 0 ≤ n) (hn : n ≤ 40) : Dr b (spec_l20Txs k ⟨b, i, h⟩ n) (fun l => (l.length : Int) ≤ n ∧ goodTs l) := by
  rw [spec_l20Txs]
  refine Dr.bind (below_dr hi hl _) fun m i1 h1 o1 hm => ?_
  rw [w64 (n := n + 1) (by omega) (by omega)] at hm
  have hm0 := hm.1
  have hm1 := hm.2 (by omega)
  obtain ⟨o, e, hQ⟩ := loopM_ends (b := spec_l20Txs_b0 k ⟨b, i, h⟩) (fun s => 0 ≤ s.2.1 ∧ (s.1.length : Int) + s.2.1 ≤ n ∧ okI b s.2.2.1 ∧ goodTs s.1) (fun s => s.2.1.toNat) (fun o => ∃ l r i' h', o = .out (l, r, i', h') ∧ okI b i' ∧ (l.length : Int) ≤ n ∧ goodTs l) (fun s hs => by
      obtain ⟨l, r, i', h'⟩ := s
      obtain ⟨q0, q1, q2, q3⟩ := hs
      simp only at q0 q1 q2 q3
      simp only [spec_l20Txs_b0]
      by_cases hr : r > 0
      · obtain ⟨x, i2, h2, ex, o2, hx⟩ := l19draw_dr hk (h := h') q2 hl
        rw [if_pos (by simpa using hr), ex, some_bind, if_pos (okLen_iff.2 (by simp; omega)), w64 (n := r - 1) (by omega) (by omega), w64 (n := 5 + ((List.length l : Nat) : Int)) (by omega) (by omega)]
        refine ⟨_, rfl, ⟨by simp only; omega, by simp; omega, o2, fun t ht => ?_, fun j hj => ?_⟩, by simp only; omega⟩
        · simp only [List.mem_append, List.mem_cons, List.not_mem_nil, or_false] at ht
          rcases ht with ht | rfl
          · exact q3.1 t ht
          · exact ⟨by simp only; omega, hx.2⟩
        · simp only [List.length_append, List.length_cons, List.length_nil] at hj
          rw [List.getElem_append]
          split
          · rename_i hjl; exact q3.2 j hjl
          · have : j = l.length := by omega
            subst this
            simp
      · rw [if_neg (by simpa using hr)]
        exact ⟨_, rfl, _, _, _, _, rfl, q2, by omega, q3⟩) k (([] : List TTx), m, i1, h1) ⟨hm0, by simp; omega, o1, by simp, by simp⟩ (by have : 9223372036854775808 ≤ k := hk; simp only; omega)
  obtain ⟨l, r, i', h', rfl, p1, p2, p3⟩ := hQ
  refine Dr.pbind e ?_
  exact Dr.ret p1 ⟨p2, p3⟩
theorem endOf_wf (e : Int) (t : TTx) : ∀ x ∈ endOf e t, wfU8 x := by
  intro x hx
  unfold endOf endCell at hx
  split at hx
  · rcases List.mem_append.1 hx with h | h
    · exact put2_wf (put2_wf (fun z hz => by simp at hz; subst hz; constructor <;> omega)) x h
    · simp only [List.mem_cons, List.not_mem_nil, or_false] at h
      rcases h with rfl | rfl | rfl <;> exact m256_wf _
  · simp at hx
theorem txCells_wf (e : Int) (t : TTx) : ∀ c ∈ txCells e t, ∀ x ∈ c, wfU8 x := by
  intro c hc
  unfold txCells at hc
  split at hc
  · rcases List.mem_append.1 hc with h | h
    · obtain ⟨y, _, rfl⟩ := List.mem_map.1 h
      exact putCell_wf e y
    · simp only [List.mem_cons, List.not_mem_nil, or_false] at h
      subst h; exact endOf_wf e t
  · simp at hc
theorem okDisk.dAt {m : Nat} {d : TDisk} (h : okDisk m d) {s : Int} {cs : List (List Int)} (hw : ∀ c ∈ cs, ∀ x ∈ c, wfU8 x) : ∀ i, i ≤ cs.length → okDisk (m + i) (dAt d s cs i)
  | 0, _ => h
  | i + 1, hi => by
    rw [← Nat.add_assoc]
    exact (okDisk.dAt h hw i (by omega)).write (by rw [gt_nat (by omega)]; exact hw _ (List.getElem_mem _))
theorem okDisk.append {m : Nat} {d : TDisk} (h : okDisk m d) (s e : Int) (t : TTx) : okDisk (m + (txCells e t).length) (appendD d s e t).1 := by
  unfold appendD
  split
  · exact h.mono (by omega)
  · exact h.dAt (txCells_wf e t) _ (Nat.le_refl _)
theorem l20disk_ok {k : Nat} (hk : Big k) {b : List Int} {i h : Int} (hi : okI b i) (hl : b.length ≤ 1048576) {n : Int} (hn0 : 0 ≤ n) (hn : n ≤ 40) :
    ∃ d l i' h', spec_l20Disk k ⟨b, i, h⟩ n = some (d, l, ⟨b, i', h'⟩) ∧ okI b i' ∧ okDisk 64 d := by
  obtain ⟨l, i1, h1, e1, o1, hln, hg⟩ := l20txs_dr hk (h := h) hi hl hn0 hn
  have hnew : spec_DiskNew = some ⟨[], [], -1, false⟩ := rfl
  obtain ⟨o, e, hQ⟩ := loopM_ends (b := spec_l20Disk_b0 k ⟨b, i, h⟩ (l, ⟨b, i1, h1⟩)) (fun s => (0 ≤ s.2.1 ∧ s.2.1 ≤ l.length) ∧ okI b s.2.2.1 ∧ (0 ≤ s.1 ∧ s.1 ≤ 64) ∧ okDisk s.1.toNat ⟨s.2.2.2.2.1, s.2.2.2.2.2.1, s.2.2.2.2.2.2.1, s.2.2.2.2.2.2.2⟩) (fun s => ((l.length : Int) - s.2.1).toNat)
    (fun o => (∃ d l' i' h', o = .ret (d, l', ⟨b, i', h'⟩) ∧ okI b i' ∧ okDisk 64 d) ∨ ∃ s, o = .out s ∧ okI b s.2.2.1 ∧ okDisk 64 ⟨s.2.2.2.2.1, s.2.2.2.2.2.1, s.2.2.2.2.2.2.1, s.2.2.2.2.2.2.2⟩) (fun s hs => by
      obtain ⟨pos, j, i', h', cl, wl, fu, de⟩ := s
      obtain ⟨q0, q1, q2, q3⟩ := hs
      simp only at q0 q1 q2 q3
      simp only [spec_l20Disk_b0]
      by_cases hj : j < ((List.length l : Nat) : Int)
      · obtain ⟨hlt, eg⟩ := gt_eq q0.1 hj
        have hT := hg.1 _ (List.getElem_mem hlt)
        have h9 := hT.2.2.2.1
        have hcl := txCells_len 2 (gt l j)
        rw [eg] at hcl
        have ha := q3.append pos 2 (gt l j)
        have ea := spec_appendD_eq hk (d := ⟨cl, wl, fu, de⟩) (s := pos) (e := 2) (t := gt l j) (q3.sm.mono (by omega)) (by rw [eg]; exact hT.sm) ⟨by omega, by omega⟩
        rw [if_pos (by simpa using hj), if_pos ⟨q0.1, hj⟩, ea, some_bind]
        by_cases hneg : (appendD ⟨cl, wl, fu, de⟩ pos 2 (gt l j)).2 < 0
        · have h0 : (appendD ⟨cl, wl, fu, de⟩ pos 2 (gt l j)).1 = ⟨cl, wl, fu, de⟩ := by
            unfold appendD at hneg ⊢
            split
            · rfl
            · rename_i hc
              rw [if_neg hc] at hneg
              simp only at hneg
              omega
          rw [if_pos (by simpa using hneg), if_pos ⟨by omega, q0.1, by omega⟩, h0]
          exact ⟨_, rfl, .inl ⟨_, _, _, _, rfl, q1, q3.mono (by omega)⟩⟩
        · have hpos : (appendD ⟨cl, wl, fu, de⟩ pos 2 (gt l j)).2 = pos + ((txCells 2 (gt l j)).length : Int) ∧ pos + ((txCells 2 (gt l j)).length : Int) ≤ 64 := by
            unfold appendD at hneg ⊢
            split
            · rename_i hc; rw [if_pos hc] at hneg; simp at hneg
            · rename_i hc; exact ⟨rfl, by omega⟩
          have hm : okDisk (appendD ⟨cl, wl, fu, de⟩ pos 2 (gt l j)).2.toNat (appendD ⟨cl, wl, fu, de⟩ pos 2 (gt l j)).1 := ha.mono (by omega)
          generalize appendD ⟨cl, wl, fu, de⟩ pos 2 (gt l j) = a at hm hpos hneg
          obtain ⟨c, i2, h2, ec, o2, _⟩ := once_dr (h := h') q1 hl 3
          rw [if_neg (by simpa using hneg), ec, some_bind, w64 (n := j + 1) (by omega) (by omega)]
          cases c
          · rw [if_neg (by simp)]
            exact ⟨_, rfl, ⟨by simp only; omega, o2, by simp only; omega, hm⟩, by simp only; omega⟩
          · rw [if_pos rfl, spec_flushD_eq hk hm.sm (by omega), some_bind]
            exact ⟨_, rfl, ⟨by simp only; omega, o2, by simp only; omega, hm.flush⟩, by simp only; omega⟩
      · rw [if_neg (by simpa using hj)]
        exact ⟨_, rfl, .inr ⟨_, rfl, q1, q3.mono (by omega)⟩⟩) k (0, 0, i1, h1, ([] : List TCell), ([] : List TWet), -1, false) ⟨by simp only; omega, o1, by simp only; omega, by simp [okDisk]⟩ (by have : 9223372036854775808 ≤ k := hk; simp only; omega)
  rcases hQ with ⟨d, l', i', h', rfl, p1, p2⟩ | ⟨s, rfl, p1, p2⟩
  · refine ⟨d, l', i', h', ?_, p1, p2⟩
    rw [spec_l20Disk, hnew, some_bind, e1, some_bind]
    simp only [e, some_bind]
  · obtain ⟨pos, j, i', h', cl, wl, fu, de⟩ := s
    refine ⟨⟨cl, wl, fu, de⟩, l, i', h', ?_, p1, p2⟩
    rw [spec_l20Disk, hnew, some_bind, e1, some_bind]
    simp only [e, some_bind]

theorem gt_mem {α : Type} [Inhabited α] {l : List α} {i : Int} (h0 : 0 ≤ i) (h : i < (l.length : Int)) : gt l i ∈ l := by
  obtain ⟨hi, e⟩ := gt_eq h0 h
  rw [e]; exact List.getElem_mem hi
theorem or_bytes {a b : Int} (ha : 0 ≤ a) (ha2 : a ≤ 255) (hb : 0 ≤ b) (hb2 : b ≤ 255) : bits2 (· ||| ·) (wrap64 (a * 256)) b = 256 * a + b := by
  obtain ⟨x, rfl⟩ := Int.eq_ofNat_of_zero_le ha
  obtain ⟨y, rfl⟩ := Int.eq_ofNat_of_zero_le hb
  rw [w64 (by omega) (by omega)]
  unfold bits2
  have e1 : ((x : Int) * 256) = ((2 ^ 8 * x : Nat) : Int) := by omega
  rw [e1, BitVec.ofInt_natCast, BitVec.ofInt_natCast, BitVec.toNat_or, BitVec.toNat_ofNat, BitVec.toNat_ofNat, Nat.mod_eq_of_lt (by omega), Nat.mod_eq_of_lt (by omega), ← Nat.two_pow_add_eq_or_of_lt (by omega), w64 (by omega) (by omega)]
  omega
def get2 (l : List Int) (i : Int) : Int × Bool := if i < 0 ∨ i > (l.length : Int) - 2 then (0, false) else (256 * gt l i + gt l (i + 1), true)
theorem get2_facts {l : List Int} {i : Int} (hw : ∀ x ∈ l, wfU8 x) (hl : l.length ≤ 2097152) (h : ¬ (i < 0 ∨ i > (l.length : Int) - 2)) :
    wfU8 (gt l i) ∧ wfU8 (gt l (i + 1)) ∧ wrap64 (i + 1) = i + 1 ∧ (0 ≤ i ∧ i < (l.length : Int)) ∧ (0 ≤ i + 1 ∧ i + 1 < (l.length : Int)) := by
  refine ⟨hw _ (gt_mem (by omega) (by omega)), hw _ (gt_mem (by omega) (by omega)), w64 (by omega) (by omega), by omega, by omega⟩
theorem spec_get2_eq {l : List Int} {i : Int} (hw : ∀ x ∈ l, wfU8 x) (hl : l.length ≤ 2097152) : spec_Get2 l i = some (get2 l i) := by
  unfold spec_Get2 get2
  rw [w64 (n := (l.length : Int) - 2) (by omega) (by omega)]
  by_cases h : i < 0 ∨ i > (l.length : Int) - 2
  · simp [h]
  · obtain ⟨⟨a1, a2⟩, ⟨b1, b2⟩, e, h1, h2⟩ := get2_facts hw hl h
    rw [if_neg (by simpa using h), e, if_pos h1, if_pos h2, if_neg h]
    rw [i64w, i64w, w64 (n := gt l i) (by omega) (by omega), w64 (n := gt l (i + 1)) (by omega) (by omega), w64 (n := 256 * gt l i) (by omega) (by omega), w64 (by omega) (by omega)]
theorem impl_get2_eq {l : List Int} {i : Int} (hw : ∀ x ∈ l, wfU8 x) (hl : l.length ≤ 2097152) : impl_Get2 l i = some (get2 l i) := by
  unfold impl_Get2 get2
  rw [w64 (n := (l.length : Int) - 2) (by omega) (by omega)]
  by_cases h : i < 0 ∨ i > (l.length : Int) - 2
  · simp [h]
  · obtain ⟨⟨a1, a2⟩, ⟨b1, b2⟩, e, h1, h2⟩ := get2_facts hw hl h
    rw [if_neg (by simpa using h), e, if_pos h1, if_pos h2, if_neg h]
    rw [i64w, i64w, w64 (n := gt l i) (by omega) (by omega), w64 (n := gt l (i + 1)) (by omega) (by omega), sh8, or_bytes a1 a2 b1 b2]

theorem same_eq {k : Nat} (hk : Big k) {N : Nat} (hN : N ≤ 1114112) (p q : (List Int)) (h : (smL N (smT N)) p) : spec_l6Same k p q = some (decide (p = q)) := by
  rw [spec_l6Same]
  have hl := h.1
  by_cases he : p.length = q.length
  · rw [if_neg (by simp [he])]
    rw [loop_all (c := fun i => decide (p[i]? = q[i]?)) (n := p.length) (r := false) (by omega) hk]
    · by_cases hpq : p = q
      · subst hpq; simp
      · rw [if_neg, decide_eq_false hpq]
        · rfl
        · intro hh
          exact hpq (List.ext_getElem? fun i => by
            by_cases hi : i < p.length
            · simpa using hh i hi
            · rw [List.getElem?_eq_none (by omega), List.getElem?_eq_none (by omega)])
    · intro i hi
      have c1 : decide ((i : Int) < ((List.length p : Nat) : Int)) = true := by simp; omega
      have c2 : (0 : Int) ≤ (i : Int) ∧ (i : Int) < ((List.length p : Nat) : Int) := by omega
      have c3 : (0 : Int) ≤ (i : Int) ∧ (i : Int) < ((List.length q : Nat) : Int) := by omega
      have hq : i < q.length := by omega
      simp only [spec_l6Same_b0, if_pos c1, if_pos c2, if_pos c3, gt_nat hi, gt_nat hq, w64s (n := i) (by omega), List.getElem?_eq_getElem hi, List.getElem?_eq_getElem hq, Option.some.injEq]
      by_cases hv : p[i] = q[i] <;> simp [hv]
    · have c1 : ¬ decide (((List.length p : Nat) : Int) < ((List.length p : Nat) : Int)) = true := by simp
      simp only [spec_l6Same_b0, if_neg c1]
  · rw [if_pos (by simp; omega), decide_eq_false]
    rintro rfl; exact he rfl

theorem getEntry_both {b : List Int} (hw : ∀ x ∈ b, wfU8 x) (hl : b.length ≤ 2097152) (i : Int) : ∃ r, spec_GetEntry b i = some r ∧ impl_GetEntry b i = some r := by
  rw [spec_GetEntry, impl_GetEntry, spec_get2_eq hw hl, impl_get2_eq hw hl]
  simp only [some_bind, spec_boxOk_eq, impl_boxOk_eq]
  rw [w64 (n := ((List.length b : Nat) : Int) - 6) (by omega) (by omega)]
  by_cases h : i < 0 ∨ i > ((List.length b : Nat) : Int) - 6
  · rw [if_pos (by simpa using h)]; exact ⟨_, rfl, rfl⟩
  · rw [if_neg (by simpa using h), w64 (n := i + 2) (by omega) (by omega), w64 (n := i + 3) (by omega) (by omega), w64 (n := i + 4) (by omega) (by omega), w64 (n := i + 5) (by omega) (by omega)]
    rw [if_pos (by omega), if_pos (by omega), if_pos (by omega), if_pos (by omega)]
    split <;> exact ⟨_, rfl, rfl⟩
def badNode : TNode × Bool := (⟨false, []⟩, false)
theorem getNode_both {k : Nat} (hk : Big k) {b : List Int} (hw : ∀ x ∈ b, wfU8 x) (hl : b.length ≤ 2097152) : ∃ r, spec_GetNode k b = some r ∧ impl_GetNode k b = some r ∧ r.1.L.length ≤ 4 ∧ (r.2 = true → nodeOk r.1 = true ∧ putNode r.1 = b) := by
  rw [spec_GetNode, impl_GetNode]
  by_cases h25 : b.length = 25
  · have hb0 := hw _ (gt_mem (l := b) (i := 0) (by omega) (by omega))
    obtain ⟨q1, q2⟩ := hb0
    have e1 : Int.tmod (IntKind.i64.wrap (gt b 0)) 16 = gt b 0 % 16 := by rw [i64w, w64 (by omega) (by omega), tmod_pos q1]
    have e2 : IntKind.i64.wrap (Int.tmod (gt b 0) 16) = gt b 0 % 16 := by rw [tmod_pos q1, i64w, w64 (by omega) (by omega)]
    have c25 : (!decide (((List.length b : Nat) : Int) = 25)) = false := by simp; omega
    have c0 : (0 : Int) ≤ 0 ∧ (0 : Int) < ((List.length b : Nat) : Int) := by omega
    simp only [c25, Bool.false_eq_true, if_false, if_pos c0]
    -- what stands behind the loops
    have tail : ∀ l : List TEntry, l.length ≤ 4 → ∃ r, ((spec_PutNode k (⟨(decide ((gt b 0) ≥ 16)), l⟩ : TNode)).bind fun t41 => ((spec_l6Same k t41 b).bind fun t45 => (if (!t45) = true then some ((⟨false, ([] : (List TEntry))⟩ : TNode), false) else some ((⟨(decide ((gt b 0) ≥ 16)), l⟩ : TNode), true)))) = some r ∧
        ((impl_NodeOk k (⟨(decide ((gt b 0) ≥ 16)), l⟩ : TNode)).bind fun t38 => (((if (!t38) = true then some true else ((impl_PutNode k (⟨(decide ((gt b 0) ≥ 16)), l⟩ : TNode)).bind fun t41 => ((bytes_Equal t41 b).bind fun t45 => some (!t45))))).bind fun c47 => (if c47 = true then some ((⟨false, ([] : (List TEntry))⟩ : TNode), false) else some ((⟨(decide ((gt b 0) ≥ 16)), l⟩ : TNode), true)))) = some r ∧
        r = (if putNode ⟨(decide ((gt b 0) ≥ 16)), l⟩ = b then ((⟨(decide ((gt b 0) ≥ 16)), l⟩ : TNode), true) else badNode) ∧ r.1.L.length ≤ 4 ∧ (r.2 = true → nodeOk r.1 = true ∧ putNode r.1 = b) := by
      intro l hl4
      generalize hn : (⟨(decide ((gt b 0) ≥ 16)), l⟩ : TNode) = n
      have hnl : n.L.length ≤ 4 := by rw [← hn]; exact hl4
      have hpl := putNode_len n
      rw [spec_putNode_eq hk (by omega), impl_nodeOk_eq hk (by omega), impl_putNode_eq hk (by omega)]
      simp only [some_bind, same_eq hk (N := 1114112) (Nat.le_refl _) (putNode n) b ⟨by omega, fun _ _ => trivial⟩, bytes_Equal, str_eq (putNode_wf n) hw]
      by_cases hok : nodeOk n = true
      · by_cases he : putNode n = b
        · exact ⟨(n, true), by simp [he], by simp [hok, he], by rw [if_pos he], hnl, fun _ => ⟨hok, he⟩⟩
        · exact ⟨badNode, by simp [he, badNode], by simp [hok, he, badNode], by rw [if_neg he], by simp [badNode], fun hh => by simp [badNode] at hh⟩
      · have he : ¬ putNode n = b := fun he => by rw [putNode_nil hok] at he; rw [← he] at h25; simp at h25
        exact ⟨badNode, by simp [he, badNode], by simp [hok, badNode], by rw [if_neg he], by simp [badNode], fun hh => by simp [badNode] at hh⟩
    by_cases hk4 : gt b 0 % 16 ≤ 4
    · obtain ⟨o, f1, f2, hQ⟩ := loopM_both (b := spec_GetNode_b0 b) (c := impl_GetNode_b0 b) (fun s => 0 ≤ s.1 ∧ s.1 ≤ gt b 0 % 16 ∧ (s.2.length : Int) = s.1) (fun s => (4 - s.1).toNat) (fun o => o = .ret badNode ∨ ∃ i l, o = .out (i, l) ∧ l.length ≤ 4) (fun s hs => by
        obtain ⟨i, l⟩ := s
        simp only at hs
        have e3 : (if 4 < gt b 0 % 16 then 4 else gt b 0 % 16) = gt b 0 % 16 := by rw [if_neg (by omega)]
        simp only [spec_GetNode_b0, impl_GetNode_b0, e1, e2, e3]
        by_cases hi : i < gt b 0 % 16
        · rw [if_pos (by simp; omega), if_pos (by simpa using hi)]
          obtain ⟨r, r1, r2⟩ := getEntry_both hw hl (wrap64 (1 + wrap64 (6 * i)))
          simp only [r1, r2, some_bind]
          cases r.2
          · exact ⟨_, rfl, rfl, .inl rfl⟩
          · rw [if_neg (by simp), if_pos (okLen_iff.2 (by simp; omega))]
            refine ⟨_, rfl, rfl, ⟨?_, ?_, ?_⟩, ?_⟩
            · simp only; rw [w64 (by omega) (by omega)]; omega
            · simp only; rw [w64 (by omega) (by omega)]; omega
            · simp only [List.length_append, List.length_cons, List.length_nil]; rw [w64 (by omega) (by omega)]; omega
            · simp only; rw [w64 (by omega) (by omega)]; omega
        · rw [if_neg (by simp; omega), if_neg (by simpa using hi)]
          exact ⟨_, rfl, rfl, .inr ⟨_, _, rfl, by omega⟩⟩) k (0, []) ⟨by simp, by simp; omega, by simp⟩ (by have : 9223372036854775808 ≤ k := hk; simp; omega)
      rw [f1, f2, some_bind, some_bind]
      rcases hQ with rfl | ⟨i, l, rfl, hll⟩
      · exact ⟨badNode, rfl, rfl, by simp [badNode], fun hh => by simp [badNode] at hh⟩
      · obtain ⟨r, t1, t2, _, t3, t4⟩ := tail l hll
        exact ⟨r, t1, t2, t3, t4⟩
    · have f1 : loopM (spec_GetNode_b0 b) k (0, []) = some (.out (0, [])) :=
        loopM_run0 (b := spec_GetNode_b0 b) (fun _ => (0, [])) 0 (fun t h => by cases h) (fun j hj => by omega) (by simp only [spec_GetNode_b0, e1]; rw [if_neg (by simp; omega)]) (by have : 9223372036854775808 ≤ k := hk; omega)
      obtain ⟨r, t1, _, t0, _, _⟩ := tail [] (by simp)
      have hno : ∀ l : List TEntry, l.length ≤ 4 → (l = [] ∨ l.length = 4) → putNode ⟨decide (gt b 0 ≥ 16), l⟩ ≠ b := by
        intro l hl4 hl2 he
        by_cases hok : nodeOk ⟨decide (gt b 0 ≥ 16), l⟩ = true
        · have := putNode_first hok
          rw [he] at this
          rcases hl2 with h | h
          · simp only [h, List.length_nil] at this
            split at this <;> omega
          · simp only [h] at this
            split at this <;> omega
        · rw [putNode_nil hok] at he; rw [← he] at h25; simp at h25
      rw [if_neg (hno [] (by simp) (.inl rfl))] at t0
      subst t0
      obtain ⟨o, f2, hQ⟩ := loopM_ends (b := impl_GetNode_b0 b) (fun s => 0 ≤ s.1 ∧ s.1 ≤ 4 ∧ (s.2.length : Int) = s.1) (fun s => (4 - s.1).toNat) (fun o => o = .ret badNode ∨ ∃ i l, o = .out (i, l) ∧ l.length = 4) (fun s hs => by
        obtain ⟨i, l⟩ := s
        simp only at hs
        have e3 : (if 4 < gt b 0 % 16 then 4 else gt b 0 % 16) = 4 := by rw [if_pos (by omega)]
        simp only [impl_GetNode_b0, e2, e3]
        by_cases hi : i < 4
        · rw [if_pos (by simpa using hi)]
          obtain ⟨r, _, r2⟩ := getEntry_both hw hl (wrap64 (1 + wrap64 (6 * i)))
          rw [r2, some_bind]
          cases r.2
          · exact ⟨_, rfl, .inl rfl⟩
          · rw [if_neg (by simp), if_pos (okLen_iff.2 (by simp; omega))]
            refine ⟨_, rfl, ⟨?_, ?_, ?_⟩, ?_⟩
            · simp only; rw [w64 (by omega) (by omega)]; omega
            · simp only; rw [w64 (by omega) (by omega)]; omega
            · simp only [List.length_append, List.length_cons, List.length_nil]; rw [w64 (by omega) (by omega)]; omega
            · simp only; rw [w64 (by omega) (by omega)]; omega
        · rw [if_neg (by simpa using hi)]
          exact ⟨_, rfl, .inr ⟨_, _, rfl, by omega⟩⟩) k (0, []) ⟨by simp, by simp, by simp⟩ (by have : 9223372036854775808 ≤ k := hk; simp; omega)
      rw [f1, f2, some_bind, some_bind]
      refine ⟨badNode, t1, ?_, by simp [badNode], fun hh => by simp [badNode] at hh⟩
      rcases hQ with rfl | ⟨i, l, rfl, hll⟩
      · rfl
      · obtain ⟨r, _, t2, t0, _, _⟩ := tail l (by omega)
        rw [if_neg (hno l (by omega) (.inr hll))] at t0
        subst t0
        exact t2
  · have c25 : (!decide (((List.length b : Nat) : Int) = 25)) = true := by simp; omega
    simp only [c25, if_true]
    exact ⟨badNode, rfl, rfl, by simp [badNode], fun hh => by simp [badNode] at hh⟩

theorem slc_wf {l : List Int} (hw : ∀ x ∈ l, wfU8 x) {a b : Int} : ∀ x ∈ slc l a b, wfU8 x := fun x hx => hw x (List.mem_of_mem_drop (List.mem_of_mem_take hx))
theorem getPut_full {k : Nat} (hk : Big k) {e : Int} {b : List Int} (hw : ∀ x ∈ b, wfU8 x) (hl : b.length ≤ 2097152) : ∃ r, spec_GetPut k e b = some r ∧ impl_GetPut k e b = some r ∧ r.1.N.L.length ≤ 4 ∧ (r.2 = true → putCell e r.1 ≠ [] ∧ pad (putCell e r.1) 32 = b) := by
  rw [spec_GetPut, impl_GetPut]
  by_cases h32 : b.length = 32
  · have c32 : (!decide (((List.length b : Nat) : Int) = 32)) = false := by simp; omega
    have c4 : (0 : Int) ≤ 4 ∧ (4 : Int) ≤ 29 ∧ (29 : Int) ≤ ((List.length b : Nat) : Int) := by omega
    have c3 : (0 : Int) ≤ 3 ∧ (3 : Int) < ((List.length b : Nat) : Int) := by omega
    simp only [c32, Bool.false_eq_true, if_false, if_pos c4, if_pos c3]
    obtain ⟨r, r1, r2, r3, r4⟩ := getNode_both hk (slc_wf hw (a := 4) (b := 29)) (by rw [slc_len (by omega)]; simp)
    simp only [r1, r2, some_bind]
    generalize hx : (⟨IntKind.i64.wrap (gt b 3), r.1⟩ : TChange) = x
    have hxl : x.N.L.length ≤ 4 := by rw [← hx]; exact r3
    have hcl := putCell_len e x
    simp only [spec_putCell_eq hk (e := e) (x := x) (by omega), impl_putCell_eq hk (e := e) (x := x) (by omega), some_bind, spec_pad_eq hk (l := putCell e x) (n := 32) (by omega), impl_pad_eq hk (l := putCell e x) (n := 32) (by omega)]
    have hpl : (pad (putCell e x) 32).length = 32 := pad_len (by omega) (by omega)
    simp only [same_eq hk (N := 1114112) (Nat.le_refl _) (pad (putCell e x) 32) b ⟨by omega, fun _ _ => trivial⟩, bytes_Equal, str_eq (pad_wf (putCell_wf e x)) hw, some_bind]
    cases h2 : r.2
    · exact ⟨(⟨0, ⟨false, []⟩⟩, false), by simp, by simp, by simp, fun h => by cases h⟩
    · obtain ⟨hok, hp⟩ := r4 h2
      by_cases he : pad (putCell e x) 32 = b
      · have hne : ¬ putCell e x = [] := by
          intro h0
          rw [h0] at he
          have hz : b = List.replicate 32 0 := by rw [← he]; rfl
          have h1 := putNode_first hok
          rw [hp, hz] at h1
          have h4 := (nodeOk_facts hok).1
          have h5 := (nodeOk_facts hok).2.2
          have h6 : gt (slc (List.replicate 32 (0 : Int)) 4 29) 0 = 0 := rfl
          rw [h6] at h1
          cases hL : r.1.Leaf
          · have := h5 hL
            simp only [hL, Bool.false_eq_true, if_false] at h1
            omega
          · simp only [hL, if_true] at h1
            omega
        exact ⟨(x, true), by simp [he], by simp [he, hne], hxl, fun _ => ⟨hne, he⟩⟩
      · by_cases h0 : putCell e x = []
        · exact ⟨(⟨0, ⟨false, []⟩⟩, false), by simp [he], by simp [h0], by simp, fun h => by cases h⟩
        · exact ⟨(⟨0, ⟨false, []⟩⟩, false), by simp [he], by simp [he, h0], by simp, fun h => by cases h⟩
  · have c32 : (!decide (((List.length b : Nat) : Int) = 32)) = true := by simp; omega
    simp only [c32, if_true]
    exact ⟨_, rfl, rfl, by simp, fun h => by cases h⟩
theorem getPut_both {k : Nat} (hk : Big k) {e : Int} {b : List Int} (hw : ∀ x ∈ b, wfU8 x) (hl : b.length ≤ 2097152) : ∃ r, spec_GetPut k e b = some r ∧ impl_GetPut k e b = some r ∧ r.1.N.L.length ≤ 4 := by
  obtain ⟨r, r1, r2, r3, _⟩ := getPut_full hk hw hl (e := e)
  exact ⟨r, r1, r2, r3⟩

theorem endCell_len8 (e : Int) (t : TTx) (n : Int) : (endCell e t n).length ≤ 8 := by
  have h2 := put2_len [2] e
  have h1 := put2_len (put2 [2] e) t.Seq
  simp only [endCell, List.length_append, List.length_cons, List.length_nil] at *; omega
def endTx (b : List Int) : TTx := ⟨256 * gt b 3 + gt b 4, gt b 5, gt b 6, []⟩
def endOk (e : Int) (b : List Int) : Prop := b.length = 32 ∧ gt b 0 = 2 ∧ 256 * gt b 1 + gt b 2 = e ∧ (∀ i, i < 24 → gt b (8 + (i : Nat)) = 0) ∧ numsOk (endTx b) = true ∧ gt b 7 ≤ gt b 6
theorem txOk_nil {t : TTx} (h : t.Puts = []) : txOk t = numsOk t := by simp [txOk, h, firstN_zero]
theorem endCell_eq {e : Int} {b : List Int} (hw : ∀ x ∈ b, wfU8 x) (hl : b.length = 32) (he : 0 ≤ e ∧ e ≤ 65535) :
    pad (endCell e (endTx b) (gt b 7)) 32 = b ↔ gt b 0 = 2 ∧ 256 * gt b 1 + gt b 2 = e ∧ (∀ i, i < 24 → gt b (8 + (i : Nat)) = 0) := by
  rcases b with _ | ⟨b0, b⟩; · simp at hl
  rcases b with _ | ⟨b1, b⟩; · simp at hl
  rcases b with _ | ⟨b2, b⟩; · simp at hl
  rcases b with _ | ⟨b3, b⟩; · simp at hl
  rcases b with _ | ⟨b4, b⟩; · simp at hl
  rcases b with _ | ⟨b5, b⟩; · simp at hl
  rcases b with _ | ⟨b6, b⟩; · simp at hl
  rcases b with _ | ⟨b7, b⟩; · simp at hl
  have hr : b.length = 24 := by simpa using hl
  have w1 : wfU8 b1 := hw _ (by simp)
  have w2 : wfU8 b2 := hw _ (by simp)
  have w3 : wfU8 b3 := hw _ (by simp)
  have w4 : wfU8 b4 := hw _ (by simp)
  have w5 : wfU8 b5 := hw _ (by simp)
  have w6 : wfU8 b6 := hw _ (by simp)
  have w7 : wfU8 b7 := hw _ (by simp)
  simp only [wfU8] at w1 w2 w3 w4 w5 w6 w7
  have g0 : gt (b0 :: b1 :: b2 :: b3 :: b4 :: b5 :: b6 :: b7 :: b) 0 = b0 := rfl
  have g1 : gt (b0 :: b1 :: b2 :: b3 :: b4 :: b5 :: b6 :: b7 :: b) 1 = b1 := rfl
  have g2 : gt (b0 :: b1 :: b2 :: b3 :: b4 :: b5 :: b6 :: b7 :: b) 2 = b2 := rfl
  have g3 : gt (b0 :: b1 :: b2 :: b3 :: b4 :: b5 :: b6 :: b7 :: b) 3 = b3 := rfl
  have g4 : gt (b0 :: b1 :: b2 :: b3 :: b4 :: b5 :: b6 :: b7 :: b) 4 = b4 := rfl
  have g5 : gt (b0 :: b1 :: b2 :: b3 :: b4 :: b5 :: b6 :: b7 :: b) 5 = b5 := rfl
  have g6 : gt (b0 :: b1 :: b2 :: b3 :: b4 :: b5 :: b6 :: b7 :: b) 6 = b6 := rfl
  have g7 : gt (b0 :: b1 :: b2 :: b3 :: b4 :: b5 :: b6 :: b7 :: b) 7 = b7 := rfl
  have g8 : ∀ i, i < 24 → gt (b0 :: b1 :: b2 :: b3 :: b4 :: b5 :: b6 :: b7 :: b) (8 + (i : Nat)) = gt b (i : Int) := by
    intro i _
    have : (8 + (i : Int)).toNat = i + 8 := by omega
    simp only [gt, this, Int.toNat_natCast]
    rfl
  have hz : (∀ i, i < 24 → gt (b0 :: b1 :: b2 :: b3 :: b4 :: b5 :: b6 :: b7 :: b) (8 + (i : Nat)) = 0) ↔ b = List.replicate 24 0 := by
    rw [List.eq_replicate_iff]
    constructor
    · refine fun h => ⟨hr, fun x hx => ?_⟩
      obtain ⟨i, hi, rfl⟩ := List.getElem_of_mem hx
      have := h i (by omega)
      rw [g8 i (by omega), gt_nat hi] at this; exact this
    · rintro ⟨_, h⟩ i hi
      rw [g8 i hi, gt_nat (by omega)]; exact h _ (List.getElem_mem _)
  rw [hz, g0, g1, g2, g7]
  have e1 : put2 [2] e = [2, e / 256, e % 256] := by rw [put2, if_pos he]; rfl
  have e2 : put2 [2, e / 256, e % 256] (256 * b3 + b4) = [2, e / 256, e % 256, b3, b4] := by
    rw [put2, if_pos (by omega)]
    have q1 : (256 * b3 + b4) / 256 = b3 := by omega
    have q2 : (256 * b3 + b4) % 256 = b4 := by omega
    rw [q1, q2]; rfl
  have e3 : endCell e (endTx (b0 :: b1 :: b2 :: b3 :: b4 :: b5 :: b6 :: b7 :: b)) b7 = [2, e / 256, e % 256, b3, b4, b5, b6, b7] := by
    simp only [endCell, endTx, g3, g4, g5, g6, e1, e2]
    have q5 : b5 % 256 = b5 := by omega
    have q6 : b6 % 256 = b6 := by omega
    have q7 : b7 % 256 = b7 := by omega
    rw [q5, q6, q7]; rfl
  rw [e3, pad, if_pos (by omega)]
  have e4 : (32 : Int).toNat - ([2, e / 256, e % 256, b3, b4, b5, b6, b7] : List Int).length = 24 := rfl
  rw [e4]
  simp only [List.cons_append, List.nil_append, List.cons.injEq, true_and]
  constructor
  · rintro ⟨h0, h1, h2, h3⟩
    exact ⟨h0.symm, by omega, h3.symm⟩
  · rintro ⟨h0, h1, h3⟩
    exact ⟨h0.symm, by omega, by omega, h3.symm⟩
theorem byte_gt {b : List Int} (hw : ∀ x ∈ b, wfU8 x) {i : Int} (h0 : 0 ≤ i) (h : i < (b.length : Int)) : 0 ≤ gt b i ∧ gt b i ≤ 255 := hw _ (gt_mem h0 h)
theorem spec_getEnd_eq {k : Nat} (hk : Big k) {e : Int} {b : List Int} (hw : ∀ x ∈ b, wfU8 x) (hl : b.length ≤ 2097152) [Decidable (endOk e b)] :
    spec_GetEnd k e b = some (if endOk e b then (endTx b, gt b 7, true) else (⟨0, 0, 0, []⟩, 0, false)) := by
  rw [spec_GetEnd]
  by_cases h : b.length = 32
  · rw [if_neg (by simp; omega), if_pos (by omega), some_bind]
    by_cases h2 : gt b 0 = 2
    · have b5 := byte_gt hw (i := 5) (by omega) (by omega)
      have b6 := byte_gt hw (i := 6) (by omega) (by omega)
      have b7 := byte_gt hw (i := 7) (by omega) (by omega)
      rw [if_neg (by simp [h2]), spec_get2_eq hw hl, some_bind, spec_get2_eq hw hl, some_bind, if_pos (by omega), if_pos (by omega)]
      have hg1 : get2 b 1 = (256 * gt b 1 + gt b 2, true) := by rw [get2, if_neg (by omega)]; rfl
      have hg3 : get2 b 3 = (256 * gt b 3 + gt b 4, true) := by rw [get2, if_neg (by omega)]; rfl
      have h3 := loop_first (b := spec_GetEnd_b0 b) (k := k) (n := 24) (fun i => 8 + (i : Int)) (fun i => !decide (gt b (8 + (i : Int)) = 0)) (fun i => .ret (⟨0, 0, 0, []⟩, 0, false)) (by omega) hk (fun i t h => by cases h)
        (fun i hi => by
          have c1 : decide (8 + (i : Int) < ((List.length b : Nat) : Int)) = true := by simp; omega
          have c2 : (0 : Int) ≤ 8 + (i : Int) ∧ 8 + (i : Int) < ((List.length b : Nat) : Int) := by omega
          have e1 : wrap64 (8 + (i : Int) + 1) = 8 + ((i + 1 : Nat) : Int) := by rw [w64 (by omega) (by omega)]; omega
          simp only [spec_GetEnd_b0, if_pos c1, if_pos c2, e1]
          exact some_ite _ _ _)
        (by simp only [spec_GetEnd_b0]; rw [if_neg (by simp; omega)])
      have h3' : loopM (spec_GetEnd_b0 b) k 8 = _ := h3
      rw [h3', some_bind, hg1, hg3]
      cases hf : firstN (fun i => !decide (gt b (8 + (i : Int)) = 0)) 24 with
      | none =>
        have hz : ∀ i, i < 24 → gt b (8 + (i : Nat)) = 0 := fun i hi => by simpa using firstN_none hf i hi
        have et : (⟨256 * gt b 3 + gt b 4, gt b 5, gt b 6, []⟩ : TTx) = endTx b := rfl
        have e5 : IntKind.i64.wrap (gt b 5) = gt b 5 := by rw [i64w, w64 (by omega) (by omega)]
        have hs : smTx (endTx b) := ⟨by simp [endTx], fun y hy => by simp [endTx] at hy⟩
        have c7 : (0 : Int) ≤ 7 ∧ (7 : Int) < ((List.length b : Nat) : Int) := by omega
        have e7 : IntKind.i64.wrap (gt b 7) = gt b 7 := by rw [i64w, w64 (by omega) (by omega)]
        have e6 : IntKind.i64.wrap (gt b 6) = gt b 6 := by rw [i64w, w64 (by omega) (by omega)]
        simp only [e5, e6, e7, et, spec_txOk_eq hk hs, some_bind, txOk_nil (t := endTx b) rfl, if_pos c7]
        have eq6 : decide (gt b 7 > gt b 6) = !decide (gt b 7 ≤ gt b 6) := by rw [not_dec]; exact decide_eq_decide.2 (by omega)
        rw [eq6]
        by_cases hE : endOk e b
        · rw [if_pos hE]
          obtain ⟨_, _, q1, _, q2, q3⟩ := hE
          simp [q1, q2, q3]
        · rw [if_neg hE]
          have hn : (decide (256 * gt b 1 + gt b 2 = e) && numsOk (endTx b) && decide (gt b 7 ≤ gt b 6)) = false := by
            rw [← Bool.not_eq_true]
            intro hh
            simp only [Bool.and_eq_true, decide_eq_true_eq] at hh
            exact hE ⟨h, h2, hh.1.1, hz, hh.1.2, hh.2⟩
          revert hn
          generalize decide (256 * gt b 1 + gt b 2 = e) = x
          generalize numsOk (endTx b) = y
          generalize decide (gt b 7 ≤ gt b 6) = z
          cases x <;> cases y <;> cases z <;> simp
      | some j =>
        have hj := firstN_some hf
        have hE : ¬ endOk e b := by
          rintro ⟨_, _, _, hz, _⟩
          have := hj.2.1
          simp [hz j hj.1] at this
        rw [if_neg hE]
    · rw [if_pos (by simp [h2]), if_neg]
      rintro ⟨_, h3, _⟩; exact h2 h3
  · rw [if_pos (by simp; omega), some_bind, if_pos rfl, if_neg]
    rintro ⟨h3, _⟩; exact h h3
theorem impl_getEnd_eq {k : Nat} (hk : Big k) {e : Int} {b : List Int} (hw : ∀ x ∈ b, wfU8 x) (hl : b.length ≤ 2097152) [Decidable (endOk e b)] :
    impl_GetEnd k e b = some (if endOk e b then (endTx b, gt b 7, true) else (⟨0, 0, 0, []⟩, 0, false)) := by
  rw [impl_GetEnd]
  by_cases h : b.length = 32
  · rw [if_neg (by simp; omega), impl_in_eq, some_bind, some_bind]
    have w1 := byte_gt hw (i := 1) (by omega) (by omega)
    have w2 := byte_gt hw (i := 2) (by omega) (by omega)
    by_cases he : 0 ≤ e ∧ e ≤ 65535
    · have b5 := byte_gt hw (i := 5) (by omega) (by omega)
      have b6 := byte_gt hw (i := 6) (by omega) (by omega)
      have b7 := byte_gt hw (i := 7) (by omega) (by omega)
      have hg3 : get2 b 3 = (256 * gt b 3 + gt b 4, true) := by rw [get2, if_neg (by omega)]; rfl
      rw [if_neg (by simp [he]), impl_get2_eq hw hl, some_bind, if_pos (by omega), if_pos (by omega), if_pos (by omega), hg3]
      have et : (⟨256 * gt b 3 + gt b 4, gt b 5, gt b 6, []⟩ : TTx) = endTx b := rfl
      have e5 : IntKind.i64.wrap (gt b 5) = gt b 5 := by rw [i64w, w64 (by omega) (by omega)]
      have e7 : IntKind.i64.wrap (gt b 7) = gt b 7 := by rw [i64w, w64 (by omega) (by omega)]
      have e6 : IntKind.i64.wrap (gt b 6) = gt b 6 := by rw [i64w, w64 (by omega) (by omega)]
      have hlen := endCell_len8 e (endTx b) (gt b 7)
      have hwe : ∀ x ∈ pad (endCell e (endTx b) (gt b 7)) 32, wfU8 x := by
        intro x hx
        have hp : ∀ (l : List Int) (y : Int), (∀ x ∈ l, wfU8 x) → ∀ x ∈ put2 l y, wfU8 x := by
          intro l y hl x hx
          unfold put2 at hx
          split at hx
          · simp only [List.mem_append, List.mem_cons, List.not_mem_nil, or_false] at hx
            rcases hx with h | h | h
            · exact hl x h
            · subst h; constructor <;> omega
            · subst h; constructor <;> omega
          · exact hl x hx
        unfold pad at hx
        rw [if_pos (by omega)] at hx
        rcases List.mem_append.1 hx with h1 | h1
        · unfold endCell at h1
          simp only [List.mem_append, List.mem_cons, List.not_mem_nil, or_false] at h1
          rcases h1 with h | h | h | h
          · refine hp _ _ (hp _ _ ?_) x h
            intro z hz; simp at hz; subst hz; constructor <;> omega
          · subst h; constructor <;> omega
          · subst h; constructor <;> omega
          · subst h; constructor <;> omega
        · rw [List.eq_of_mem_replicate h1]; constructor <;> omega
      simp only [e5, e6, e7, et, impl_numsOk_eq, some_bind, impl_endCell_eq, impl_pad_eq hk (l := endCell e (endTx b) (gt b 7)) (n := 32) (by omega), bytes_Equal, str_eq hwe hw]
      have hc := endCell_eq hw h he
      have eq6 : decide (gt b 7 > gt b 6) = !decide (gt b 7 ≤ gt b 6) := by rw [not_dec]; exact decide_eq_decide.2 (by omega)
      rw [eq6]
      by_cases h8 : pad (endCell e (endTx b) (gt b 7)) 32 = b
      · obtain ⟨q1, q2, q3⟩ := hc.1 h8
        cases h5 : numsOk (endTx b) <;> by_cases h7 : gt b 7 ≤ gt b 6 <;> simp [h5, h7, endOk, h, q1, q2, h8]
        all_goals exact q3
      · have h9 : ¬ endOk e b := fun hh => h8 (hc.2 ⟨hh.2.1, hh.2.2.1, hh.2.2.2.1⟩)
        rw [if_neg h9]
        cases h5 : numsOk (endTx b) <;> by_cases h7 : gt b 7 ≤ gt b 6 <;> simp [h7, h8]
    · rw [if_pos (by simp [he]), if_neg]
      rintro ⟨_, _, h3, _⟩; exact he (by omega)
  · rw [if_pos (by simp; omega), some_bind, if_pos rfl, if_neg]
    rintro ⟨h3, _⟩; exact h h3

theorem getEnd_same {k : Nat} (hk : Big k) {e : Int} {b : List Int} (hw : ∀ x ∈ b, wfU8 x) (hl : b.length ≤ 2097152) : ∃ r, spec_GetEnd k e b = some r ∧ impl_GetEnd k e b = some r := by
  have := Classical.propDecidable (endOk e b)
  exact ⟨_, spec_getEnd_eq hk hw hl, impl_getEnd_eq hk hw hl⟩
def logI (s : (List TChange) × Int × (List TTx) × Int) : Prop := (0 ≤ s.2.1 ∧ s.2.1 ≤ 64) ∧ ((s.1.length : Int) ≤ s.2.1 ∧ ∀ y ∈ s.1, y.N.L.length ≤ 4) ∧ ((s.2.2.1.length : Int) ≤ s.2.1 ∧ ∀ t ∈ s.2.2.1, t.Puts.length ≤ 64 ∧ ∀ y ∈ t.Puts, y.N.L.length ≤ 4)
theorem readLog_g {k : Nat} (hk : Big k) {d : TDisk} {e q : Int} (h : smD 1048576 d) (w : bytesD d) (w2 : wfI q) : ∃ g, spec_ReadLog k d e q = some g ∧ impl_ReadLog k d e q = some g ∧ g.1.length ≤ 64 ∧ ∀ t ∈ g.1, t.Puts.length ≤ 64 ∧ ∀ y ∈ t.Puts, y.N.L.length ≤ 4 := by
  obtain ⟨o, e1, e2, hQ⟩ := loopM_both (b := spec_ReadLog_b0 k d e q) (c := impl_ReadLog_b0 k d e q) logI (fun s => (64 - s.2.1).toNat) (fun o => ∃ s, o = .out s ∧ logI s) (fun s hs => by
      obtain ⟨puts, i, out, used⟩ := s
      have hs0 := hs
      obtain ⟨⟨i0, i1⟩, ⟨p1, p2⟩, o1, o2⟩ := hs
      simp only at i0 i1 p1 p2 o1 o2
      simp only [spec_ReadLog_b0, impl_ReadLog_b0]
      by_cases hi : i < 64
      · have ci : decide (i < 64) = true := by simpa using hi
        have r1 := spec_readD_eq hk h (by omega) (wrap64 (2 + i))
        have r2 := impl_readD_eq hk h (by omega) (wrap64 (2 + i))
        have r3 := readD_len h (wrap64 (2 + i))
        have r4 := readD_wf w (wrap64 (2 + i))
        generalize readD d (wrap64 (2 + i)) = r at r1 r2 r3 r4
        simp only [ci, if_true, r1, r2, some_bind]
        have ew : wrap64 (i + 1) = i + 1 := w64 (by omega) (by omega)
        cases hr : r.2
        · exact ⟨_, rfl, rfl, _, rfl, hs0⟩
        · obtain ⟨x, x1, x2, x3⟩ := getPut_both hk (e := e) r4 (by omega)
          obtain ⟨y, y1, y2⟩ := getEnd_same hk (e := e) r4 (by omega)
          simp only [Bool.not_true, Bool.false_eq_true, if_false, x1, x2, some_bind]
          cases hx : x.2
          · simp only [Bool.false_eq_true, if_false, y1, y2, some_bind]
            have hst : smTx (⟨y.1.Seq, y.1.Root, y.1.Size, puts⟩ : TTx) := ⟨by simp only; omega, fun z hz => by have := p2 z hz; omega⟩
            rw [spec_txOk_eq hk hst, impl_txOk_eq hk hst]
            simp only [some_bind]
            generalize txOk (⟨y.1.Seq, y.1.Root, y.1.Size, puts⟩ : TTx) = b1
            generalize decide (y.1.Seq = (wrap64 ((wrap64 (q + ((List.length out : Nat) : Int))) + 1))) = b2
            generalize decide (y.2.1 = ((List.length puts : Nat) : Int)) = b3
            generalize y.2.2 = b4
            have hok : okLen (List.length out + List.length ([(⟨y.1.Seq, y.1.Root, y.1.Size, puts⟩ : TTx)] : (List TTx))) = true := okLen_iff.2 (by simp; omega)
            simp only [hok, if_true, ew]
            have hnew : logI (([] : List TChange), i + 1, out ++ [(⟨y.1.Seq, y.1.Root, y.1.Size, puts⟩ : TTx)], i + 1) := by
              refine ⟨by simp only; omega, ⟨by simp; omega, by simp⟩, by simp; omega, fun t ht => ?_⟩
              simp only [List.mem_append, List.mem_cons, List.not_mem_nil, or_false] at ht
              rcases ht with ht | rfl
              · exact o2 t ht
              · exact ⟨by simp only; omega, p2⟩
            cases b1 <;> cases b2 <;> cases b3 <;> cases b4 <;> first
              | exact ⟨_, rfl, rfl, ⟨_, rfl, hs0⟩⟩
              | exact ⟨_, rfl, rfl, hnew, by simp only; omega⟩
          · have hok : okLen (List.length puts + List.length ([x.1] : (List TChange))) = true := okLen_iff.2 (by simp; omega)
            simp only [if_true, hok, ew]
            refine ⟨_, rfl, rfl, ⟨by simp only; omega, ⟨by simp; omega, fun z hz => ?_⟩, by simp only; omega, o2⟩, by simp only; omega⟩
            simp only [List.mem_append, List.mem_cons, List.not_mem_nil, or_false] at hz
            rcases hz with hz | rfl
            · exact p2 z hz
            · exact x3
      · have ci : decide (i < 64) = false := by simpa using hi
        simp only [ci, Bool.false_eq_true, if_false]
        exact ⟨_, rfl, rfl, _, rfl, hs0⟩) k (([] : List TChange), 0, ([] : List TTx), 0) ⟨by simp, by simp, by simp⟩ (by have : 9223372036854775808 ≤ k := hk; simp; omega)
  obtain ⟨s, rfl, hs⟩ := hQ
  obtain ⟨puts, i, out, used⟩ := s
  obtain ⟨⟨i0, i1⟩, _, o1, o2⟩ := hs
  simp only at i0 i1 o1 o2
  exact ⟨(out, used), by rw [spec_ReadLog, e1, some_bind], by rw [impl_ReadLog, e2, some_bind], by simp only; omega, o2⟩

theorem spec_copyNode_eq {p : TNode} (h : p.L.length ≤ 2097152) : spec_l5Copy p = some p := by
  rw [spec_l5Copy, if_pos (okLen_iff.2 (by simp; omega)), List.nil_append]
theorem impl_copyNode_eq {p : TNode} (h : p.L.length ≤ 2097152) : impl_copyNode p = some p := by
  rw [impl_copyNode, slices_Clone_impl_Entry_impl_Entry, if_pos (okLen_iff.2 (by omega)), some_bind]

def hasPage (t : TTx) (p : Int) : Bool := t.Puts.any fun c => decide (c.Page = p)
def chg (l : List TTx) (p : Int) : Bool := l.any fun t => hasPage t p
def smTxs (l : List TTx) : Prop := l.length ≤ 2097152 ∧ ∀ t ∈ l, t.Puts.length ≤ 2097152 ∧ ∀ y ∈ t.Puts, y.N.L.length ≤ 2097152
theorem any_up {α : Type} [Inhabited α] {l : List α} {c : α → Bool} : (List.range l.length).any (fun i => c (gt l (i : Int))) = l.any c := by
  rw [Bool.eq_iff_iff]
  simp only [List.any_eq_true, List.mem_range]
  constructor
  · rintro ⟨i, hi, h⟩
    rw [gt_nat hi] at h
    exact ⟨_, List.getElem_mem hi, h⟩
  · rintro ⟨x, hx, h⟩
    obtain ⟨i, hi, rfl⟩ := List.getElem_of_mem hx
    exact ⟨i, hi, by rw [gt_nat hi]; exact h⟩
theorem any_down {α : Type} [Inhabited α] {l : List α} {c : α → Bool} : (List.range l.length).any (fun i => c (gt l ((l.length : Int) - 1 - (i : Int)))) = l.any c := by
  rw [Bool.eq_iff_iff]
  simp only [List.any_eq_true, List.mem_range]
  constructor
  · rintro ⟨i, hi, h⟩
    have e : (l.length : Int) - 1 - (i : Int) = ((l.length - 1 - i : Nat) : Int) := by omega
    rw [e, gt_nat (by omega)] at h
    exact ⟨_, List.getElem_mem _, h⟩
  · rintro ⟨x, hx, h⟩
    obtain ⟨i, hi, rfl⟩ := List.getElem_of_mem hx
    refine ⟨l.length - 1 - i, by omega, ?_⟩
    have e : (l.length : Int) - 1 - ((l.length - 1 - i : Nat) : Int) = (i : Int) := by omega
    rw [e, gt_nat hi]; exact h
def LastIs (l : List TTx) (p : Int) (r : TNode × Bool) : Prop := (∃ (i : Nat) (hi : i < l.length), (∃ c ∈ l[i].Puts, c.Page = p ∧ r = (c.N, true)) ∧ ∀ (j : Nat) (hj : j < l.length), i < j → hasPage l[j] p = false) ∨ (chg l p = false ∧ r = (⟨false, []⟩, false))
theorem LastIs.uniq {l : List TTx} {p : Int} {r r' : TNode × Bool} (hu : ∀ t ∈ l, ∀ c ∈ t.Puts, ∀ c' ∈ t.Puts, c.Page = c'.Page → c = c') (h : LastIs l p r) (h' : LastIs l p r') : r = r' := by
  have hp : ∀ {i : Nat} {hi : i < l.length} {c : TChange}, c ∈ l[i].Puts → c.Page = p → hasPage l[i] p = true := fun {i hi c} h1 h2 => by
    simp only [hasPage, List.any_eq_true]; exact ⟨c, h1, by simpa using h2⟩
  have hc : ∀ {i : Nat} {hi : i < l.length} {c : TChange}, c ∈ l[i].Puts → c.Page = p → chg l p = true := fun {i hi c} h1 h2 => by
    simp only [chg, List.any_eq_true]; exact ⟨_, List.getElem_mem hi, hp h1 h2⟩
  rcases h with ⟨i, hi, ⟨c, c1, c2, rfl⟩, hj⟩ | ⟨h1, rfl⟩
  · rcases h' with ⟨i', hi', ⟨c', c1', c2', rfl⟩, hj'⟩ | ⟨h1', rfl⟩
    · have : i = i' := by
        rcases Nat.lt_trichotomy i i' with h | h | h
        · have := hj i' hi' h; rw [hp c1' c2'] at this; cases this
        · exact h
        · have := hj' i hi h; rw [hp c1 c2] at this; cases this
      subst this
      rw [hu _ (List.getElem_mem hi) c c1 c' c1' (by rw [c2, c2'])]
    · rw [hc c1 c2] at h1'; cases h1'
  · rcases h' with ⟨i', hi', ⟨c', c1', c2', rfl⟩, hj'⟩ | ⟨h1', rfl⟩
    · rw [hc c1' c2'] at h1; cases h1
    · rfl
theorem spec_lastOf {k : Nat} (hk : Big k) {l : List TTx} (h : smTxs l) (p : Int) : ∃ r, spec_LastOf k l p = some r ∧ r.2 = chg l p ∧ LastIs l p r := by
  have hl := h.1
  have inner : ∀ i : Int, 0 ≤ i ∧ i < (l.length : Int) → ∃ o, loopM (spec_LastOf_b3 l p i) k 0 = some o ∧ if hasPage (gt l i) p = true then ∃ c, o = .ret (c.N, true) ∧ c ∈ (gt l i).Puts ∧ c.Page = p else ∃ s, o = .out s := by
    intro i hi
    have hm : gt l i ∈ l := by obtain ⟨h1, e⟩ := gt_eq hi.1 hi.2; rw [e]; exact List.getElem_mem _
    have hp := (h.2 _ hm).1
    have e := loop_first (b := spec_LastOf_b3 l p i) (k := k) (n := (gt l i).Puts.length) (fun j => (j : Int)) (fun j => decide ((gt (gt l i).Puts (j : Int)).Page = p)) (fun j => .ret ((gt (gt l i).Puts (j : Int)).N, true)) (by omega) hk (fun i t h => by cases h)
      (fun j hj => by
        have c1 : decide ((j : Int) < ((List.length (gt l i).Puts : Nat) : Int)) = true := by simp; omega
        have c2 : (0 : Int) ≤ (j : Int) ∧ (j : Int) < ((List.length (gt l i).Puts : Nat) : Int) := by omega
        have hn : (gt (gt l i).Puts (j : Int)).N.L.length ≤ 2097152 := by rw [gt_nat hj]; exact (h.2 _ hm).2 _ (List.getElem_mem hj)
        simp only [spec_LastOf_b3, if_pos hi, if_pos c1, if_pos c2, spec_copyNode_eq hn, some_bind, w64s (n := j) (by omega)]
        exact some_ite _ _ _)
      (by simp only [spec_LastOf_b3, if_pos hi]; rw [if_neg (by simp)])
    refine ⟨_, e, ?_⟩
    have ea : hasPage (gt l i) p = (firstN (fun j => decide ((gt (gt l i).Puts (j : Int)).Page = p)) (gt l i).Puts.length).isSome := by
      rw [← firstN_any, hasPage, ← any_up]
    rw [ea]
    cases hf : firstN (fun j => decide ((gt (gt l i).Puts (j : Int)).Page = p)) (gt l i).Puts.length with
    | none => exact ⟨_, rfl⟩
    | some j =>
      obtain ⟨h1, h2, _⟩ := firstN_some hf
      refine ⟨_, rfl, ?_, by simpa using h2⟩
      rw [gt_nat h1]; exact List.getElem_mem h1
  have outer : ∃ o, loopM (spec_LastOf_b2 k l p) k ((l.length : Int) - 1) = some o ∧ ((∃ r, o = .ret r ∧ r.2 = true ∧ chg l p = true ∧ LastIs l p r) ∨ (∃ s, o = .out s ∧ chg l p = false)) := by
    obtain ⟨o, ho, hQ⟩ := loopM_ends (b := spec_LastOf_b2 k l p) (fun i => -1 ≤ i ∧ i < (l.length : Int) ∧ ∀ j : Nat, i < (j : Int) → (hj : j < l.length) → hasPage l[j] p = false) (fun i => (i + 1).toNat) (fun o => (∃ r, o = .ret r ∧ r.2 = true ∧ chg l p = true ∧ LastIs l p r) ∨ (∃ s, o = .out s ∧ chg l p = false)) (fun i hi => by
      simp only [spec_LastOf_b2]
      by_cases h1 : i ≥ 0
      · rw [if_pos (by simpa using h1)]
        obtain ⟨o, e, ho⟩ := inner i ⟨h1, hi.2.1⟩
        rw [e, some_bind]
        obtain ⟨hlt, eg⟩ := gt_eq h1 hi.2.1
        by_cases hh : hasPage (gt l i) p = true
        · rw [if_pos hh] at ho
          obtain ⟨c, rfl, c1, c2⟩ := ho
          refine ⟨_, rfl, .inl ⟨_, rfl, rfl, by simp only [chg, List.any_eq_true]; exact ⟨_, by rw [eg]; exact List.getElem_mem hlt, hh⟩, .inl ⟨i.toNat, hlt, ⟨c, by rw [← eg]; exact c1, c2, rfl⟩, fun j hj hij => hi.2.2 j (by omega) hj⟩⟩⟩
        · rw [if_neg hh] at ho
          obtain ⟨s, rfl⟩ := ho
          refine ⟨_, rfl, ⟨by rw [w64 (by omega) (by omega)]; omega, by rw [w64 (by omega) (by omega)]; omega, fun j h2 hj => ?_⟩, by rw [w64 (by omega) (by omega)]; omega⟩
          rw [w64 (by omega) (by omega)] at h2
          by_cases h3 : (j : Int) = i
          · have : j = i.toNat := by omega
            subst this
            rw [← eg]; simpa using hh
          · exact hi.2.2 j (by omega) hj
      · rw [if_neg (by simpa using h1)]
        refine ⟨_, rfl, .inr ⟨_, rfl, ?_⟩⟩
        rw [← Bool.not_eq_true]
        intro hc
        simp only [chg, List.any_eq_true] at hc
        obtain ⟨x, hx, h4⟩ := hc
        obtain ⟨j, hj, rfl⟩ := List.getElem_of_mem hx
        rw [hi.2.2 j (by omega) hj] at h4; cases h4) k ((l.length : Int) - 1) ⟨by omega, by omega, fun j h1 h2 => by omega⟩ (by have : 9223372036854775808 ≤ k := hk; omega)
    exact ⟨o, ho, hQ⟩
  obtain ⟨o, ho, hQ⟩ := outer
  rw [spec_LastOf, w64 (by omega) (by omega), ho, some_bind]
  rcases hQ with ⟨n, rfl, h2, hc, hL⟩ | ⟨s, rfl, hc⟩
  · exact ⟨_, rfl, h2.trans hc.symm, hL⟩
  · exact ⟨_, rfl, hc.symm, .inr ⟨hc, rfl⟩⟩
theorem impl_lastOf {k : Nat} (hk : Big k) {l : List TTx} (h : smTxs l) (p : Int) : ∃ r, impl_LastOf k l p = some r ∧ r.2 = chg l p ∧ LastIs l p r := by
  have hl := h.1
  have inner : ∀ i : Int, 0 ≤ i ∧ i < (l.length : Int) → ∃ o, loopM (impl_LastOf_b3 l p i) k (wrap64 (((List.length (gt l i).Puts : Nat) : Int) - 1)) = some o ∧ if hasPage (gt l i) p = true then ∃ c, o = .ret (c.N, true) ∧ c ∈ (gt l i).Puts ∧ c.Page = p else ∃ s, o = .out s := by
    intro i hi
    have hm : gt l i ∈ l := by obtain ⟨h1, e⟩ := gt_eq hi.1 hi.2; rw [e]; exact List.getElem_mem _
    have hp := (h.2 _ hm).1
    have e := loop_first (b := impl_LastOf_b3 l p i) (k := k) (n := (gt l i).Puts.length) (fun j => ((gt l i).Puts.length : Int) - 1 - (j : Int)) (fun j => decide ((gt (gt l i).Puts (((gt l i).Puts.length : Int) - 1 - (j : Int))).Page = p)) (fun j => .ret ((gt (gt l i).Puts (((gt l i).Puts.length : Int) - 1 - (j : Int))).N, true)) (by omega) hk (fun i t h => by cases h)
      (fun j hj => by
        have c1 : decide (((gt l i).Puts.length : Int) - 1 - (j : Int) ≥ 0) = true := by simp; omega
        have c2 : (0 : Int) ≤ ((gt l i).Puts.length : Int) - 1 - (j : Int) ∧ ((gt l i).Puts.length : Int) - 1 - (j : Int) < ((List.length (gt l i).Puts : Nat) : Int) := by omega
        have hn : (gt (gt l i).Puts (((gt l i).Puts.length : Int) - 1 - (j : Int))).N.L.length ≤ 2097152 := by obtain ⟨h1, e⟩ := gt_eq c2.1 c2.2; rw [e]; exact (h.2 _ hm).2 _ (List.getElem_mem _)
        have ew : wrap64 (((gt l i).Puts.length : Int) - 1 - (j : Int) - 1) = ((gt l i).Puts.length : Int) - 1 - ((j + 1 : Nat) : Int) := by rw [w64 (by omega) (by omega)]; omega
        simp only [impl_LastOf_b3, if_pos c1, if_pos hi, if_pos c2, impl_copyNode_eq hn, some_bind, ew]
        exact some_ite _ _ _)
      (by simp only [impl_LastOf_b3]; rw [if_neg (by simp; omega)])
    have e0 : wrap64 (((List.length (gt l i).Puts : Nat) : Int) - 1) = ((gt l i).Puts.length : Int) - 1 - ((0 : Nat) : Int) := by rw [w64 (by omega) (by omega)]; omega
    rw [e0]
    refine ⟨_, e, ?_⟩
    have ea : hasPage (gt l i) p = (firstN (fun j => decide ((gt (gt l i).Puts (((gt l i).Puts.length : Int) - 1 - (j : Int))).Page = p)) (gt l i).Puts.length).isSome := by
      rw [← firstN_any, hasPage, ← any_down]
    rw [ea]
    cases hf : firstN (fun j => decide ((gt (gt l i).Puts (((gt l i).Puts.length : Int) - 1 - (j : Int))).Page = p)) (gt l i).Puts.length with
    | none => exact ⟨_, rfl⟩
    | some j =>
      obtain ⟨h1, h2, _⟩ := firstN_some hf
      refine ⟨_, rfl, ?_, by simpa using h2⟩
      obtain ⟨h3, e⟩ := gt_eq (l := (gt l i).Puts) (i := ((gt l i).Puts.length : Int) - 1 - (j : Int)) (by omega) (by omega)
      rw [e]; exact List.getElem_mem h3
  have outer : ∃ o, loopM (impl_LastOf_b2 k l p) k ((l.length : Int) - 1) = some o ∧ ((∃ r, o = .ret r ∧ r.2 = true ∧ chg l p = true ∧ LastIs l p r) ∨ (∃ s, o = .out s ∧ chg l p = false)) := by
    obtain ⟨o, ho, hQ⟩ := loopM_ends (b := impl_LastOf_b2 k l p) (fun i => -1 ≤ i ∧ i < (l.length : Int) ∧ ∀ j : Nat, i < (j : Int) → (hj : j < l.length) → hasPage l[j] p = false) (fun i => (i + 1).toNat) (fun o => (∃ r, o = .ret r ∧ r.2 = true ∧ chg l p = true ∧ LastIs l p r) ∨ (∃ s, o = .out s ∧ chg l p = false)) (fun i hi => by
      simp only [impl_LastOf_b2]
      by_cases h1 : i ≥ 0
      · rw [if_pos (by simpa using h1), if_pos ⟨h1, hi.2.1⟩]
        obtain ⟨o, e, ho⟩ := inner i ⟨h1, hi.2.1⟩
        rw [e, some_bind]
        obtain ⟨hlt, eg⟩ := gt_eq h1 hi.2.1
        by_cases hh : hasPage (gt l i) p = true
        · rw [if_pos hh] at ho
          obtain ⟨c, rfl, c1, c2⟩ := ho
          refine ⟨_, rfl, .inl ⟨_, rfl, rfl, by simp only [chg, List.any_eq_true]; exact ⟨_, by rw [eg]; exact List.getElem_mem hlt, hh⟩, .inl ⟨i.toNat, hlt, ⟨c, by rw [← eg]; exact c1, c2, rfl⟩, fun j hj hij => hi.2.2 j (by omega) hj⟩⟩⟩
        · rw [if_neg hh] at ho
          obtain ⟨s, rfl⟩ := ho
          refine ⟨_, rfl, ⟨by rw [w64 (by omega) (by omega)]; omega, by rw [w64 (by omega) (by omega)]; omega, fun j h2 hj => ?_⟩, by rw [w64 (by omega) (by omega)]; omega⟩
          rw [w64 (by omega) (by omega)] at h2
          by_cases h3 : (j : Int) = i
          · have : j = i.toNat := by omega
            subst this
            rw [← eg]; simpa using hh
          · exact hi.2.2 j (by omega) hj
      · rw [if_neg (by simpa using h1)]
        refine ⟨_, rfl, .inr ⟨_, rfl, ?_⟩⟩
        rw [← Bool.not_eq_true]
        intro hc
        simp only [chg, List.any_eq_true] at hc
        obtain ⟨x, hx, h4⟩ := hc
        obtain ⟨j, hj, rfl⟩ := List.getElem_of_mem hx
        rw [hi.2.2 j (by omega) hj] at h4; cases h4) k ((l.length : Int) - 1) ⟨by omega, by omega, fun j h1 h2 => by omega⟩ (by have : 9223372036854775808 ≤ k := hk; omega)
    exact ⟨o, ho, hQ⟩
  obtain ⟨o, ho, hQ⟩ := outer
  rw [impl_LastOf, w64 (by omega) (by omega), ho, some_bind]
  rcases hQ with ⟨n, rfl, h2, hc, hL⟩ | ⟨s, rfl, hc⟩
  · exact ⟨_, rfl, h2.trans hc.symm, hL⟩
  · exact ⟨_, rfl, hc.symm, .inr ⟨hc, rfl⟩⟩

def chgL (l : List TTx) : Nat → List Int
  | 0 => []
  | i + 1 => if chg l (i : Int) = true then chgL l i ++ [(i : Int)] else chgL l i
theorem chgL_len (l : List TTx) : ∀ i, (chgL l i).length ≤ i
  | 0 => Nat.le_refl _
  | i + 1 => by have := chgL_len l i; rw [chgL]; split <;> simp <;> omega
theorem changedBy_g {k : Nat} (hk : Big k) {l : List TTx} (hs : smTxs l) : ∃ g, spec_ChangedBy k l = some g ∧ impl_ChangedBy k l = some g ∧ smL 1114112 (smT 1114112) g := by
  have e1 := loopM_run0 (b := spec_ChangedBy_b0 k l) (k := k) (fun i => (chgL l i, (i : Int))) 48 (r := .out (chgL l 48, ((48 : Nat) : Int))) (fun t h => by cases h) (fun j hj => by
      obtain ⟨r, e, hr, _⟩ := spec_lastOf hk hs (j : Int)
      have hl := chgL_len l j
      simp only [spec_ChangedBy_b0]
      rw [if_pos (by simp; omega), e, some_bind, hr, if_pos (c := okLen _ = true) (okLen_iff.2 (by simp; omega)), w64s (by omega), chgL]
      split <;> rfl) (by simp only [spec_ChangedBy_b0]; rw [if_neg (by simp)]) (by have : 9223372036854775808 ≤ k := hk; omega)
  have e2 := loopM_run0 (b := impl_ChangedBy_b0 k l) (k := k) (fun i => (chgL l i, (i : Int))) 48 (r := .out (chgL l 48, ((48 : Nat) : Int))) (fun t h => by cases h) (fun j hj => by
      obtain ⟨r, e, hr, _⟩ := impl_lastOf hk hs (j : Int)
      have hl := chgL_len l j
      simp only [impl_ChangedBy_b0]
      rw [if_pos (by simp; omega), e, some_bind, hr, if_pos (c := okLen _ = true) (okLen_iff.2 (by simp; omega)), w64s (by omega), chgL]
      split <;> rfl) (by simp only [impl_ChangedBy_b0]; rw [if_neg (by simp)]) (by have : 9223372036854775808 ≤ k := hk; omega)
  have e1' : loopM (spec_ChangedBy_b0 k l) k ([], 0) = _ := e1
  have e2' : loopM (impl_ChangedBy_b0 k l) k ([], 0) = _ := e2
  have := chgL_len l 48
  exact ⟨chgL l 48, by rw [spec_ChangedBy, e1', some_bind], by rw [impl_ChangedBy, e2', some_bind], by omega, fun _ _ => trivial⟩

theorem lsame_eq {k : Nat} (hk : Big k) {p q : List Int} (hl : p.length ≤ 2097152) : laws_same k p q = some (decide (p = q)) := by
  rw [laws_same]
  by_cases he : p.length = q.length
  · rw [if_neg (by simp [he])]
    rw [loop_all (c := fun i => decide (p[i]? = q[i]?)) (n := p.length) (r := false) (by omega) hk]
    · by_cases hpq : p = q
      · subst hpq; simp
      · rw [if_neg, decide_eq_false hpq]
        · rfl
        · intro hh
          exact hpq (List.ext_getElem? fun i => by
            by_cases hi : i < p.length
            · simpa using hh i hi
            · rw [List.getElem?_eq_none (by omega), List.getElem?_eq_none (by omega)])
    · intro i hi
      have c1 : decide ((i : Int) < ((List.length p : Nat) : Int)) = true := by simp; omega
      have c2 : (0 : Int) ≤ (i : Int) ∧ (i : Int) < ((List.length p : Nat) : Int) := by omega
      have c3 : (0 : Int) ≤ (i : Int) ∧ (i : Int) < ((List.length q : Nat) : Int) := by omega
      have hq : i < q.length := by omega
      simp only [laws_same_b0, if_pos c1, if_pos c2, if_pos c3, gt_nat hi, gt_nat hq, w64s (n := i) (by omega), List.getElem?_eq_getElem hi, List.getElem?_eq_getElem hq, Option.some.injEq]
      by_cases hv : p[i] = q[i] <;> simp [hv]
    · have c1 : ¬ decide (((List.length p : Nat) : Int) < ((List.length p : Nat) : Int)) = true := by simp
      simp only [laws_same_b0, if_neg c1]
  · rw [if_pos (by simp; omega), decide_eq_false]
    rintro rfl; exact he rfl
theorem sameDisk_refl {k : Nat} (hk : Big k) {p : TDisk} (h1 : p.Cells.length ≤ 2097152) (h2 : ∀ y ∈ p.Cells, y.B.length ≤ 2097152) (h3 : p.Wet.length ≤ 2097152) (h4 : ∀ y ∈ p.Wet, y.B.length ≤ 2097152) : laws_sameDisk k p p = some true := by
  rw [laws_sameDisk, if_neg (by simp)]
  have e1 := loopM_run0 (b := laws_sameDisk_b0 k p p) (k := k) (fun i => (i : Int)) p.Cells.length (r := .out (p.Cells.length : Int)) (fun t h => by cases h) (fun j hj => by
      have c1 : decide ((j : Int) < ((List.length p.Cells : Nat) : Int)) = true := by simp; omega
      have c2 : (0 : Int) ≤ (j : Int) ∧ (j : Int) < ((List.length p.Cells : Nat) : Int) := by omega
      have hb := h2 _ (List.getElem_mem hj)
      simp only [laws_sameDisk_b0, if_pos c1, if_pos c2, gt_nat hj, lsame_eq hk (p := p.Cells[j].B) (q := p.Cells[j].B) hb, w64s (n := j) (by omega)]
      simp) (by simp only [laws_sameDisk_b0]; rw [if_neg (by simp)]) (by have : 9223372036854775808 ≤ k := hk; omega)
  have e2 := loopM_run0 (b := laws_sameDisk_b1 k p p) (k := k) (fun i => (i : Int)) p.Wet.length (r := .out (p.Wet.length : Int)) (fun t h => by cases h) (fun j hj => by
      have c1 : decide ((j : Int) < ((List.length p.Wet : Nat) : Int)) = true := by simp; omega
      have c2 : (0 : Int) ≤ (j : Int) ∧ (j : Int) < ((List.length p.Wet : Nat) : Int) := by omega
      have hb := h4 _ (List.getElem_mem hj)
      simp only [laws_sameDisk_b1, if_pos c1, if_pos c2, gt_nat hj, lsame_eq hk (p := p.Wet[j].B) (q := p.Wet[j].B) hb, w64s (n := j) (by omega)]
      simp) (by simp only [laws_sameDisk_b1]; rw [if_neg (by simp)]) (by have : 9223372036854775808 ≤ k := hk; omega)
  have e1' : loopM (laws_sameDisk_b0 k p p) k 0 = _ := e1
  have e2' : loopM (laws_sameDisk_b1 k p p) k 0 = _ := e2
  rw [e1', some_bind]
  simp only
  rw [e2', some_bind]

theorem eEqual_eq {k : Nat} (hk : Big k) {p q : List TEntry} (hl : p.length ≤ 2097152) : slices_Equal_impl_Entry_impl_Entry k p q = some (decide (p = q)) := by
  rw [slices_Equal_impl_Entry_impl_Entry]
  by_cases he : p.length = q.length
  · rw [if_neg (by simp [he])]
    rw [loop_all (c := fun i => decide (p[i]? = q[i]?)) (n := p.length) (r := false) (by omega) hk]
    · by_cases hpq : p = q
      · subst hpq; simp
      · rw [if_neg, decide_eq_false hpq]
        · rfl
        · intro hh
          exact hpq (List.ext_getElem? fun i => by
            by_cases hi : i < p.length
            · simpa using hh i hi
            · rw [List.getElem?_eq_none (by omega), List.getElem?_eq_none (by omega)])
    · intro i hi
      have c1 : decide ((i : Int) < ((List.length p : Nat) : Int)) = true := by simp; omega
      have c2 : (0 : Int) ≤ (i : Int) ∧ (i : Int) < ((List.length p : Nat) : Int) := by omega
      have c3 : (0 : Int) ≤ (i : Int) ∧ (i : Int) < ((List.length q : Nat) : Int) := by omega
      have hq : i < q.length := by omega
      simp only [slices_Equal_impl_Entry_impl_Entry_b0, if_pos c1, if_pos c2, if_pos c3, gt_nat hi, gt_nat hq, w64s (n := i) (by omega), List.getElem?_eq_getElem hi, List.getElem?_eq_getElem hq, Option.some.injEq]
      by_cases hv : p[i] = q[i] <;> simp [hv]
    · have c1 : ¬ decide (((List.length p : Nat) : Int) < ((List.length p : Nat) : Int)) = true := by simp
      simp only [slices_Equal_impl_Entry_impl_Entry_b0, if_neg c1]
  · rw [if_pos (by simp; omega), decide_eq_false]
    rintro rfl; exact he rfl
theorem sameNode_eq {k : Nat} (hk : Big k) {p q : TNode} (hl : p.L.length ≤ 2097152) : impl_SameNode k p q = some (decide (p = q)) := by
  rw [impl_SameNode]
  obtain ⟨a, l⟩ := p
  obtain ⟨c, m⟩ := q
  simp only at hl ⊢
  by_cases h : a = c
  · subst h
    rw [if_pos (by simp), eEqual_eq hk hl]
    simp
  · rw [if_neg (by simpa using h)]
    simp [h]
theorem sameNode_refl {k : Nat} (hk : Big k) {p : TNode} (hl : p.L.length ≤ 2097152) : impl_SameNode k p p = some true := by
  rw [sameNode_eq hk hl]; simp

theorem sameTx_refl {k : Nat} (hk : Big k) {t : TTx} (h1 : t.Puts.length ≤ 2097152) (h2 : ∀ c ∈ t.Puts, c.N.L.length ≤ 2097152) : laws_sameTx k t t = some true := by
  rw [laws_sameTx, if_neg (by simp)]
  have e1 := loopM_run0 (b := laws_sameTx_b0 k t t) (k := k) (fun i => (i : Int)) t.Puts.length (r := .out (t.Puts.length : Int)) (fun t h => by cases h) (fun j hj => by
      have c1 : decide ((j : Int) < ((List.length t.Puts : Nat) : Int)) = true := by simp; omega
      have c2 : (0 : Int) ≤ (j : Int) ∧ (j : Int) < ((List.length t.Puts : Nat) : Int) := by omega
      have hb := h2 _ (List.getElem_mem hj)
      simp only [laws_sameTx_b0, if_pos c1, if_pos c2, gt_nat hj, sameNode_refl hk hb, w64s (n := j) (by omega)]
      simp) (by simp only [laws_sameTx_b0]; rw [if_neg (by simp)]) (by have : 9223372036854775808 ≤ k := hk; omega)
  have e1' : loopM (laws_sameTx_b0 k t t) k 0 = _ := e1
  rw [e1', some_bind]

theorem sameTxs_refl {k : Nat} (hk : Big k) {l : List TTx} (hl : l.length ≤ 2097152) (h1 : ∀ t ∈ l, t.Puts.length ≤ 2097152 ∧ ∀ c ∈ t.Puts, c.N.L.length ≤ 2097152) : laws_sameTxs k l l = some true := by
  rw [laws_sameTxs, if_neg (by simp)]
  have e1 := loopM_run0 (b := laws_sameTxs_b0 k l l) (k := k) (fun i => (i : Int)) l.length (r := .out (l.length : Int)) (fun t h => by cases h) (fun j hj => by
      have c1 : decide ((j : Int) < ((List.length l : Nat) : Int)) = true := by simp; omega
      have c2 : (0 : Int) ≤ (j : Int) ∧ (j : Int) < ((List.length l : Nat) : Int) := by omega
      have hb := h1 _ (List.getElem_mem hj)
      simp only [laws_sameTxs_b0, if_pos c1, if_pos c2, gt_nat hj, sameTx_refl hk hb.1 hb.2, w64s (n := j) (by omega)]
      simp) (by simp only [laws_sameTxs_b0]; rw [if_neg (by simp)]) (by have : 9223372036854775808 ≤ k := hk; omega)
  have e1' : loopM (laws_sameTxs_b0 k l l) k 0 = _ := e1
  rw [e1', some_bind]
theorem sameInts_refl {k : Nat} (hk : Big k) {l : List Int} (hl : l.length ≤ 2097152) : laws_sameInts k l l = some true := by
  rw [laws_sameInts, if_neg (by simp)]
  have e1 := loopM_run0 (b := laws_sameInts_b0 l l) (k := k) (fun i => (i : Int)) l.length (r := .out (l.length : Int)) (fun t h => by cases h) (fun j hj => by
      have c1 : decide ((j : Int) < ((List.length l : Nat) : Int)) = true := by simp; omega
      have c2 : (0 : Int) ≤ (j : Int) ∧ (j : Int) < ((List.length l : Nat) : Int) := by omega
      simp only [laws_sameInts_b0, if_pos c1, if_pos c2, gt_nat hj, w64s (n := j) (by omega)]
      simp) (by simp only [laws_sameInts_b0]; rw [if_neg (by simp)]) (by have : 9223372036854775808 ≤ k := hk; omega)
  have e1' : loopM (laws_sameInts_b0 l l) k 0 = _ := e1
  rw [e1', some_bind]

theorem laws_FnLogsBent_true {p0 : List Int} (h0 : wfL wfU8 p0) : ∃ k, laws_FnLogsBent k p0 = some true := by
  refine ⟨9223372036854775808, ?_⟩
  generalize hK : 9223372036854775808 = k
  have hk : Big k := by rw [Big, hK]; exact Nat.le_refl _
  clear hK
  rw [laws_FnLogsBent, laws_big, some_bind]
  by_cases hl : ((List.length p0 : Nat) : Int) > 1048576
  · rw [if_pos (by simpa using hl)]
  rw [if_neg (by simpa using hl)]
  have hl' : p0.length ≤ 1048576 := by omega
  obtain ⟨hh, en⟩ := new_ok hk hl'
  have o0 : okI p0 0 := ⟨Int.le_refl _, by omega⟩
  obtain ⟨⟨d, s, e, t⟩, eA, hd, hs, ht⟩ : ∃ r, spec_DrawAppend k p0 = some r ∧ okDisk 64 r.1 ∧ wfI r.2.1 ∧ (r.2.2.2.Puts.length ≤ 10 ∧ ∀ c ∈ r.2.2.2.Puts, c.N.L.length ≤ 8) := by
    rw [spec_DrawAppend]
    refine Ne.pbind en ?_
    obtain ⟨d, l, i1, h1, e1, o1, hd⟩ := l20disk_ok hk (h := hh) o0 hl' (n := 3) (by omega) (by omega)
    refine Ne.pbind e1 ?_
    refine Dr.bindN (int_dr o1 hl' (by simp)) fun s i2 h2 o2 hs => ?_
    refine Dr.bindN (l19epoch_dr o2 hl') fun e i3 h3 o3 he => ?_
    refine Dr.bindN (l19any_dr hk o3 hl') fun t i4 h4 o4 ht => ⟨_, rfl, hd, ?_, ht⟩
    simp only [List.mem_cons, List.not_mem_nil, or_false] at hs
    show -9223372036854775808 ≤ s ∧ s ≤ 9223372036854775807
    omega
  simp only at hd hs ht
  obtain ⟨⟨f, g, q⟩, eR, hf, hq⟩ : ∃ r, spec_DrawReadLog k p0 = some r ∧ okDisk 65 r.1 ∧ wfI r.2.2 := by
    rw [spec_DrawReadLog]
    refine Ne.pbind en ?_
    obtain ⟨d, l, i1, h1, e1, o1, hd⟩ := l20disk_ok hk (h := hh) o0 hl' (n := 6) (by omega) (by omega)
    have w4 : ∀ q ∈ ([4, 4, 4, 4, 3, 5] : List Int), wfI q := fun q hq => by
      simp only [List.mem_cons, List.not_mem_nil, or_false] at hq
      show -9223372036854775808 ≤ q ∧ q ≤ 9223372036854775807
      omega
    refine Ne.pbind e1 ?_
    refine Dr.bindN (below_dr o1 hl' 4) fun c i2 h2 o2 _ => Ne.ite (fun _ => ?_) fun _ => Ne.ite (fun _ => ?_) fun _ => ?_
    · obtain ⟨hw, i3, h3, e3, o3, hwl⟩ := drawHow_ok hk (i := i2) (h := h2) o2 hl' (n := 40) (by omega)
      refine Ne.pbind e3 ?_
      refine Ne.pbind (spec_crashD_eq hk hd.sm (by omega) (Nat.le_trans hwl (by omega))) ?_
      refine Dr.bindN (int_dr o3 hl' (by simp)) fun g i4 h4 o4 hg => ?_
      exact Dr.bindN (int_dr o4 hl' (by simp)) fun q i5 h5 o5 hq => ⟨_, rfl, (hd.crash hw (-1)).mono (by omega), w4 q hq⟩
    · refine Dr.bindN (below_dr o2 hl' 12) fun z i3 h3 o3 hz => ?_
      refine Dr.bindN (int_dr o3 hl' (by simp)) fun e i4 h4 o4 he => ?_
      refine Dr.bindN (l19change_dr hk o4 hl') fun x i5 h5 o5 hx => ?_
      have hx' : x.N.L.length ≤ 8 := hx
      refine Ne.pbind (spec_putCell_eq hk (e := e) (x := x) (by omega)) ?_
      have hpl := putCell_len e x
      refine Ne.pbind (spec_writeD_eq hk hd.sm (by omega) (Nat.le_trans hpl (by omega))) ?_
      refine Dr.bindN (int_dr o5 hl' (by simp)) fun g i6 h6 o6 hg => ?_
      exact Dr.bindN (int_dr o6 hl' (by simp)) fun q i7 h7 o7 hq => ⟨_, rfl, hd.write (putCell_wf e x), w4 q hq⟩
    · refine Dr.bindN (int_dr o2 hl' (by simp)) fun g i4 h4 o4 hg => ?_
      exact Dr.bindN (int_dr o4 hl' (by simp)) fun q i5 h5 o5 hq => ⟨_, rfl, hd.mono (by omega), w4 q hq⟩
  simp only at hf hq
  obtain ⟨l, i1, h1, e1, o1, hln, hg⟩ := l20txs_dr hk (h := hh) o0 hl' (n := 4) (by omega) (by omega)
  obtain ⟨p, eL⟩ : ∃ p, spec_DrawLastOf k p0 = some (l, p) := by
    obtain ⟨p, i2, h2, e2, _⟩ := below_ok (h := h1) o1 hl' 10
    refine ⟨p, ?_⟩
    rw [spec_DrawLastOf, en, some_bind]
    simp only [e1, some_bind, e2]
  have eC : spec_DrawChangedBy k p0 = some l := by
    rw [spec_DrawChangedBy, en, some_bind]
    simp only [e1, some_bind]
  have hTs : smTxs l := ⟨by omega, fun t ht => (hg.1 t ht).sm⟩
  obtain ⟨b, b1, b2, b3⟩ := impl_lastOf hk hTs p
  obtain ⟨c, c1, c2, c3⟩ := spec_lastOf hk hTs p
  have hbc : b = c := LastIs.uniq (fun t ht => (hg.1 t ht).uniq) b3 c3
  subst hbc
  have hbl : b.1.L.length ≤ 2097152 := by
    rcases b3 with ⟨i, hi, ⟨c, hc, _, rfl⟩, _⟩ | ⟨_, rfl⟩
    · exact (hTs.2 _ (List.getElem_mem hi)).2 c hc
    · simp
  obtain ⟨cb, cb1, cb2, cb3⟩ := changedBy_g hk hTs
  have hsd := hd.sm.mono (N := 1048576) (by omega)
  have hT : smTx t := ⟨by have := ht.1; omega, fun y hy => by have := ht.2 y hy; omega⟩
  have a1 := impl_appendD_eq hk hsd (s := s) (e := e) hT hs
  have a2 := spec_appendD_eq hk hsd (s := s) (e := e) hT hs
  have ha := hd.append s e t
  have hneg : ¬ (appendD d s e t).2 ≥ 0 → (appendD d s e t).1 = d := by
    intro h
    unfold appendD at h ⊢
    split
    · rfl
    · rename_i hc
      rw [if_neg hc] at h
      simp only at h
      omega
  have hal := txCells_len e t
  have ht10 := ht.1
  generalize appendD d s e t = a at a1 a2 ha hneg
  obtain ⟨r, r1, r2, r3, r4⟩ := readLog_g hk (e := g) (q := q) (hf.sm.mono (by omega)) hf.bytes hq
  have refl : ∀ {M : Nat} {t : TDisk}, smD M t → M ≤ 2097152 → laws_sameDisk k t t = some true := fun {M t} h hM =>
    sameDisk_refl hk (by have := h.1; omega) (fun y hy => by have := h.2.1 y hy; omega) (by have := h.2.2.1; omega) (fun y hy => by have := h.2.2.2 y hy; omega)
  have rt := sameTxs_refl hk (l := r.1) (by omega) (fun t ht => ⟨by have := (r4 t ht).1; omega, fun c hc => by have := (r4 t ht).2 c hc; omega⟩)
  have fin : ((if (decide (a.2 ≥ 0)) = true then some true else ((laws_sameDisk k a.1 d).bind fun t90 => some t90))) = some true := by
    by_cases hq : a.2 ≥ 0
    · rw [if_pos (by simpa using hq)]
    · rw [if_neg (by simpa using hq), hneg hq, refl hsd (by omega), some_bind]
  simp only [eA, eR, eL, eC, a1, a2, r1, r2, b1, c1, cb1, cb2, some_bind, refl ha.sm (by omega), rt, sameNode_refl hk hbl, sameInts_refl hk (l := cb) (by have := cb3.1; omega), fin, decide_true, beq_self_eq_true, Bool.and_self, if_true]

end Go.Proofs.Sx
