/- FnFramesBent: the plain law. -/
import Derived.Test.YtkhommmhkeohbaaQdX
import Derived.Test.YtkhommmhkeohbaaLP
namespace Go.Proofs.Sx
open Go.RowKit
set_option maxRecDepth 20000
set_option linter.unusedVariables false
set_option linter.unusedSimpArgs false
def okI (b : List Int) (i : Int) : Prop := 0 ≤ i ∧ i ≤ (b.length : Int)
theorem and255 (x : Int) : 0 ≤ bits2 (· &&& ·) x 255 ∧ bits2 (· &&& ·) x 255 ≤ 255 := by
  show 0 ≤ wrap64 ((BitVec.ofInt 64 x &&& BitVec.ofInt 64 255).toNat : Int) ∧ wrap64 ((BitVec.ofInt 64 x &&& BitVec.ofInt 64 255).toNat : Int) ≤ 255
  have h : (BitVec.ofInt 64 x &&& BitVec.ofInt 64 255).toNat ≤ 255 := by
    rw [BitVec.toNat_and]
    exact Nat.and_le_right
  rw [w64 (by omega) (by omega)]; omega
theorem byte_ok {b : List Int} {i h : Int} (hi : okI b i) (hl : b.length ≤ 1048576) : ∃ v i' h', spec_l1Byte ⟨b, i, h⟩ = some (v, ⟨b, i', h'⟩) ∧ okI b i' ∧ 0 ≤ v ∧ v ≤ 255 := by
  obtain ⟨h0, h1⟩ := hi
  rw [spec_l1Byte]
  by_cases hc : i < ((List.length b : Nat) : Int)
  · rw [if_pos (by simpa using hc), if_pos ⟨h0, hc⟩]
    exact ⟨_, _, _, rfl, by simp only [okI]; rw [w64 (by omega) (by omega)]; omega, and255 _⟩
  · rw [if_neg (by simpa using hc)]
    exact ⟨_, _, _, rfl, ⟨h0, h1⟩, and255 _⟩
theorem below_ok {b : List Int} {i h : Int} (hi : okI b i) (hl : b.length ≤ 1048576) (n : Int) : ∃ v i' h', spec_l1Below ⟨b, i, h⟩ n = some (v, ⟨b, i', h'⟩) ∧ okI b i' ∧ 0 ≤ v ∧ (0 < n → v < n) ∧ (n ≤ 0 → v = 0) := by
  rw [spec_l1Below]
  by_cases h0 : n ≤ 0
  · rw [if_pos (by simpa using h0)]
    exact ⟨_, _, _, rfl, hi, Int.le_refl _, fun h => by omega, fun _ => rfl⟩
  · rw [if_neg (by simpa using h0)]
    by_cases h256 : n ≤ 256
    · obtain ⟨v, i1, h1, e1, o1, v0, v1⟩ := byte_ok (h := h) hi hl
      rw [if_pos (by simpa using h256), e1, some_bind, if_pos (by omega)]
      refine ⟨_, _, _, rfl, o1, ?_, fun _ => ?_, fun h => by omega⟩
      · simp only; rw [tmod_pos v0]; exact Int.emod_nonneg _ (by omega)
      · simp only; rw [tmod_pos v0]; exact Int.emod_lt_of_pos _ (by omega)
    · obtain ⟨v, i1, h1, e1, o1, v0, v1⟩ := byte_ok (h := h) hi hl
      rw [if_neg (by simpa using h256), e1, some_bind]
      obtain ⟨u, i2, h2, e2, o2, u0, u1⟩ := byte_ok (h := h1) o1 hl
      simp only [e2, some_bind]
      obtain ⟨t, i3, h3, e3, o3, t0, t1⟩ := byte_ok (h := h2) o2 hl
      simp only [e3, some_bind]
      rw [if_pos (by omega), w64 (n := v * 65536) (by omega) (by omega), w64 (n := u * 256) (by omega) (by omega), w64 (n := v * 65536 + u * 256) (by omega) (by omega), w64 (by omega) (by omega)]
      refine ⟨_, _, _, rfl, o3, ?_, fun _ => ?_, fun h => by omega⟩
      · rw [tmod_pos (by omega)]; exact Int.emod_nonneg _ (by omega)
      · rw [tmod_pos (by omega)]; exact Int.emod_lt_of_pos _ (by omega)
theorem once_ok {b : List Int} {i h : Int} (hi : okI b i) (hl : b.length ≤ 1048576) (n : Int) : ∃ v i' h', spec_l1Once ⟨b, i, h⟩ n = some (v, ⟨b, i', h'⟩) ∧ okI b i' := by
  obtain ⟨v, i1, h1, e1, o1, _⟩ := below_ok (h := h) hi hl n
  exact ⟨_, _, _, by rw [spec_l1Once, e1, some_bind], o1⟩
theorem int_ok {b : List Int} {i h : Int} (hi : okI b i) (hl : b.length ≤ 1048576) {l : List Int} (hn : 0 < l.length) : ∃ v i' h', spec_l1Int ⟨b, i, h⟩ l = some (v, ⟨b, i', h'⟩) ∧ okI b i' ∧ v ∈ l := by
  obtain ⟨v, i1, h1, e1, o1, v0, v1, _⟩ := below_ok (h := h) hi hl ((List.length l : Nat) : Int)
  have hv := v1 (by omega)
  refine ⟨_, _, _, by rw [spec_l1Int, e1, some_bind, if_pos ⟨v0, hv⟩], o1, ?_⟩
  obtain ⟨q, e⟩ := gt_eq v0 hv
  rw [e]; exact List.getElem_mem q
theorem new_ok {k : Nat} (hk : Big k) {b : List Int} (hl : b.length ≤ 1048576) : ∃ h, spec_l1New k b = some ⟨b, 0, h⟩ := by
  obtain ⟨o, e, hQ⟩ := loopM_ends (b := spec_l1New_b0 b) (fun s => 0 ≤ s.2 ∧ s.2 ≤ (b.length : Int)) (fun s => ((b.length : Int) - s.2).toNat) (fun o => ∃ s, o = .out s) (fun s hs => by
      obtain ⟨h, i⟩ := s
      simp only at hs
      simp only [spec_l1New_b0]
      by_cases hc : i < ((List.length b : Nat) : Int) ∧ i < 4000
      · rw [if_pos (by simpa using hc), if_pos (by omega)]
        exact ⟨_, rfl, ⟨by simp only; rw [w64 (by omega) (by omega)]; omega, by simp only; rw [w64 (by omega) (by omega)]; omega⟩, by simp only; rw [w64 (by omega) (by omega)]; omega⟩
      · rw [if_neg (by simpa using hc)]
        exact ⟨_, rfl, _, rfl⟩) k ((wrap64 (141373 + ((List.length b : Nat) : Int))), 0) ⟨Int.le_refl _, by omega⟩ (by have : 9223372036854775808 ≤ k := hk; simp; omega)
  obtain ⟨s, rfl⟩ := hQ
  exact ⟨s.1, by rw [spec_l1New, e, some_bind]⟩

/-- A draw: it answers, its cursor stays good, and what it draws is as P says. -/
def Dr {α : Type} (b : List Int) (o : Option (α × TCur)) (P : α → Prop) : Prop := ∃ v i h, o = some (v, ⟨b, i, h⟩) ∧ okI b i ∧ P v
theorem Dr.bind {α β : Type} {b : List Int} {o : Option (α × TCur)} {P : α → Prop} {f : α × TCur → Option (β × TCur)} {Q : β → Prop} (h : Dr b o P) (hf : ∀ v i h, okI b i → P v → Dr b (f (v, ⟨b, i, h⟩)) Q) : Dr b (o.bind f) Q := by
  obtain ⟨v, i, h, rfl, h1, h2⟩ := h
  exact hf v i h h1 h2
theorem Dr.bindN {α β : Type} {b : List Int} {o : Option (α × TCur)} {P : α → Prop} {f : α × TCur → Option β} {Q : β → Prop} (h : Dr b o P) (hf : ∀ v i h, okI b i → P v → ∃ r, f (v, ⟨b, i, h⟩) = some r ∧ Q r) : ∃ r, o.bind f = some r ∧ Q r := by
  obtain ⟨v, i, h, rfl, h1, h2⟩ := h
  exact hf v i h h1 h2
theorem Dr.pbind {α β : Type} {b : List Int} {o : Option α} {a : α} {f : α → Option (β × TCur)} {Q : β → Prop} (h : o = some a) (hf : Dr b (f a) Q) : Dr b (o.bind f) Q := by
  subst h; exact hf
theorem Dr.ebind {α β : Type} {b : List Int} {o : Option α} {P : α → Prop} {f : α → Option (β × TCur)} {Q : β → Prop} (h : ∃ a, o = some a ∧ P a) (hf : ∀ a, P a → Dr b (f a) Q) : Dr b (o.bind f) Q := by
  obtain ⟨a, rfl, hp⟩ := h; exact hf a hp
theorem Dr.ret {α : Type} {b : List Int} {v : α} {i h : Int} {P : α → Prop} (hi : okI b i) (hp : P v) : Dr b (some (v, ⟨b, i, h⟩)) P := ⟨v, i, h, rfl, hi, hp⟩
theorem Dr.ite {α : Type} {b : List Int} {c : Prop} [Decidable c] {x y : Option (α × TCur)} {P : α → Prop} (h1 : c → Dr b x P) (h2 : ¬ c → Dr b y P) : Dr b (if c then x else y) P := by
  by_cases h : c
  · rw [if_pos h]; exact h1 h
  · rw [if_neg h]; exact h2 h
theorem Dr.mono {α : Type} {b : List Int} {o : Option (α × TCur)} {P Q : α → Prop} (h : Dr b o P) (hpq : ∀ v, P v → Q v) : Dr b o Q := by
  obtain ⟨v, i, h, h0, h1, h2⟩ := h
  exact ⟨v, i, h, h0, h1, hpq v h2⟩
theorem below_dr {b : List Int} {i h : Int} (hi : okI b i) (hl : b.length ≤ 1048576) (n : Int) : Dr b (spec_l1Below ⟨b, i, h⟩ n) (fun v => 0 ≤ v ∧ (0 < n → v < n)) := by
  obtain ⟨v, i', h', e, o, h0, h1, _⟩ := below_ok (h := h) hi hl n
  exact ⟨v, i', h', e, o, h0, h1⟩
theorem once_dr {b : List Int} {i h : Int} (hi : okI b i) (hl : b.length ≤ 1048576) (n : Int) : Dr b (spec_l1Once ⟨b, i, h⟩ n) (fun _ => True) := by
  obtain ⟨v, i', h', e, o⟩ := once_ok (h := h) hi hl n
  exact ⟨v, i', h', e, o, trivial⟩
theorem int_dr {b : List Int} {i h : Int} (hi : okI b i) (hl : b.length ≤ 1048576) {l : List Int} (hn : 0 < l.length) : Dr b (spec_l1Int ⟨b, i, h⟩ l) (· ∈ l) := by
  obtain ⟨v, i', h', e, o, h1⟩ := int_ok (h := h) hi hl hn
  exact ⟨v, i', h', e, o, h1⟩
theorem Ne.ite {β : Type} {c : Prop} [Decidable c] {x y : Option β} {Q : β → Prop} (h1 : c → ∃ r, x = some r ∧ Q r) (h2 : ¬ c → ∃ r, y = some r ∧ Q r) : ∃ r, (if c then x else y) = some r ∧ Q r := by
  by_cases h : c
  · rw [if_pos h]; exact h1 h
  · rw [if_neg h]; exact h2 h
theorem Ne.pbind {α β : Type} {o : Option α} {a : α} {f : α → Option β} {Q : β → Prop} (h : o = some a) (hf : ∃ r, f a = some r ∧ Q r) : ∃ r, o.bind f = some r ∧ Q r := by
  subst h; exact hf
theorem Ne.ebind {α β : Type} {o : Option α} {P : α → Prop} {f : α → Option β} {Q : β → Prop} (h : ∃ a, o = some a ∧ P a) (hf : ∀ a, P a → ∃ r, f a = some r ∧ Q r) : ∃ r, o.bind f = some r ∧ Q r := by
  obtain ⟨a, rfl, hp⟩ := h; exact hf a hp

theorem impl_in_eq (x a b : Int) : impl_in x a b = some (decide (a ≤ x ∧ x ≤ b)) := by simp [impl_in, Bool.decide_and]

theorem spec_in_eq (x a b : Int) : spec_l1In x a b = some (decide (a ≤ x ∧ x ≤ b)) := by simp [spec_l1In, Bool.decide_and, ge_iff_le]


def boxOkP (b : TBox) : Prop := 0 ≤ b.X0 ∧ b.X0 ≤ b.X1 ∧ b.X1 ≤ 255 ∧ 0 ≤ b.Y0 ∧ b.Y0 ≤ b.Y1 ∧ b.Y1 ≤ 255
instance (b : TBox) : Decidable (boxOkP b) := by unfold boxOkP; infer_instance
theorem spec_boxOk_eq (b : TBox) : spec_BoxOk b = some (decide (boxOkP b)) := by
  simp only [spec_BoxOk, spec_in_eq, some_bind, and_if]
  exact some_dec (by unfold boxOkP; omega)
theorem impl_boxOk_eq (b : TBox) : impl_BoxOk b = some (decide (boxOkP b)) := by
  simp only [impl_BoxOk, impl_in_eq, some_bind, and_if]
  exact some_dec (by unfold boxOkP; omega)

def entryAt (l : List TEntry) (n : Int) : Int := match firstN (fun i => decide ((gt l (i : Int)).N = n)) l.length with
  | some i => (i : Int)
  | none => -1
theorem spec_entryAt_eq {k : Nat} (hk : Big k) {l : List TEntry} (hl : l.length ≤ 2097152) (n : Int) : spec_EntryAt k l n = some (entryAt l n) := by
  have h := loop_first (b := spec_EntryAt_b0 l n) (k := k) (n := l.length) (fun i => (i : Int)) (fun i => decide ((gt l (i : Int)).N = n)) (fun i => .ret (i : Int)) (by omega) hk (fun i t h => by cases h)
    (fun i hi => by
      have c1 : decide ((i : Int) < ((List.length l : Nat) : Int)) = true := by simp; omega
      have c2 : (0 : Int) ≤ (i : Int) ∧ (i : Int) < ((List.length l : Nat) : Int) := by omega
      simp only [spec_EntryAt_b0, if_pos c1, if_pos c2, w64s (n := i) (by omega)]
      split <;> rfl)
    (by simp only [spec_EntryAt_b0]; rw [if_neg (by simp)])
  have h' : loopM (spec_EntryAt_b0 l n) k 0 = _ := h
  rw [spec_EntryAt, h', entryAt]
  cases firstN (fun i => decide ((gt l (i : Int)).N = n)) l.length <;> rfl
theorem impl_entryAt_eq {k : Nat} (hk : Big k) {l : List TEntry} (hl : l.length ≤ 2097152) (n : Int) : impl_EntryAt k l n = some (entryAt l n) := by
  have h := loop_first (b := slices_IndexFunc_impl_Entry_impl_Entry_impl_EntryAt_1_b0 l) (k := k) (n := l.length) (fun i => ((i : Int), n)) (fun i => decide ((gt l (i : Int)).N = n)) (fun i => .ret ((i : Int), n)) (by omega) hk (fun i t h => by cases h)
    (fun i hi => by
      have c1 : decide ((i : Int) < ((List.length l : Nat) : Int)) = true := by simp; omega
      have c2 : (0 : Int) ≤ (i : Int) ∧ (i : Int) < ((List.length l : Nat) : Int) := by omega
      simp only [slices_IndexFunc_impl_Entry_impl_Entry_impl_EntryAt_1_b0, impl_EntryAt_1, some_bind, if_pos c1, if_pos c2, w64s (n := i) (by omega)]
      split <;> rfl)
    (by simp only [slices_IndexFunc_impl_Entry_impl_Entry_impl_EntryAt_1_b0]; rw [if_neg (by simp)])
  have h' : loopM (slices_IndexFunc_impl_Entry_impl_Entry_impl_EntryAt_1_b0 l) k (0, n) = _ := h
  rw [impl_EntryAt, slices_IndexFunc_impl_Entry_impl_Entry_impl_EntryAt_1, h', entryAt]
  cases firstN (fun i => decide ((gt l (i : Int)).N = n)) l.length <;> rfl

def badEntry (p : TNode) (i : Nat) : Prop := ¬ boxOkP (gt p.L (i : Int)).R ∨ entryAt p.L (gt p.L (i : Int)).N ≠ (i : Int) ∨ (p.Leaf = true ∧ ¬ (1 ≤ (gt p.L (i : Int)).N ∧ (gt p.L (i : Int)).N ≤ 999)) ∨ (p.Leaf = false ∧ ¬ (0 ≤ (gt p.L (i : Int)).N ∧ (gt p.L (i : Int)).N ≤ 47))
instance (p : TNode) (i : Nat) : Decidable (badEntry p i) := by unfold badEntry; infer_instance
def nodeOk (p : TNode) : Bool := (firstN (fun i => decide (badEntry p i)) p.L.length).isNone && decide (p.L.length ≤ 4) && (p.Leaf || decide (p.L.length > 0))
theorem spec_nodeOk_eq {k : Nat} (hk : Big k) {p : TNode} (hl : p.L.length ≤ 2097152) : spec_NodeOk k p = some (nodeOk p) := by
  have h := loop_first (b := spec_NodeOk_b0 k p) (k := k) (n := p.L.length) (fun i => (i : Int)) (fun i => decide (badEntry p i)) (fun i => .ret false) (by omega) hk (fun i t h => by cases h)
    (fun i hi => by
      have c1 : decide ((i : Int) < ((List.length p.L : Nat) : Int)) = true := by simp; omega
      have c2 : (0 : Int) ≤ (i : Int) ∧ (i : Int) < ((List.length p.L : Nat) : Int) := by omega
      simp only [spec_NodeOk_b0, if_pos c1, if_pos c2, w64s (n := i) (by omega), spec_boxOk_eq, spec_entryAt_eq hk hl, spec_in_eq, some_bind]
      by_cases hA : boxOkP (gt p.L (i : Int)).R <;> by_cases hB : entryAt p.L (gt p.L (i : Int)).N = (i : Int) <;> cases hL : p.Leaf <;>
        by_cases hC : 1 ≤ (gt p.L (i : Int)).N ∧ (gt p.L (i : Int)).N ≤ 999 <;> by_cases hD : 0 ≤ (gt p.L (i : Int)).N ∧ (gt p.L (i : Int)).N ≤ 47 <;> simp [badEntry, hA, hB, hC, hD, hL])
    (by simp only [spec_NodeOk_b0]; rw [if_neg (by simp)])
  have h' : loopM (spec_NodeOk_b0 k p) k 0 = _ := h
  rw [spec_NodeOk, h', nodeOk]
  cases firstN (fun i => decide (badEntry p i)) p.L.length
  · have e1 : decide (((List.length p.L : Nat) : Int) ≤ 4) = decide (p.L.length ≤ 4) := decide_eq_decide.2 (by omega)
    have e2 : decide (((List.length p.L : Nat) : Int) > 0) = decide (p.L.length > 0) := decide_eq_decide.2 (by omega)
    simp only [some_bind, e1, e2, Option.isNone_none, Bool.true_and]
  · rfl
theorem impl_nodeOk_eq {k : Nat} (hk : Big k) {p : TNode} (hl : p.L.length ≤ 2097152) : impl_NodeOk k p = some (nodeOk p) := by
  have h := loop_first (b := impl_NodeOk_b0 k p) (k := k) (n := p.L.length) (fun i => (i : Int)) (fun i => decide (badEntry p i)) (fun i => .ret false) (by omega) hk (fun i t h => by cases h)
    (fun i hi => by
      have c1 : decide ((i : Int) < ((List.length p.L : Nat) : Int)) = true := by simp; omega
      have c2 : (0 : Int) ≤ (i : Int) ∧ (i : Int) < ((List.length p.L : Nat) : Int) := by omega
      simp only [impl_NodeOk_b0, if_pos c1, if_pos c2, w64s (n := i) (by omega), impl_boxOk_eq, impl_entryAt_eq hk hl, impl_in_eq, some_bind]
      by_cases hA : boxOkP (gt p.L (i : Int)).R <;> by_cases hB : entryAt p.L (gt p.L (i : Int)).N = (i : Int) <;> cases hL : p.Leaf <;>
        by_cases hC : 1 ≤ (gt p.L (i : Int)).N ∧ (gt p.L (i : Int)).N ≤ 999 <;> by_cases hD : 0 ≤ (gt p.L (i : Int)).N ∧ (gt p.L (i : Int)).N ≤ 47 <;> simp [badEntry, hA, hB, hC, hD, hL])
    (by simp only [impl_NodeOk_b0]; rw [if_neg (by simp)])
  have h' : loopM (impl_NodeOk_b0 k p) k 0 = _ := h
  rw [impl_NodeOk, h', nodeOk]
  by_cases h4 : p.L.length ≤ 4
  · have e4 : decide (((List.length p.L : Nat) : Int) > 4) = false := decide_eq_false (by omega)
    by_cases h0 : p.L.length > 0
    · have e0 : decide (((List.length p.L : Nat) : Int) = 0) = false := decide_eq_false (by omega)
      rw [e4, e0, Bool.and_false, if_neg (by decide)]
      cases firstN (fun i => decide (badEntry p i)) p.L.length <;> simp [h4, h0]
    · have e0 : decide (((List.length p.L : Nat) : Int) = 0) = true := decide_eq_true (by omega)
      cases hL : p.Leaf
      · rw [e4, e0, if_pos (by decide)]; simp [h0]
      · rw [e4, e0, if_neg (by decide)]
        cases firstN (fun i => decide (badEntry p i)) p.L.length <;> simp [h4]
  · have e4 : decide (((List.length p.L : Nat) : Int) > 4) = true := decide_eq_true (by omega)
    rw [e4, Bool.true_or, if_pos (by decide)]
    simp [h4]
theorem nodeOk_facts {p : TNode} (h : nodeOk p = true) : p.L.length ≤ 4 ∧ (∀ i, i < p.L.length → ¬ badEntry p i) ∧ (p.Leaf = false → 0 < p.L.length) := by
  unfold nodeOk at h
  simp only [Bool.and_eq_true, decide_eq_true_eq, Bool.or_eq_true, Option.isNone_iff_eq_none] at h
  obtain ⟨⟨h1, h2⟩, h3⟩ := h
  exact ⟨h2, fun i hi => by simpa using firstN_none h1 i hi, fun hL => by rcases h3 with h | h; rw [hL] at h; cases h; exact h⟩

theorem least_eq (a c : Int) : spec_Least a c = some (if c < a then c else a) := by
  rw [spec_Least]
  by_cases h : c < a
  · rw [if_pos (by simpa using h), if_pos h]
  · rw [if_neg (by simpa using h), if_neg h]
theorem box_of {x y d e : Int} (hx : 0 ≤ x ∧ x < 250) (hy : 0 ≤ y ∧ y < 250) (hd : 0 ≤ d ∧ d ≤ 40) (he : 0 ≤ e ∧ e ≤ 40) :
    boxOkP ⟨x, y, if wrap64 (x + d) < 255 then wrap64 (x + d) else 255, if wrap64 (y + e) < 255 then wrap64 (y + e) else 255⟩ := by
  rw [w64 (n := x + d) (by omega) (by omega), w64 (n := y + e) (by omega) (by omega)]
  unfold boxOkP
  simp only
  split <;> split <;> omega
theorem l2draw_dr {b : List Int} {i h : Int} (hi : okI b i) (hl : b.length ≤ 1048576) : Dr b (spec_l2Draw ⟨b, i, h⟩) boxOkP := by
  have h5 : ∀ d : Int, d ∈ ([0, 1, 5, 9, 40] : List Int) → 0 ≤ d ∧ d ≤ 40 := fun d hd => by
    simp only [List.mem_cons, List.not_mem_nil, or_false] at hd
    omega
  have h4 : ∀ d : Int, d ∈ ([0, 1, 3, 12] : List Int) → 0 ≤ d ∧ d ≤ 40 := fun d hd => by
    simp only [List.mem_cons, List.not_mem_nil, or_false] at hd
    omega
  rw [spec_l2Draw]
  refine Dr.bind (below_dr hi hl 250) fun x i1 h1 o1 hx => ?_
  refine Dr.bind (below_dr o1 hl 250) fun y i2 h2 o2 hy => ?_
  refine Dr.bind (once_dr o2 hl 2) fun c i3 h3 o3 _ => ?_
  refine Dr.ite (fun _ => ?_) fun _ => ?_
  · refine Dr.bind (below_dr o3 hl 20) fun u i4 h4' o4 hu => ?_
    refine Dr.bind (below_dr o4 hl 20) fun v i5 h5' o5 hv => ?_
    refine Dr.bind (int_dr o5 hl (by simp)) fun d i6 h6 o6 hd => ?_
    refine Dr.pbind (least_eq _ _) ?_
    refine Dr.bind (int_dr o6 hl (by simp)) fun e i7 h7 o7 he => ?_
    refine Dr.pbind (least_eq _ _) ?_
    have hu' := hu.2 (by decide)
    have hv' := hv.2 (by decide)
    exact Dr.ret o7 (box_of ⟨hu.1, by omega⟩ ⟨hv.1, by omega⟩ (h5 d hd) (h4 e he))
  · refine Dr.bind (int_dr o3 hl (by simp)) fun d i6 h6 o6 hd => ?_
    refine Dr.pbind (least_eq _ _) ?_
    refine Dr.bind (int_dr o6 hl (by simp)) fun e i7 h7 o7 he => ?_
    refine Dr.pbind (least_eq _ _) ?_
    exact Dr.ret o7 (box_of ⟨hx.1, hx.2 (by decide)⟩ ⟨hy.1, hy.2 (by decide)⟩ (h5 d hd) (h4 e he))
def goodI (x : TItem) : Prop := boxOkP x.R ∧ 1 ≤ x.Id ∧ x.Id ≤ 30
theorem l4draw_dr {b : List Int} {i h : Int} (hi : okI b i) (hl : b.length ≤ 1048576) : Dr b (spec_l4Draw ⟨b, i, h⟩) goodI := by
  rw [spec_l4Draw]
  refine Dr.bind (below_dr hi hl 30) fun x i1 h1 o1 hx => ?_
  refine Dr.bind (l2draw_dr o1 hl) fun y i2 h2 o2 hy => ?_
  have hx' := hx.2 (by decide)
  have hx0 := hx.1
  refine Dr.ret o2 ⟨hy, ?_, ?_⟩
  · show 1 ≤ wrap64 (1 + x); rw [w64 (by omega) (by omega)]; omega
  · show wrap64 (1 + x) ≤ 30; rw [w64 (by omega) (by omega)]; omega
theorem spec_itemAt_ex {k : Nat} (hk : Big k) {l : List TItem} (hl : l.length ≤ 2097152) (n : Int) : ∃ v, spec_ItemAt k l n = some v ∧ (v < 0 → ∀ x ∈ l, x.Id ≠ n) := by
  have h := loop_first (b := spec_ItemAt_b0 l n) (k := k) (n := l.length) (fun i => (i : Int)) (fun i => decide ((gt l (i : Int)).Id = n)) (fun i => .ret (i : Int)) (by omega) hk (fun i t h => by cases h)
    (fun i hi => by
      have c1 : decide ((i : Int) < ((List.length l : Nat) : Int)) = true := by simp; omega
      have c2 : (0 : Int) ≤ (i : Int) ∧ (i : Int) < ((List.length l : Nat) : Int) := by omega
      simp only [spec_ItemAt_b0, if_pos c1, if_pos c2, w64s (n := i) (by omega)]
      split <;> rfl)
    (by simp only [spec_ItemAt_b0]; rw [if_neg (by simp)])
  have h' : loopM (spec_ItemAt_b0 l n) k 0 = _ := h
  rw [spec_ItemAt, h']
  cases hf : firstN (fun i => decide ((gt l (i : Int)).Id = n)) l.length with
  | none =>
    refine ⟨-1, rfl, fun _ x hx => ?_⟩
    obtain ⟨j, hj, rfl⟩ := List.getElem_of_mem hx
    have := firstN_none hf j hj
    rw [gt_nat hj] at this
    simpa using this
  | some j => exact ⟨(j : Int), rfl, fun h => by omega⟩
def goodIs (l : List TItem) : Prop := (∀ x ∈ l, goodI x) ∧ l.Pairwise (fun x y => x.Id ≠ y.Id)
theorem l4list_dr {k : Nat} (hk : Big k) {b : List Int} {i h : Int} (hi : okI b i) (hl : b.length ≤ 1048576) {n : Int} (hn0 : 0 ≤ n) (hn : n ≤ 4096) : Dr b (spec_l4List k ⟨b, i, h⟩ n) (fun l => (l.length : Int) ≤ n ∧ goodIs l) := by
  rw [spec_l4List]
  refine Dr.bind (below_dr hi hl _) fun m i1 h1 o1 hm => ?_
  rw [w64 (n := n + 1) (by omega) (by omega)] at hm
  have hm0 := hm.1
  have hm1 := hm.2 (by omega)
  obtain ⟨o, e, hQ⟩ := loopM_ends (b := spec_l4List_b0 k ⟨b, i, h⟩) (fun s => 0 ≤ s.2.1 ∧ (s.1.length : Int) + s.2.1 ≤ n ∧ okI b s.2.2.1 ∧ goodIs s.1) (fun s => s.2.1.toNat) (fun o => ∃ l r i' h', o = .out (l, r, i', h') ∧ okI b i' ∧ (l.length : Int) ≤ n ∧ goodIs l) (fun s hs => by
      obtain ⟨l, r, i', h'⟩ := s
      obtain ⟨q0, q1, q2, q3⟩ := hs
      simp only at q0 q1 q2 q3
      simp only [spec_l4List_b0]
      by_cases hr : r > 0
      · obtain ⟨x, i2, h2, ex, o2, hx⟩ := l4draw_dr (h := h') q2 hl
        obtain ⟨v, ev, hv⟩ := spec_itemAt_ex hk (l := l) (by omega) x.Id
        rw [if_pos (by simpa using hr), ex, some_bind]
        simp only [ev, some_bind]
        rw [w64 (n := r - 1) (by omega) (by omega)]
        by_cases hneg : v < 0
        · rw [if_pos (by simpa using hneg), if_pos (okLen_iff.2 (by simp; omega))]
          refine ⟨_, rfl, ⟨by simp only; omega, by simp; omega, o2, fun y hy => ?_, ?_⟩, by simp only; omega⟩
          · simp only [List.mem_append, List.mem_cons, List.not_mem_nil, or_false] at hy
            rcases hy with hy | rfl
            · exact q3.1 y hy
            · exact hx
          · rw [List.pairwise_append]
            refine ⟨q3.2, by simp, fun y hy z hz => ?_⟩
            simp only [List.mem_cons, List.not_mem_nil, or_false] at hz
            subst hz
            exact hv hneg y hy
        · rw [if_neg (by simpa using hneg)]
          exact ⟨_, rfl, ⟨by simp only; omega, by simp only; omega, o2, q3⟩, by simp only; omega⟩
      · rw [if_neg (by simpa using hr)]
        exact ⟨_, rfl, _, _, _, _, rfl, q2, by omega, q3⟩) k (([] : List TItem), m, i1, h1) ⟨hm0, by simp; omega, o1, by simp, by simp⟩ (by have : 9223372036854775808 ≤ k := hk; simp only; omega)
  obtain ⟨l, r, i', h', rfl, p1, p2, p3⟩ := hQ
  refine Dr.pbind e ?_
  exact Dr.ret p1 ⟨p2, p3⟩
def leafL (l : List TItem) : List TEntry := l.map fun x => ⟨x.Id, x.R⟩
theorem spec_leafOf_eq {k : Nat} (hk : Big k) {l : List TItem} (hl : l.length ≤ 2097152) : spec_LeafOf k l = some ⟨true, leafL l⟩ := by
  obtain ⟨o, e, hQ⟩ := loopM_ends (b := spec_LeafOf_b0 l) (fun s => ∃ j : Nat, j ≤ l.length ∧ s = ((j : Int), leafL (l.take j))) (fun s => l.length - s.1.toNat) (fun o => ∃ j, o = .out (j, leafL l)) (fun s hs => by
      obtain ⟨j, hj, rfl⟩ := hs
      simp only [spec_LeafOf_b0]
      rcases Nat.lt_or_ge j l.length with hlt | hge
      · have c2 : (0 : Int) ≤ (j : Int) ∧ (j : Int) < ((List.length l : Nat) : Int) := by omega
        rw [if_pos (by simp; omega), if_pos c2, if_pos c2, if_pos (okLen_iff.2 (by simp [leafL]; omega)), w64s (by omega), gt_nat hlt]
        refine ⟨_, rfl, ⟨j + 1, hlt, ?_⟩, by simp only; omega⟩
        rw [List.take_succ_eq_append_getElem hlt, leafL, leafL, List.map_append]
        rfl
      · have : j = l.length := by omega
        subst this
        rw [if_neg (by simp), List.take_length]
        exact ⟨_, rfl, _, rfl⟩) k (0, ([] : List TEntry)) ⟨0, Nat.zero_le _, rfl⟩ (by have : 9223372036854775808 ≤ k := hk; simp only; omega)
  obtain ⟨j, rfl⟩ := hQ
  rw [spec_LeafOf, e, some_bind]
def goodE (x : TEntry) : Prop := boxOkP x.R ∧ 1 ≤ x.N ∧ x.N ≤ 30
def goodN (p : TNode) : Prop := p.L.length ≤ 4 ∧ ((∀ x ∈ p.L, goodE x) ∧ p.L.Pairwise (fun x y => x.N ≠ y.N)) ∧ (p.Leaf = false → 0 < p.L.length)
theorem leafL_good {l : List TItem} (h : goodIs l) : (∀ x ∈ leafL l, goodE x) ∧ (leafL l).Pairwise (fun x y => x.N ≠ y.N) := by
  refine ⟨fun x hx => ?_, ?_⟩
  · obtain ⟨y, hy, rfl⟩ := List.mem_map.1 hx
    exact h.1 y hy
  · exact List.pairwise_map.2 h.2
theorem l5draw_dr {k : Nat} (hk : Big k) {b : List Int} {i h : Int} (hi : okI b i) (hl : b.length ≤ 1048576) : Dr b (spec_l5Draw k ⟨b, i, h⟩) goodN := by
  rw [spec_l5Draw]
  refine Dr.bind (l4list_dr hk hi hl (n := 4) (by omega) (by omega)) fun l i1 h1 o1 hq => ?_
  have hll : l.length ≤ 4 := by have := hq.1; omega
  refine Dr.pbind (spec_leafOf_eq hk (l := l) (by omega)) ?_
  have hg := leafL_good hq.2
  have hlen : (leafL l).length = l.length := by simp [leafL]
  refine Dr.ebind (P := fun c => (c.1 = true → 0 < l.length) ∧ okI b c.2.1) ?_ fun c hc => ?_
  · by_cases h0 : ((List.length l : Nat) : Int) > 0
    · obtain ⟨c, i2, h2, e2, o2⟩ := once_ok (h := h1) o1 hl 3
      refine ⟨(c, i2, h2), ?_, ⟨fun _ => by omega, o2⟩⟩
      rw [if_pos (by simpa using h0)]
      simp only [e2, some_bind]
    · exact ⟨(false, i1, h1), by rw [if_neg (by simpa using h0)], ⟨(fun h => by cases h), o1⟩⟩
  · refine Dr.ite (fun h' => Dr.ret hc.2 ⟨by simp only [hlen]; exact hll, hg, fun _ => by simp only [hlen]; exact hc.1 h'⟩) fun _ => Dr.ret hc.2 ⟨by simp only [hlen]; exact hll, hg, fun h => by cases h⟩
theorem entryAt_uniq {l : List TEntry} (h : l.Pairwise (fun x y => x.N ≠ y.N)) {i : Nat} (hi : i < l.length) : entryAt l (gt l (i : Int)).N = (i : Int) := by
  unfold entryAt
  cases hf : firstN (fun j => decide ((gt l (j : Int)).N = (gt l (i : Int)).N)) l.length with
  | none => exact absurd (firstN_none hf i hi) (by simp)
  | some j =>
    obtain ⟨h1, h2, h3⟩ := firstN_some hf
    simp only
    rw [gt_nat hi, gt_nat h1] at h2
    have h2' : l[j].N = l[i].N := by simpa using h2
    rcases Nat.lt_trichotomy j i with hlt | rfl | hgt
    · exact absurd h2' (List.pairwise_iff_getElem.1 h j i h1 hi hlt)
    · rfl
    · exact absurd h2'.symm (List.pairwise_iff_getElem.1 h i j hi h1 hgt)
theorem firstN_all {c : Nat → Bool} {n : Nat} (h : ∀ i, i < n → c i = false) : firstN c n = none := by
  cases hf : firstN c n with
  | none => rfl
  | some j => obtain ⟨h1, h2, _⟩ := firstN_some hf; rw [h j h1] at h2; cases h2
theorem goodN_ok {p : TNode} (h : goodN p) : nodeOk p = true := by
  have e : firstN (fun i => decide (badEntry p i)) p.L.length = none := firstN_all fun i hi => by
    have hg := h.2.1.1 _ (List.getElem_mem hi)
    have hu := entryAt_uniq h.2.1.2 hi
    rw [decide_eq_false_iff_not]
    unfold badEntry
    rw [hu, gt_nat hi]
    obtain ⟨g1, g2, g3⟩ := hg
    rintro (hh | hh | hh | hh)
    · exact hh g1
    · exact hh rfl
    · exact hh.2 ⟨by omega, by omega⟩
    · exact hh.2 ⟨by omega, by omega⟩
  unfold nodeOk
  rw [e]
  have h1 := h.1
  cases hL : p.Leaf
  · have := h.2.2 hL
    simp [h1, this]
  · simp [h1]

def pg (t : TTx) (i : Nat) : Int := (gt t.Puts (i : Int)).Page
def badTx (t : TTx) (i : Nat) : Bool := !decide (0 ≤ pg t i ∧ pg t i ≤ wrap64 (t.Size - 1)) || (List.range i).any (fun j => decide (pg t j = pg t i)) || !nodeOk (gt t.Puts (i : Int)).N
def numsOk (t : TTx) : Bool := decide (1 ≤ t.Seq ∧ t.Seq ≤ 65535) && decide (1 ≤ t.Size ∧ t.Size ≤ 48) && decide (0 ≤ t.Root ∧ t.Root ≤ wrap64 (t.Size - 1))
def txOk (t : TTx) : Bool := (firstN (badTx t) t.Puts.length).isNone && numsOk t
def smTx (t : TTx) : Prop := t.Puts.length ≤ 2097152 ∧ ∀ y ∈ t.Puts, y.N.L.length ≤ 2097152
theorem spec_txOk_eq {k : Nat} (hk : Big k) {t : TTx} (h : smTx t) : spec_TxOk k t = some (txOk t) := by
  have hl := h.1
  have h2 := loop_first (b := spec_TxOk_b2 k t) (k := k) (n := t.Puts.length) (fun i => (i : Int)) (badTx t) (fun i => .ret false) (by omega) hk (fun i t h => by cases h)
    (fun i hi => by
      have c1 : decide ((i : Int) < ((List.length t.Puts : Nat) : Int)) = true := by simp; omega
      have c2 : (0 : Int) ≤ (i : Int) ∧ (i : Int) < ((List.length t.Puts : Nat) : Int) := by omega
      have hn : (gt t.Puts (i : Int)).N.L.length ≤ 2097152 := by rw [gt_nat hi]; exact h.2 _ (List.getElem_mem hi)
      have h3 := loop_first (b := spec_TxOk_b3 t (i : Int)) (k := k) (n := i) (fun j => (j : Int)) (fun j => decide (pg t j = pg t i)) (fun i => .ret false) (by omega) hk (fun i t h => by cases h)
        (fun j hj => by
          have d1 : decide ((j : Int) < (i : Int)) = true := by simp; omega
          have d2 : (0 : Int) ≤ (j : Int) ∧ (j : Int) < ((List.length t.Puts : Nat) : Int) := by omega
          simp only [spec_TxOk_b3, if_pos d1, if_pos d2, if_pos c2, w64s (n := j) (by omega), pg]
          exact some_ite _ _ _)
        (by simp only [spec_TxOk_b3]; rw [if_neg (by simp)])
      have h3' : loopM (spec_TxOk_b3 t (i : Int)) k 0 = _ := h3
      simp only [spec_TxOk_b2, if_pos c1, if_pos c2, w64s (n := i) (by omega), spec_nodeOk_eq hk hn, spec_in_eq, some_bind, h3', badTx, firstN_any]
      have ep : (gt t.Puts (i : Int)).Page = pg t i := rfl
      rw [ep]
      by_cases hA : 0 ≤ pg t i ∧ pg t i ≤ wrap64 (t.Size - 1) <;> cases hB : nodeOk (gt t.Puts (i : Int)).N <;> cases hC : firstN (fun j => decide (pg t j = pg t i)) i <;> simp [hA])
    (by simp only [spec_TxOk_b2]; rw [if_neg (by simp)])
  have h2' : loopM (spec_TxOk_b2 k t) k 0 = _ := h2
  rw [spec_TxOk, h2', txOk]
  cases firstN (badTx t) t.Puts.length
  · simp only [some_bind, spec_in_eq, Option.isNone_none, Bool.true_and, numsOk]
    generalize decide (1 ≤ t.Seq ∧ t.Seq ≤ 65535) = a
    generalize decide (1 ≤ t.Size ∧ t.Size ≤ 48) = b
    generalize decide (0 ≤ t.Root ∧ t.Root ≤ wrap64 (t.Size - 1)) = c
    cases a <;> cases b <;> cases c <;> rfl
  · rfl
theorem impl_numsOk_eq (t : TTx) : impl_Tx_numbersOk t = some (numsOk t) := by
  simp only [impl_Tx_numbersOk, impl_in_eq, some_bind, numsOk]
  generalize decide (1 ≤ t.Seq ∧ t.Seq ≤ 65535) = a
  generalize decide (1 ≤ t.Size ∧ t.Size ≤ 48) = b
  generalize decide (0 ≤ t.Root ∧ t.Root ≤ wrap64 (t.Size - 1)) = c
  cases a <;> cases b <;> cases c <;> rfl

def pad (l : List Int) (n : Int) : List Int := if n ≤ 64 then l ++ List.replicate (n.toNat - l.length) 0 else l
theorem pad_len {l : List Int} {n : Int} (h0 : (l.length : Int) ≤ n) (h : n ≤ 64) : (pad l n).length = n.toNat := by
  unfold pad; rw [if_pos h]; simp; omega
theorem pad_trace {ρ : Type} {b : List Int → Option (Nx (List Int) ρ)} {l : List Int} {n : Int} {k : Nat} (hk : Big k) (hn : n ≤ 64)
    (hb : ∀ m : List Int, (m.length : Int) < n → b m = some (.next (m ++ [0]))) (he : ∀ m : List Int, ¬ (m.length : Int) < n → b m = some (.out m)) :
    loopM b k l = some (.out (l ++ List.replicate (n.toNat - l.length) 0)) := by
  have key := loopM_run0 (b := b) (k := k) (fun j => l ++ List.replicate j (0 : Int)) (n.toNat - l.length) (r := .out (l ++ List.replicate (n.toNat - l.length) 0)) (fun t h => by cases h) ?_ ?_ (by have : 9223372036854775808 ≤ k := hk; omega)
  · simpa using key
  · intro j hj
    rw [hb _ (by simp; omega), List.replicate_succ', List.append_assoc]
  · exact he _ (by simp; omega)
theorem spec_pad_eq {k : Nat} (hk : Big k) {l : List Int} {n : Int} (hl : l.length ≤ 2097152) : spec_Pad k l n = some (pad l n) := by
  unfold spec_Pad pad
  rw [if_pos (okLen_iff.2 (by simp; omega)), List.nil_append]
  by_cases hn : n ≤ 64
  · rw [pad_trace hk hn]
    · simp [hn]
    · intro m hm
      simp only [spec_Pad_b0]
      rw [if_pos (by simp [hm, hn]), if_pos (okLen_iff.2 (by simp; omega))]
    · intro m hm
      simp only [spec_Pad_b0]
      rw [if_neg (by simp [hm])]
  · have : loopM (spec_Pad_b0 n) k l = some (.out l) :=
      loopM_run0 (b := spec_Pad_b0 n) (fun _ => l) 0 (fun t h => by cases h) (fun j hj => by omega) (by simp only [spec_Pad_b0]; rw [if_neg (by simp [hn])]) (by have : 9223372036854775808 ≤ k := hk; omega)
    rw [this]; simp [hn]
theorem impl_pad_eq {k : Nat} (hk : Big k) {l : List Int} {n : Int} (hl : l.length ≤ 2097152) : impl_Pad k l n = some (pad l n) := by
  unfold impl_Pad pad
  simp only [slices_Clone_byte_byte]
  rw [if_pos (okLen_iff.2 (by omega)), some_bind]
  by_cases hn : n ≤ 64
  · rw [if_neg (by simp; omega), pad_trace hk hn]
    · simp [hn]
    · intro m hm
      simp only [impl_Pad_b0]
      rw [if_pos (by simp [hm]), if_pos (okLen_iff.2 (by simp; omega))]
    · intro m hm
      simp only [impl_Pad_b0]
      rw [if_neg (by simp [hm])]
  · rw [if_pos (by simp; omega)]; simp [hn]

theorem l1odd_dr {b : List Int} {i h : Int} (hi : okI b i) (hl : b.length ≤ 1048576) : Dr b (spec_l1Odd ⟨b, i, h⟩) (fun _ => True) := by
  rw [spec_l1Odd]
  exact Dr.bind (int_dr hi hl (by simp)) fun x i1 h1 o1 hx => Dr.ret o1 trivial
theorem l1raw_dr {b : List Int} {i h : Int} (hi : okI b i) (hl : b.length ≤ 1048576) : Dr b (spec_l1Raw ⟨b, i, h⟩) (fun _ => True) := by
  rw [spec_l1Raw]
  refine Dr.bind (once_dr hi hl 2) fun x i1 h1 o1 hx => Dr.ite (fun _ => ?_) fun _ => ?_
  · exact Dr.bind (l1odd_dr o1 hl) fun x i1 h1 o1 hx => Dr.ret o1 trivial
  · exact Dr.bind (int_dr o1 hl (by simp)) fun x i1 h1 o1 hx => Dr.ret o1 trivial
theorem l2any_dr {b : List Int} {i h : Int} (hi : okI b i) (hl : b.length ≤ 1048576) : Dr b (spec_l2Any ⟨b, i, h⟩) (fun _ => True) := by
  rw [spec_l2Any]
  refine Dr.bind (l2draw_dr hi hl) fun x i1 h1 o1 hx => ?_
  refine Dr.bind (below_dr o1 hl 12) fun y i2 h2 o2 hy => ?_
  refine Dr.ite (fun _ => ?_) fun _ => Dr.ite (fun _ => ?_) fun _ => Dr.ite (fun _ => ?_) fun _ => Dr.ite (fun _ => ?_) fun _ => ?_
  · exact Dr.bind (l1raw_dr o2 hl) fun x i1 h1 o1 hx => Dr.ret o1 trivial
  · exact Dr.bind (l1raw_dr o2 hl) fun x i1 h1 o1 hx => Dr.ret o1 trivial
  · exact Dr.ret o2 trivial
  · exact Dr.ret o2 trivial
  · exact Dr.ret o2 trivial
theorem l5any_dr {k : Nat} (hk : Big k) {b : List Int} {i h : Int} (hi : okI b i) (hl : b.length ≤ 1048576) : Dr b (spec_l5Any k ⟨b, i, h⟩) (fun p => p.L.length ≤ 8) := by
  rw [spec_l5Any]
  refine Dr.bind (l5draw_dr hk hi hl) fun x i1 h1 o1 hx => ?_
  have hx4 := hx.1
  refine Dr.bind (below_dr o1 hl 12) fun y i2 h2 o2 hy => ?_
  refine Dr.ite (fun _ => ?_) fun _ => Dr.ite (fun _ => ?_) fun _ => Dr.ite (fun _ => ?_) fun _ => Dr.ite (fun _ => ?_) fun _ => Dr.ite (fun _ => ?_) fun _ => ?_
  · exact Dr.ret o2 (by simp only; omega)
  · refine Dr.bind (int_dr o2 hl (by simp)) fun z i3 h3 o3 hz => ?_
    refine Dr.bind (l2any_dr o3 hl) fun u i4 h4 o4 hu => ?_
    refine Dr.ite (fun _ => ?_) fun hn => absurd (okLen_iff.2 (by simp; omega)) hn
    exact Dr.ret o4 (by simp; omega)
  · obtain ⟨o, e, hQ⟩ := loopM_ends (b := spec_l5Any_b0 ⟨b, i, h⟩) (fun s => (s.1 ≤ 4 ∧ 0 ≤ s.1) ∧ okI b s.2.1 ∧ (s.2.2.2.length : Int) ≤ 4 + s.1) (fun s => (4 - s.1).toNat) (fun o => ∃ j i' h' l, o = .out (j, i', h', l) ∧ okI b i' ∧ l.length ≤ 8) (fun s hs => by
      obtain ⟨j, i', h', l⟩ := s
      obtain ⟨q0, q2, q3⟩ := hs
      simp only at q0 q2 q3
      simp only [spec_l5Any_b0]
      by_cases hj : j < 4
      · obtain ⟨x, i3, h3, ex, o3, _⟩ := l2draw_dr (h := h') q2 hl
        rw [if_pos (by simpa using hj), ex, some_bind, if_pos (okLen_iff.2 (by simp; omega)), w64 (n := j + 1) (by omega) (by omega)]
        exact ⟨_, rfl, ⟨by simp only; omega, o3, by simp; omega⟩, by simp only; omega⟩
      · rw [if_neg (by simpa using hj)]
        exact ⟨_, rfl, _, _, _, _, rfl, q2, by omega⟩) k (0, i2, h2, x.L) ⟨by simp, o2, by simp only; omega⟩ (by have : 9223372036854775808 ≤ k := hk; simp only; omega)
    obtain ⟨j, i', h', l, rfl, p1, p2⟩ := hQ
    refine Dr.pbind e ?_
    exact Dr.ret p1 p2
  · refine Dr.ite (fun _ => ?_) fun hn => absurd (okLen_iff.2 (by simp only; omega)) hn
    exact Dr.ret o2 (by simp; omega)
  · exact Dr.ret o2 (by simp)
  · exact Dr.ret o2 (by simp only; omega)
theorem l19change_dr {k : Nat} (hk : Big k) {b : List Int} {i h : Int} (hi : okI b i) (hl : b.length ≤ 1048576) : Dr b (spec_l19Change k ⟨b, i, h⟩) (fun c => c.N.L.length ≤ 8) := by
  rw [spec_l19Change]
  refine Dr.bind (below_dr hi hl 48) fun y i1 h1 o1 hy => ?_
  refine Dr.bind (l5draw_dr hk o1 hl) fun x i2 h2 o2 hx => ?_
  have hx4 := hx.1
  refine Dr.bind (below_dr o2 hl 8) fun z i3 h3 o3 hz => ?_
  refine Dr.ite (fun _ => ?_) fun _ => Dr.ite (fun _ => ?_) fun _ => ?_
  · exact Dr.bind (int_dr o3 hl (by simp)) fun u i4 h4 o4 hu => Dr.ret o4 (by simp only; omega)
  · exact Dr.bind (l5any_dr hk o3 hl) fun u i4 h4 o4 hu => Dr.ret o4 hu
  · exact Dr.ret o3 (by simp only; omega)
/-- A transaction as it is drawn: good. -/
def goodT (t : TTx) : Prop := (1 ≤ t.Seq ∧ t.Seq ≤ 99) ∧ (2 ≤ t.Size ∧ t.Size ≤ 9) ∧ (0 ≤ t.Root ∧ t.Root < t.Size) ∧ t.Puts.length ≤ 9 ∧ (∀ c ∈ t.Puts, goodN c.N ∧ 0 ≤ c.Page ∧ c.Page < t.Size) ∧ t.Puts.Pairwise (fun x y => x.Page < y.Page)
theorem l19draw_dr {k : Nat} (hk : Big k) {b : List Int} {i h : Int} (hi : okI b i) (hl : b.length ≤ 1048576) : Dr b (spec_l19Draw k ⟨b, i, h⟩) goodT := by
  rw [spec_l19Draw]
  refine Dr.bind (below_dr hi hl 9) fun s i1 h1 o1 hs => ?_
  refine Dr.bind (below_dr o1 hl 8) fun n i2 h2 o2 hn => ?_
  have hn0 := hn.1
  have hn1 := hn.2 (by decide)
  have hs0 := hs.1
  have hs1 := hs.2 (by decide)
  have ew : wrap64 (2 + n) = 2 + n := w64 (by omega) (by omega)
  refine Dr.bind (below_dr o2 hl _) fun r i3 h3 o3 hr => ?_
  have hr0 := hr.1
  have hr1 : r < wrap64 (2 + n) := hr.2 (by show 0 < wrap64 (2 + n); rw [ew]; omega)
  rw [ew] at hr1
  obtain ⟨o, e, hQ⟩ := loopM_ends (b := spec_l19Draw_b0 k ⟨b, i, h⟩ (n, ⟨b, i2, h2⟩)) (fun s => (0 ≤ s.1 ∧ s.1 ≤ 2 + n) ∧ okI b s.2.1 ∧ (s.2.2.2.length : Int) ≤ s.1 ∧ (∀ c ∈ s.2.2.2, goodN c.N ∧ 0 ≤ c.Page ∧ c.Page < s.1) ∧ s.2.2.2.Pairwise (fun x y => x.Page < y.Page)) (fun s => (2 + n - s.1).toNat)
    (fun o => ∃ j i' h' l, o = .out (j, i', h', l) ∧ okI b i' ∧ l.length ≤ 9 ∧ (∀ c ∈ l, goodN c.N ∧ 0 ≤ c.Page ∧ c.Page < 2 + n) ∧ l.Pairwise (fun x y => x.Page < y.Page)) (fun s hs => by
      obtain ⟨j, i', h', l⟩ := s
      obtain ⟨q0, q2, q3, q4, q5⟩ := hs
      simp only at q0 q2 q3 q4 q5
      simp only [spec_l19Draw_b0, ew]
      by_cases hj : j < 2 + n
      · obtain ⟨c, i3, h3, ec, o3, _⟩ := once_dr (h := h') q2 hl 3
        rw [if_pos (by simpa using hj), ec, some_bind, w64 (n := j + 1) (by omega) (by omega)]
        cases c
        · rw [if_neg (by simp)]
          exact ⟨_, rfl, ⟨by simp only; omega, o3, by simp only; omega, fun c hc => ⟨(q4 c hc).1, (q4 c hc).2.1, by have := (q4 c hc).2.2; simp only; omega⟩, q5⟩, by simp only; omega⟩
        · obtain ⟨x, i4, h4, ex, o4, hx⟩ := l5draw_dr hk (h := h3) o3 hl
          rw [if_pos rfl]
          simp only [ex, some_bind]
          rw [if_pos (okLen_iff.2 (by simp; omega))]
          refine ⟨_, rfl, ⟨by simp only; omega, o4, by simp; omega, fun c hc => ?_, ?_⟩, by simp only; omega⟩
          · simp only [List.mem_append, List.mem_cons, List.not_mem_nil, or_false] at hc
            rcases hc with hc | rfl
            · exact ⟨(q4 c hc).1, (q4 c hc).2.1, by have := (q4 c hc).2.2; simp only; omega⟩
            · exact ⟨hx, q0.1, by simp only; omega⟩
          · rw [List.pairwise_append]
            refine ⟨q5, by simp, fun y hy z hz => ?_⟩
            simp only [List.mem_cons, List.not_mem_nil, or_false] at hz
            subst hz
            exact (q4 y hy).2.2
      · rw [if_neg (by simpa using hj)]
        exact ⟨_, rfl, _, _, _, _, rfl, q2, by omega, fun c hc => ⟨(q4 c hc).1, (q4 c hc).2.1, by have := (q4 c hc).2.2; omega⟩, q5⟩) k (0, i3, h3, ([] : List TChange)) ⟨by simp only; omega, o3, by simp, by simp, by simp⟩ (by have : 9223372036854775808 ≤ k := hk; simp only; omega)
  obtain ⟨j, i', h', l, rfl, p1, p2, p3, p4⟩ := hQ
  refine Dr.pbind e ?_
  refine Dr.ret p1 ⟨?_, ?_, ?_, p2, ?_, p4⟩
  · show 1 ≤ wrap64 (1 + s) ∧ wrap64 (1 + s) ≤ 99
    rw [w64 (by omega) (by omega)]; omega
  · show 2 ≤ wrap64 (2 + n) ∧ wrap64 (2 + n) ≤ 9
    rw [ew]; omega
  · show 0 ≤ r ∧ r < wrap64 (2 + n)
    rw [ew]; exact ⟨hr0, hr1⟩
  · show ∀ c ∈ l, goodN c.N ∧ 0 ≤ c.Page ∧ c.Page < wrap64 (2 + n)
    rw [ew]; exact p3
theorem l19any_dr {k : Nat} (hk : Big k) {b : List Int} {i h : Int} (hi : okI b i) (hl : b.length ≤ 1048576) : Dr b (spec_l19Any k ⟨b, i, h⟩) (fun t => t.Puts.length ≤ 10 ∧ ∀ c ∈ t.Puts, c.N.L.length ≤ 8) := by
  rw [spec_l19Any]
  refine Dr.bind (l19draw_dr hk hi hl) fun t i1 h1 o1 ht => ?_
  have h9 := ht.2.2.2.1
  have h8 : ∀ c ∈ t.Puts, c.N.L.length ≤ 8 := fun c hc => by have := (ht.2.2.2.2.1 c hc).1.1; omega
  have hT : t.Puts.length ≤ 10 ∧ ∀ c ∈ t.Puts, c.N.L.length ≤ 8 := ⟨by omega, h8⟩
  refine Dr.bind (below_dr o1 hl 12) fun y i2 h2 o2 hy => ?_
  refine Dr.ite (fun _ => ?_) fun _ => Dr.ite (fun _ => ?_) fun _ => Dr.ite (fun _ => ?_) fun _ => Dr.ite (fun _ => ?_) fun _ => ?_
  · exact Dr.bind (int_dr o2 hl (by simp)) fun z i3 h3 o3 hz => Dr.ret o3 hT
  · exact Dr.bind (int_dr o2 hl (by simp)) fun z i3 h3 o3 hz => Dr.ret o3 hT
  · exact Dr.bind (int_dr o2 hl (by simp)) fun z i3 h3 o3 hz => Dr.ret o3 hT
  · refine Dr.bind (below_dr o2 hl 12) fun z i3 h3 o3 hz => ?_
    refine Dr.bind (l5any_dr hk o3 hl) fun u i4 h4 o4 hu => ?_
    refine Dr.ite (fun _ => ?_) fun hn => absurd (okLen_iff.2 (by simp; omega)) hn
    refine Dr.ret o4 ⟨by simp; omega, fun c hc => ?_⟩
    simp only [List.mem_append, List.mem_cons, List.not_mem_nil, or_false] at hc
    rcases hc with hc | rfl
    · exact h8 c hc
    · exact hu
  · exact Dr.ret o2 hT
theorem l19epoch_dr {b : List Int} {i h : Int} (hi : okI b i) (hl : b.length ≤ 1048576) : Dr b (spec_l19Epoch ⟨b, i, h⟩) (fun _ => True) := by
  rw [spec_l19Epoch]
  exact Dr.bind (int_dr hi hl (by simp)) fun x i1 h1 o1 hx => Dr.ret o1 trivial
theorem u8_wf (x : Int) : wfU8 (IntKind.u8.wrap x) := by
  rw [u8w]; constructor <;> omega

def put2 (l : List Int) (x : Int) : List Int := if 0 ≤ x ∧ x ≤ 65535 then l ++ [x / 256, x % 256] else l
theorem put2_len (l : List Int) (x : Int) : (put2 l x).length ≤ l.length + 2 := by
  unfold put2; split <;> simp
theorem spec_put2_eq {l : List Int} {x : Int} (h : okLen (l.length + 2) = true) : spec_Put2 l x = some (put2 l x) := by
  have h1 : okLen l.length = true := okLen_le h (by omega)
  simp only [spec_Put2, spec_in_eq, some_bind, List.nil_append, List.length_nil, Nat.zero_add, h1, if_true, List.length_cons, h, put2]
  by_cases hx : 0 ≤ x ∧ x ≤ 65535
  · have e1 : Int.tdiv x 256 = x / 256 := tdiv_pos hx.1
    have e2 : Int.tmod x 256 = x % 256 := tmod_pos hx.1
    simp only [hx, decide_true, Bool.not_true, Bool.false_eq_true, if_false, if_true, and_self, e1, e2, u8w]
    rw [w64 (by omega) (by omega)]
    have e3 : x / 256 % 256 = x / 256 := by omega
    have e4 : x % 256 % 256 = x % 256 := by omega
    rw [e3, e4]
  · simp [hx]
theorem impl_put2_eq {l : List Int} {x : Int} (h : okLen (l.length + 2) = true) : impl_Put2 l x = some (put2 l x) := by
  have h1 : okLen l.length = true := okLen_le h (by omega)
  simp only [impl_Put2, slices_Clone_byte_byte, impl_in_eq, some_bind, h1, if_true, List.length_cons, List.length_nil, Nat.zero_add, h, put2]
  by_cases hx : 0 ≤ x ∧ x ≤ 65535
  · simp only [hx, decide_true, Bool.not_true, Bool.false_eq_true, if_false, if_true, and_self, u8w, sh8]
    rw [fdiv_pos (by omega)]
    have e3 : x / 256 % 256 = x / 256 := by omega
    rw [e3]
  · simp [hx]

def putEntry (e : TEntry) : List Int := if (0 ≤ e.N ∧ e.N ≤ 65535) ∧ boxOkP e.R then put2 [] e.N ++ [e.R.X0 % 256, e.R.Y0 % 256, e.R.X1 % 256, e.R.Y1 % 256] else []
theorem putEntry_len (e : TEntry) : (putEntry e).length ≤ 6 := by
  unfold putEntry
  split
  · have h := put2_len [] e.N
    simp only [List.length_append, List.length_cons, List.length_nil] at *
    omega
  · simp
theorem spec_putEntry_eq (e : TEntry) : spec_PutEntry e = some (putEntry e) := by
  have h2 := put2_len [] e.N
  simp only [List.length_nil] at h2
  have k1 : okLen (([] : List Int).length + 2) = true := rfl
  have k2 : okLen ((put2 [] e.N).length + 4) = true := okLen_iff.2 (by omega)
  simp only [spec_PutEntry, spec_in_eq, spec_boxOk_eq, some_bind, spec_put2_eq (x := e.N) k1, putEntry, u8w, List.length_cons, List.length_nil, Nat.zero_add, Nat.reduceAdd, k2, if_true]
  by_cases hA : 0 ≤ e.N ∧ e.N ≤ 65535 <;> by_cases hB : boxOkP e.R <;> simp [hA, hB]
theorem impl_putEntry_eq (e : TEntry) : impl_PutEntry e = some (putEntry e) := by
  have h2 := put2_len [] e.N
  simp only [List.length_nil] at h2
  have k1 : okLen (([] : List Int).length + 2) = true := rfl
  have k2 : okLen ((put2 [] e.N).length + 4) = true := okLen_iff.2 (by omega)
  simp only [impl_PutEntry, impl_in_eq, impl_boxOk_eq, some_bind, impl_put2_eq (x := e.N) k1, putEntry, u8w, List.length_cons, List.length_nil, Nat.zero_add, Nat.reduceAdd, k2, if_true]
  by_cases hA : 0 ≤ e.N ∧ e.N ≤ 65535 <;> by_cases hB : boxOkP e.R <;> simp [hA, hB]
def putNode (p : TNode) : List Int := if nodeOk p = true then pad ([if p.Leaf = true then ((p.L.length : Int) + 16) % 256 else (p.L.length : Int) % 256] ++ p.L.flatMap putEntry) 25 else []
theorem putNode_in {p : TNode} (h : nodeOk p = true) (x : Int) : ([x] ++ p.L.flatMap putEntry).length ≤ 25 := by
  have h1 := (nodeOk_facts h).1
  have h2 := fm_len (f := putEntry) (p := p.L) (B := 6) fun y _ => putEntry_len y
  simp only [List.length_append, List.length_cons, List.length_nil]; omega
theorem putNode_len (p : TNode) : (putNode p).length ≤ 25 := by
  unfold putNode
  split
  · rename_i h
    rw [pad_len (by have := putNode_in h (if p.Leaf = true then ((p.L.length : Int) + 16) % 256 else (p.L.length : Int) % 256); omega) (by omega)]; decide
  · simp
theorem putNode_trace {k : Nat} (hk : Big k) {p : TNode} (h : nodeOk p = true) {pe : TEntry → Option (List Int)} (hpe : ∀ e, pe e = some (putEntry e)) {b : (List Int × Int) → Option (Nx (List Int × Int) (List Int))} (x : Int)
    (hb : ∀ l i, b (l, i) = (if (decide (i < ((List.length p.L : Nat) : Int))) = true then (if (0 : Int) ≤ i ∧ i < ((List.length p.L : Nat) : Int) then ((pe (gt p.L i)).bind fun t => (if okLen (List.length l + List.length t) = true then some (.next ((l ++ t), (wrap64 (i + 1)))) else none)) else none) else some (.out (l, i)))) :
    loopM b k ([x], 0) = some (.out ([x] ++ p.L.flatMap putEntry, (p.L.length : Int))) := by
  have h4 := (nodeOk_facts h).1
  refine loop_app (f := putEntry) (p := p.L) (B := 6) (by omega) hk (fun y _ => putEntry_len y) ?_ ?_
  · intro i hi l hl
    have hp := putEntry_len p.L[i]
    simp only [List.length_cons, List.length_nil] at hl
    rw [hb, if_pos (by simp; omega), if_pos (by omega), hpe, some_bind, gt_nat hi, if_pos (okLen_iff.2 (by omega)), w64s (by omega)]
  · intro l
    rw [hb, if_neg (by simp)]
theorem spec_putNode_eq {k : Nat} (hk : Big k) {p : TNode} (hl : p.L.length ≤ 2097152) : spec_PutNode k p = some (putNode p) := by
  rw [spec_PutNode, spec_nodeOk_eq hk hl, some_bind, putNode]
  by_cases h : nodeOk p = true
  · have hin := putNode_in h
    rw [if_neg (by simp [h]), if_pos h]
    by_cases hL : p.Leaf = true
    · rw [if_pos hL, if_pos hL, putNode_trace hk h spec_putEntry_eq _ (fun l i => rfl)]
      simp only [some_bind]
      rw [spec_pad_eq hk (by have := hin (IntKind.u8.wrap (wrap64 (((List.length p.L : Nat) : Int) + 16))); omega), some_bind, u8w, w64 (by omega) (by omega)]
    · rw [if_neg hL, if_neg hL, putNode_trace hk h spec_putEntry_eq _ (fun l i => rfl)]
      simp only [some_bind]
      rw [spec_pad_eq hk (by have := hin (IntKind.u8.wrap (((List.length p.L : Nat) : Int))); omega), some_bind, u8w]
  · rw [if_pos (by simpa using h), if_neg h]
theorem impl_putNode_eq {k : Nat} (hk : Big k) {p : TNode} (hl : p.L.length ≤ 2097152) : impl_PutNode k p = some (putNode p) := by
  rw [impl_PutNode, impl_nodeOk_eq hk hl, some_bind, putNode]
  by_cases h : nodeOk p = true
  · have hin := putNode_in h
    rw [if_neg (by simp [h]), if_pos h]
    by_cases hL : p.Leaf = true
    · rw [if_pos hL, if_pos hL, putNode_trace hk h impl_putEntry_eq _ (fun l i => rfl)]
      simp only [some_bind]
      rw [impl_pad_eq hk (by have := hin (IntKind.u8.wrap (wrap64 (((List.length p.L : Nat) : Int) + 16))); omega), some_bind, u8w, w64 (by omega) (by omega)]
    · rw [if_neg hL, if_neg hL, putNode_trace hk h impl_putEntry_eq _ (fun l i => rfl)]
      simp only [some_bind]
      rw [impl_pad_eq hk (by have := hin (IntKind.u8.wrap (((List.length p.L : Nat) : Int))); omega), some_bind, u8w]
  · rw [if_pos (by simpa using h), if_neg h]

def putCell (e : Int) (x : TChange) : List Int := if (0 ≤ e ∧ e ≤ 65535) ∧ (0 ≤ x.Page ∧ x.Page ≤ 47) ∧ nodeOk x.N = true then (put2 [1] e ++ [x.Page % 256]) ++ putNode x.N else []
theorem putCell_len (e : Int) (x : TChange) : (putCell e x).length ≤ 29 := by
  have h1 := put2_len [1] e
  have h2 := putNode_len x.N
  unfold putCell
  split
  · simp only [List.length_append, List.length_cons, List.length_nil] at *; omega
  · simp
theorem spec_putCell_eq {k : Nat} (hk : Big k) {e : Int} {x : TChange} (hl : x.N.L.length ≤ 2097152) : spec_PutCell k e x = some (putCell e x) := by
  have h1 := put2_len [1] e
  have h2 := putNode_len x.N
  simp only [List.length_cons, List.length_nil] at h1
  rw [spec_PutCell]
  simp only [spec_in_eq, some_bind, spec_nodeOk_eq hk hl, spec_put2_eq (x := e) (l := [1]) rfl, spec_putNode_eq hk hl, u8w, putCell]
  rw [if_pos (c := okLen _ = true) (okLen_iff.2 (by simp; omega)), if_pos (c := okLen _ = true) (okLen_iff.2 (by simp; omega))]
  by_cases hA : 0 ≤ e ∧ e ≤ 65535 <;> by_cases hB : 0 ≤ x.Page ∧ x.Page ≤ 47 <;> cases hC : nodeOk x.N <;> simp [hA, hB]
theorem impl_putCell_eq {k : Nat} (hk : Big k) {e : Int} {x : TChange} (hl : x.N.L.length ≤ 2097152) : impl_PutCell k e x = some (putCell e x) := by
  have h1 := put2_len [1] e
  have h2 := putNode_len x.N
  simp only [List.length_cons, List.length_nil] at h1
  rw [impl_PutCell]
  simp only [impl_in_eq, some_bind, impl_nodeOk_eq hk hl, impl_put2_eq (x := e) (l := [1]) rfl, impl_putNode_eq hk hl, u8w, putCell]
  rw [if_pos (c := okLen _ = true) (okLen_iff.2 (by simp; omega)), if_pos (c := okLen _ = true) (okLen_iff.2 (by simp; omega))]
  by_cases hA : 0 ≤ e ∧ e ≤ 65535 <;> by_cases hB : 0 ≤ x.Page ∧ x.Page ≤ 47 <;> cases hC : nodeOk x.N <;> simp [hA, hB]

theorem put2_wf {l : List Int} {y : Int} (hl : ∀ x ∈ l, wfU8 x) : ∀ x ∈ put2 l y, wfU8 x := by
  intro x hx
  unfold put2 at hx
  split at hx
  · simp only [List.mem_append, List.mem_cons, List.not_mem_nil, or_false] at hx
    rcases hx with h | h | h
    · exact hl x h
    · subst h; constructor <;> omega
    · subst h; constructor <;> omega
  · exact hl x hx
theorem pad_wf {l : List Int} {n : Int} (h : ∀ x ∈ l, wfU8 x) : ∀ x ∈ pad l n, wfU8 x := by
  intro x hx
  unfold pad at hx
  split at hx
  · rcases List.mem_append.1 hx with h1 | h1
    · exact h x h1
    · rw [List.eq_of_mem_replicate h1]; constructor <;> omega
  · exact h x hx
theorem m256_wf (x : Int) : wfU8 (x % 256) := by constructor <;> omega
theorem putEntry_wf (e : TEntry) : ∀ x ∈ putEntry e, wfU8 x := by
  intro x hx
  unfold putEntry at hx
  split at hx
  · rcases List.mem_append.1 hx with h | h
    · exact put2_wf (by simp) x h
    · simp only [List.mem_cons, List.not_mem_nil, or_false] at h
      rcases h with h | h | h | h <;> (subst h; exact m256_wf _)
  · simp at hx
theorem putNode_wf (p : TNode) : ∀ x ∈ putNode p, wfU8 x := by
  intro x hx
  unfold putNode at hx
  split at hx
  · refine pad_wf (fun z hz => ?_) x hx
    rcases List.mem_append.1 hz with h | h
    · simp only [List.mem_cons, List.not_mem_nil, or_false] at h
      subst h; split <;> exact m256_wf _
    · obtain ⟨e, _, he⟩ := List.mem_flatMap.1 h
      exact putEntry_wf e z he
  · simp at hx
theorem putCell_wf (e : Int) (p : TChange) : ∀ x ∈ putCell e p, wfU8 x := by
  intro x hx
  unfold putCell at hx
  split at hx
  · rcases List.mem_append.1 hx with h | h
    · rcases List.mem_append.1 h with h | h
      · exact put2_wf (fun z hz => by simp at hz; subst hz; constructor <;> omega) x h
      · simp only [List.mem_cons, List.not_mem_nil, or_false] at h
        subst h; exact m256_wf _
    · exact putNode_wf _ x h
  · simp at hx
theorem putNode_first {p : TNode} (h : nodeOk p = true) : gt (putNode p) 0 = (if p.Leaf = true then ((p.L.length : Int) + 16) % 256 else (p.L.length : Int) % 256) := by
  rw [putNode, if_pos h, pad, if_pos (by omega)]; rfl
theorem putNode_nil {p : TNode} (h : ¬ nodeOk p = true) : putNode p = [] := by rw [putNode, if_neg h]
theorem putNode_ok_len {p : TNode} (h : nodeOk p = true) : (putNode p).length = 25 := by
  rw [putNode, if_pos h, pad_len (by have := putNode_in h (if p.Leaf = true then ((p.L.length : Int) + 16) % 256 else (p.L.length : Int) % 256); omega) (by omega)]; rfl

theorem l6bent_dr {b : List Int} {i h : Int} (hi : okI b i) (hl : b.length ≤ 1048576) {q : List Int} (hq : q.length ≤ 64) (hw : ∀ x ∈ q, wfU8 x) : Dr b (spec_l6Bent ⟨b, i, h⟩ q) (fun r => r.length ≤ 65 ∧ ∀ x ∈ r, wfU8 x) := by
  rw [spec_l6Bent]
  refine Dr.ite (fun _ => Dr.ret hi ⟨by omega, hw⟩) fun h0 => ?_
  have h0' : q.length ≠ 0 := fun h => h0 (by simp [h])
  refine Dr.bind (below_dr hi hl 6) fun y i1 h1 o1 hy => ?_
  refine Dr.ite (fun _ => ?_) fun _ => Dr.ite (fun _ => ?_) fun _ => Dr.ite (fun _ => ?_) fun _ => ?_
  · refine Dr.bind (below_dr o1 hl _) fun z i2 h2 o2 hz => ?_
    refine Dr.bind (below_dr o2 hl 256) fun u i3 h3 o3 hu => ?_
    refine Dr.ite (fun hc => ?_) fun hn => absurd ⟨hz.1, hz.2 (by omega)⟩ hn
    refine Dr.pbind rfl ?_
    refine Dr.ret o3 ⟨by simp; omega, fun x hx => ?_⟩
    rcases List.mem_or_eq_of_mem_set hx with hx | rfl
    · exact hw x hx
    · rw [u8w]; constructor <;> omega
  · refine Dr.bind (below_dr o1 hl _) fun z i2 h2 o2 hz => ?_
    refine Dr.ite (fun hc => ?_) fun hn => absurd ⟨by decide, hz.1, by have := hz.2 (by omega); omega⟩ hn
    refine Dr.ret o2 ⟨?_, fun x hx => hw x (List.mem_of_mem_drop (List.mem_of_mem_take hx))⟩
    have : (slc q 0 z).length ≤ q.length := by simp only [slc, List.length_take, List.length_drop]; omega
    exact Nat.le_trans this (by omega)
  · refine Dr.ite (fun hc => ?_) fun hn => absurd (okLen_iff.2 (by simp; omega)) hn
    refine Dr.ret o1 ⟨by simp; omega, fun x hx => ?_⟩
    simp only [List.mem_append, List.mem_cons, List.not_mem_nil, or_false] at hx
    rcases hx with hx | rfl
    · exact hw x hx
    · constructor <;> omega
  · exact Dr.ret o1 ⟨by omega, hw⟩
theorem pad_len32 {q : List Int} (hq : q.length ≤ 64) : (pad q 32).length ≤ 64 := by
  unfold pad; rw [if_pos (by decide)]; simp; omega
theorem l19bytes_dr {k : Nat} (hk : Big k) {b : List Int} {i h : Int} (hi : okI b i) (hl : b.length ≤ 1048576) {q : List Int} (hq : q.length ≤ 64) (hw : ∀ x ∈ q, wfU8 x) : Dr b (spec_l19Bytes k ⟨b, i, h⟩ q) (fun r => r.length ≤ 65 ∧ ∀ x ∈ r, wfU8 x) := by
  rw [spec_l19Bytes]
  refine Dr.pbind (spec_pad_eq hk (by omega)) ?_
  have hp := pad_len32 hq
  have hpw := pad_wf (n := 32) hw
  refine Dr.bind (once_dr hi hl 2) fun y i1 h1 o1 hy => Dr.ite (fun _ => ?_) fun _ => Dr.ret o1 ⟨by omega, hpw⟩
  exact Dr.bind (l6bent_dr o1 hl hp hpw) fun u i2 h2 o2 hu => Dr.ret o2 hu

theorem gt_mem {α : Type} [Inhabited α] {l : List α} {i : Int} (h0 : 0 ≤ i) (h : i < (l.length : Int)) : gt l i ∈ l := by
  obtain ⟨hi, e⟩ := gt_eq h0 h
  rw [e]; exact List.getElem_mem hi
theorem or_bytes {a b : Int} (ha : 0 ≤ a) (ha2 : a ≤ 255) (hb : 0 ≤ b) (hb2 : b ≤ 255) : bits2 (· ||| ·) (wrap64 (a * 256)) b = 256 * a + b := by
  obtain ⟨x, rfl⟩ := Int.eq_ofNat_of_zero_le ha
  obtain ⟨y, rfl⟩ := Int.eq_ofNat_of_zero_le hb
  rw [w64 (by omega) (by omega)]
  unfold bits2
  have e1 : ((x : Int) * 256) = ((2 ^ 8 * x : Nat) : Int) := by omega
  rw [e1, BitVec.ofInt_natCast, BitVec.ofInt_natCast, BitVec.toNat_or, BitVec.toNat_ofNat, BitVec.toNat_ofNat, Nat.mod_eq_of_lt (by omega), Nat.mod_eq_of_lt (by omega), ← Nat.two_pow_add_eq_or_of_lt (by omega), w64 (by omega) (by omega)]
  omega
def get2 (l : List Int) (i : Int) : Int × Bool := if i < 0 ∨ i > (l.length : Int) - 2 then (0, false) else (256 * gt l i + gt l (i + 1), true)
theorem get2_facts {l : List Int} {i : Int} (hw : ∀ x ∈ l, wfU8 x) (hl : l.length ≤ 2097152) (h : ¬ (i < 0 ∨ i > (l.length : Int) - 2)) :
    wfU8 (gt l i) ∧ wfU8 (gt l (i + 1)) ∧ wrap64 (i + 1) = i + 1 ∧ (0 ≤ i ∧ i < (l.length : Int)) ∧ (0 ≤ i + 1 ∧ i + 1 < (l.length : Int)) := by
  refine ⟨hw _ (gt_mem (by omega) (by omega)), hw _ (gt_mem (by omega) (by omega)), w64 (by omega) (by omega), by omega, by omega⟩
theorem spec_get2_eq {l : List Int} {i : Int} (hw : ∀ x ∈ l, wfU8 x) (hl : l.length ≤ 2097152) : spec_Get2 l i = some (get2 l i) := by
  unfold spec_Get2 get2
  rw [w64 (n := (l.length : Int) - 2) (by omega) (by omega)]
  by_cases h : i < 0 ∨ i > (l.length : Int) - 2
  · simp [h]
  · obtain ⟨⟨a1, a2⟩, ⟨b1, b2⟩, e, h1, h2⟩ := get2_facts hw hl h
    rw [if_neg (by simpa using h), e, if_pos h1, if_pos h2, if_neg h]
    rw [i64w, i64w, w64 (n := gt l i) (by omega) (by omega), w64 (n := gt l (i + 1)) (by omega) (by omega), w64 (n := 256 * gt l i) (by omega) (by omega), w64 (by omega) (by omega)]
theorem impl_get2_eq {l : List Int} {i : Int} (hw : ∀ x ∈ l, wfU8 x) (hl : l.length ≤ 2097152) : impl_Get2 l i = some (get2 l i) := by
  unfold impl_Get2 get2
  rw [w64 (n := (l.length : Int) - 2) (by omega) (by omega)]
  by_cases h : i < 0 ∨ i > (l.length : Int) - 2
  · simp [h]
  · obtain ⟨⟨a1, a2⟩, ⟨b1, b2⟩, e, h1, h2⟩ := get2_facts hw hl h
    rw [if_neg (by simpa using h), e, if_pos h1, if_pos h2, if_neg h]
    rw [i64w, i64w, w64 (n := gt l i) (by omega) (by omega), w64 (n := gt l (i + 1)) (by omega) (by omega), sh8, or_bytes a1 a2 b1 b2]

theorem same_eq {k : Nat} (hk : Big k) {N : Nat} (hN : N ≤ 1114112) (p q : (List Int)) (h : (smL N (smT N)) p) : spec_l6Same k p q = some (decide (p = q)) := by
  rw [spec_l6Same]
  have hl := h.1
  by_cases he : p.length = q.length
  · rw [if_neg (by simp [he])]
    rw [loop_all (c := fun i => decide (p[i]? = q[i]?)) (n := p.length) (r := false) (by omega) hk]
    · by_cases hpq : p = q
      · subst hpq; simp
      · rw [if_neg, decide_eq_false hpq]
        · rfl
        · intro hh
          exact hpq (List.ext_getElem? fun i => by
            by_cases hi : i < p.length
            · simpa using hh i hi
            · rw [List.getElem?_eq_none (by omega), List.getElem?_eq_none (by omega)])
    · intro i hi
      have c1 : decide ((i : Int) < ((List.length p : Nat) : Int)) = true := by simp; omega
      have c2 : (0 : Int) ≤ (i : Int) ∧ (i : Int) < ((List.length p : Nat) : Int) := by omega
      have c3 : (0 : Int) ≤ (i : Int) ∧ (i : Int) < ((List.length q : Nat) : Int) := by omega
      have hq : i < q.length := by omega
      simp only [spec_l6Same_b0, if_pos c1, if_pos c2, if_pos c3, gt_nat hi, gt_nat hq, w64s (n := i) (by omega), List.getElem?_eq_getElem hi, List.getElem?_eq_getElem hq, Option.some.injEq]
      by_cases hv : p[i] = q[i] <;> simp [hv]
    · have c1 : ¬ decide (((List.length p : Nat) : Int) < ((List.length p : Nat) : Int)) = true := by simp
      simp only [spec_l6Same_b0, if_neg c1]
  · rw [if_pos (by simp; omega), decide_eq_false]
    rintro rfl; exact he rfl

theorem getEntry_both {b : List Int} (hw : ∀ x ∈ b, wfU8 x) (hl : b.length ≤ 2097152) (i : Int) : ∃ r, spec_GetEntry b i = some r ∧ impl_GetEntry b i = some r := by
  rw [spec_GetEntry, impl_GetEntry, spec_get2_eq hw hl, impl_get2_eq hw hl]
  simp only [some_bind, spec_boxOk_eq, impl_boxOk_eq]
  rw [w64 (n := ((List.length b : Nat) : Int) - 6) (by omega) (by omega)]
  by_cases h : i < 0 ∨ i > ((List.length b : Nat) : Int) - 6
  · rw [if_pos (by simpa using h)]; exact ⟨_, rfl, rfl⟩
  · rw [if_neg (by simpa using h), w64 (n := i + 2) (by omega) (by omega), w64 (n := i + 3) (by omega) (by omega), w64 (n := i + 4) (by omega) (by omega), w64 (n := i + 5) (by omega) (by omega)]
    rw [if_pos (by omega), if_pos (by omega), if_pos (by omega), if_pos (by omega)]
    split <;> exact ⟨_, rfl, rfl⟩
def badNode : TNode × Bool := (⟨false, []⟩, false)
theorem getNode_both {k : Nat} (hk : Big k) {b : List Int} (hw : ∀ x ∈ b, wfU8 x) (hl : b.length ≤ 2097152) : ∃ r, spec_GetNode k b = some r ∧ impl_GetNode k b = some r ∧ r.1.L.length ≤ 4 ∧ (r.2 = true → nodeOk r.1 = true ∧ putNode r.1 = b) := by
  rw [spec_GetNode, impl_GetNode]
  by_cases h25 : b.length = 25
  · have hb0 := hw _ (gt_mem (l := b) (i := 0) (by omega) (by omega))
    obtain ⟨q1, q2⟩ := hb0
    have e1 : Int.tmod (IntKind.i64.wrap (gt b 0)) 16 = gt b 0 % 16 := by rw [i64w, w64 (by omega) (by omega), tmod_pos q1]
    have e2 : IntKind.i64.wrap (Int.tmod (gt b 0) 16) = gt b 0 % 16 := by rw [tmod_pos q1, i64w, w64 (by omega) (by omega)]
    have c25 : (!decide (((List.length b : Nat) : Int) = 25)) = false := by simp; omega
    have c0 : (0 : Int) ≤ 0 ∧ (0 : Int) < ((List.length b : Nat) : Int) := by omega
    simp only [c25, Bool.false_eq_true, if_false, if_pos c0]
    -- what stands behind the loops
    have tail : ∀ l : List TEntry, l.length ≤ 4 → ∃ r, ((spec_PutNode k (⟨(decide ((gt b 0) ≥ 16)), l⟩ : TNode)).bind fun t41 => ((spec_l6Same k t41 b).bind fun t45 => (if (!t45) = true then some ((⟨false, ([] : (List TEntry))⟩ : TNode), false) else some ((⟨(decide ((gt b 0) ≥ 16)), l⟩ : TNode), true)))) = some r ∧
        ((impl_NodeOk k (⟨(decide ((gt b 0) ≥ 16)), l⟩ : TNode)).bind fun t38 => (((if (!t38) = true then some true else ((impl_PutNode k (⟨(decide ((gt b 0) ≥ 16)), l⟩ : TNode)).bind fun t41 => ((bytes_Equal t41 b).bind fun t45 => some (!t45))))).bind fun c47 => (if c47 = true then some ((⟨false, ([] : (List TEntry))⟩ : TNode), false) else some ((⟨(decide ((gt b 0) ≥ 16)), l⟩ : TNode), true)))) = some r ∧
        r = (if putNode ⟨(decide ((gt b 0) ≥ 16)), l⟩ = b then ((⟨(decide ((gt b 0) ≥ 16)), l⟩ : TNode), true) else badNode) ∧ r.1.L.length ≤ 4 ∧ (r.2 = true → nodeOk r.1 = true ∧ putNode r.1 = b) := by
      intro l hl4
      generalize hn : (⟨(decide ((gt b 0) ≥ 16)), l⟩ : TNode) = n
      have hnl : n.L.length ≤ 4 := by rw [← hn]; exact hl4
      have hpl := putNode_len n
      rw [spec_putNode_eq hk (by omega), impl_nodeOk_eq hk (by omega), impl_putNode_eq hk (by omega)]
      simp only [some_bind, same_eq hk (N := 1114112) (Nat.le_refl _) (putNode n) b ⟨by omega, fun _ _ => trivial⟩, bytes_Equal, str_eq (putNode_wf n) hw]
      by_cases hok : nodeOk n = true
      · by_cases he : putNode n = b
        · exact ⟨(n, true), by simp [he], by simp [hok, he], by rw [if_pos he], hnl, fun _ => ⟨hok, he⟩⟩
        · exact ⟨badNode, by simp [he, badNode], by simp [hok, he, badNode], by rw [if_neg he], by simp [badNode], fun hh => by simp [badNode] at hh⟩
      · have he : ¬ putNode n = b := fun he => by rw [putNode_nil hok] at he; rw [← he] at h25; simp at h25
        exact ⟨badNode, by simp [he, badNode], by simp [hok, badNode], by rw [if_neg he], by simp [badNode], fun hh => by simp [badNode] at hh⟩
    by_cases hk4 : gt b 0 % 16 ≤ 4
    · obtain ⟨o, f1, f2, hQ⟩ := loopM_both (b := spec_GetNode_b0 b) (c := impl_GetNode_b0 b) (fun s => 0 ≤ s.1 ∧ s.1 ≤ gt b 0 % 16 ∧ (s.2.length : Int) = s.1) (fun s => (4 - s.1).toNat) (fun o => o = .ret badNode ∨ ∃ i l, o = .out (i, l) ∧ l.length ≤ 4) (fun s hs => by
        obtain ⟨i, l⟩ := s
        simp only at hs
        have e3 : (if 4 < gt b 0 % 16 then 4 else gt b 0 % 16) = gt b 0 % 16 := by rw [if_neg (by omega)]
        simp only [spec_GetNode_b0, impl_GetNode_b0, e1, e2, e3]
        by_cases hi : i < gt b 0 % 16
        · rw [if_pos (by simp; omega), if_pos (by simpa using hi)]
          obtain ⟨r, r1, r2⟩ := getEntry_both hw hl (wrap64 (1 + wrap64 (6 * i)))
          simp only [r1, r2, some_bind]
          cases r.2
          · exact ⟨_, rfl, rfl, .inl rfl⟩
          · rw [if_neg (by simp), if_pos (okLen_iff.2 (by simp; omega))]
            refine ⟨_, rfl, rfl, ⟨?_, ?_, ?_⟩, ?_⟩
            · simp only; rw [w64 (by omega) (by omega)]; omega
            · simp only; rw [w64 (by omega) (by omega)]; omega
            · simp only [List.length_append, List.length_cons, List.length_nil]; rw [w64 (by omega) (by omega)]; omega
            · simp only; rw [w64 (by omega) (by omega)]; omega
        · rw [if_neg (by simp; omega), if_neg (by simpa using hi)]
          exact ⟨_, rfl, rfl, .inr ⟨_, _, rfl, by omega⟩⟩) k (0, []) ⟨by simp, by simp; omega, by simp⟩ (by have : 9223372036854775808 ≤ k := hk; simp; omega)
      rw [f1, f2, some_bind, some_bind]
      rcases hQ with rfl | ⟨i, l, rfl, hll⟩
      · exact ⟨badNode, rfl, rfl, by simp [badNode], fun hh => by simp [badNode] at hh⟩
      · obtain ⟨r, t1, t2, _, t3, t4⟩ := tail l hll
        exact ⟨r, t1, t2, t3, t4⟩
    · have f1 : loopM (spec_GetNode_b0 b) k (0, []) = some (.out (0, [])) :=
        loopM_run0 (b := spec_GetNode_b0 b) (fun _ => (0, [])) 0 (fun t h => by cases h) (fun j hj => by omega) (by simp only [spec_GetNode_b0, e1]; rw [if_neg (by simp; omega)]) (by have : 9223372036854775808 ≤ k := hk; omega)
      obtain ⟨r, t1, _, t0, _, _⟩ := tail [] (by simp)
      have hno : ∀ l : List TEntry, l.length ≤ 4 → (l = [] ∨ l.length = 4) → putNode ⟨decide (gt b 0 ≥ 16), l⟩ ≠ b := by
        intro l hl4 hl2 he
        by_cases hok : nodeOk ⟨decide (gt b 0 ≥ 16), l⟩ = true
        · have := putNode_first hok
          rw [he] at this
          rcases hl2 with h | h
          · simp only [h, List.length_nil] at this
            split at this <;> omega
          · simp only [h] at this
            split at this <;> omega
        · rw [putNode_nil hok] at he; rw [← he] at h25; simp at h25
      rw [if_neg (hno [] (by simp) (.inl rfl))] at t0
      subst t0
      obtain ⟨o, f2, hQ⟩ := loopM_ends (b := impl_GetNode_b0 b) (fun s => 0 ≤ s.1 ∧ s.1 ≤ 4 ∧ (s.2.length : Int) = s.1) (fun s => (4 - s.1).toNat) (fun o => o = .ret badNode ∨ ∃ i l, o = .out (i, l) ∧ l.length = 4) (fun s hs => by
        obtain ⟨i, l⟩ := s
        simp only at hs
        have e3 : (if 4 < gt b 0 % 16 then 4 else gt b 0 % 16) = 4 := by rw [if_pos (by omega)]
        simp only [impl_GetNode_b0, e2, e3]
        by_cases hi : i < 4
        · rw [if_pos (by simpa using hi)]
          obtain ⟨r, _, r2⟩ := getEntry_both hw hl (wrap64 (1 + wrap64 (6 * i)))
          rw [r2, some_bind]
          cases r.2
          · exact ⟨_, rfl, .inl rfl⟩
          · rw [if_neg (by simp), if_pos (okLen_iff.2 (by simp; omega))]
            refine ⟨_, rfl, ⟨?_, ?_, ?_⟩, ?_⟩
            · simp only; rw [w64 (by omega) (by omega)]; omega
            · simp only; rw [w64 (by omega) (by omega)]; omega
            · simp only [List.length_append, List.length_cons, List.length_nil]; rw [w64 (by omega) (by omega)]; omega
            · simp only; rw [w64 (by omega) (by omega)]; omega
        · rw [if_neg (by simpa using hi)]
          exact ⟨_, rfl, .inr ⟨_, _, rfl, by omega⟩⟩) k (0, []) ⟨by simp, by simp, by simp⟩ (by have : 9223372036854775808 ≤ k := hk; simp; omega)
      rw [f1, f2, some_bind, some_bind]
      refine ⟨badNode, t1, ?_, by simp [badNode], fun hh => by simp [badNode] at hh⟩
      rcases hQ with rfl | ⟨i, l, rfl, hll⟩
      · rfl
      · obtain ⟨r, _, t2, t0, _, _⟩ := tail l (by omega)
        rw [if_neg (hno l (by omega) (.inr hll))] at t0
        subst t0
        exact t2
  · have c25 : (!decide (((List.length b : Nat) : Int) = 25)) = true := by simp; omega
    simp only [c25, if_true]
    exact ⟨badNode, rfl, rfl, by simp [badNode], fun hh => by simp [badNode] at hh⟩

theorem slc_wf {l : List Int} (hw : ∀ x ∈ l, wfU8 x) {a b : Int} : ∀ x ∈ slc l a b, wfU8 x := fun x hx => hw x (List.mem_of_mem_drop (List.mem_of_mem_take hx))
theorem getPut_full {k : Nat} (hk : Big k) {e : Int} {b : List Int} (hw : ∀ x ∈ b, wfU8 x) (hl : b.length ≤ 2097152) : ∃ r, spec_GetPut k e b = some r ∧ impl_GetPut k e b = some r ∧ r.1.N.L.length ≤ 4 ∧ (r.2 = true → putCell e r.1 ≠ [] ∧ pad (putCell e r.1) 32 = b) := by
  rw [spec_GetPut, impl_GetPut]
  by_cases h32 : b.length = 32
  · have c32 : (!decide (((List.length b : Nat) : Int) = 32)) = false := by simp; omega
    have c4 : (0 : Int) ≤ 4 ∧ (4 : Int) ≤ 29 ∧ (29 : Int) ≤ ((List.length b : Nat) : Int) := by omega
    have c3 : (0 : Int) ≤ 3 ∧ (3 : Int) < ((List.length b : Nat) : Int) := by omega
    simp only [c32, Bool.false_eq_true, if_false, if_pos c4, if_pos c3]
    obtain ⟨r, r1, r2, r3, r4⟩ := getNode_both hk (slc_wf hw (a := 4) (b := 29)) (by rw [slc_len (by omega)]; simp)
    simp only [r1, r2, some_bind]
    generalize hx : (⟨IntKind.i64.wrap (gt b 3), r.1⟩ : TChange) = x
    have hxl : x.N.L.length ≤ 4 := by rw [← hx]; exact r3
    have hcl := putCell_len e x
    simp only [spec_putCell_eq hk (e := e) (x := x) (by omega), impl_putCell_eq hk (e := e) (x := x) (by omega), some_bind, spec_pad_eq hk (l := putCell e x) (n := 32) (by omega), impl_pad_eq hk (l := putCell e x) (n := 32) (by omega)]
    have hpl : (pad (putCell e x) 32).length = 32 := pad_len (by omega) (by omega)
    simp only [same_eq hk (N := 1114112) (Nat.le_refl _) (pad (putCell e x) 32) b ⟨by omega, fun _ _ => trivial⟩, bytes_Equal, str_eq (pad_wf (putCell_wf e x)) hw, some_bind]
    cases h2 : r.2
    · exact ⟨(⟨0, ⟨false, []⟩⟩, false), by simp, by simp, by simp, fun h => by cases h⟩
    · obtain ⟨hok, hp⟩ := r4 h2
      by_cases he : pad (putCell e x) 32 = b
      · have hne : ¬ putCell e x = [] := by
          intro h0
          rw [h0] at he
          have hz : b = List.replicate 32 0 := by rw [← he]; rfl
          have h1 := putNode_first hok
          rw [hp, hz] at h1
          have h4 := (nodeOk_facts hok).1
          have h5 := (nodeOk_facts hok).2.2
          have h6 : gt (slc (List.replicate 32 (0 : Int)) 4 29) 0 = 0 := rfl
          rw [h6] at h1
          cases hL : r.1.Leaf
          · have := h5 hL
            simp only [hL, Bool.false_eq_true, if_false] at h1
            omega
          · simp only [hL, if_true] at h1
            omega
        exact ⟨(x, true), by simp [he], by simp [he, hne], hxl, fun _ => ⟨hne, he⟩⟩
      · by_cases h0 : putCell e x = []
        · exact ⟨(⟨0, ⟨false, []⟩⟩, false), by simp [he], by simp [h0], by simp, fun h => by cases h⟩
        · exact ⟨(⟨0, ⟨false, []⟩⟩, false), by simp [he], by simp [he, h0], by simp, fun h => by cases h⟩
  · have c32 : (!decide (((List.length b : Nat) : Int) = 32)) = true := by simp; omega
    simp only [c32, if_true]
    exact ⟨_, rfl, rfl, by simp, fun h => by cases h⟩
theorem getPut_both {k : Nat} (hk : Big k) {e : Int} {b : List Int} (hw : ∀ x ∈ b, wfU8 x) (hl : b.length ≤ 2097152) : ∃ r, spec_GetPut k e b = some r ∧ impl_GetPut k e b = some r ∧ r.1.N.L.length ≤ 4 := by
  obtain ⟨r, r1, r2, r3, _⟩ := getPut_full hk hw hl (e := e)
  exact ⟨r, r1, r2, r3⟩

def endCell (e : Int) (t : TTx) (n : Int) : List Int := put2 (put2 [2] e) t.Seq ++ [t.Root % 256, t.Size % 256, n % 256]
theorem endCell_len8 (e : Int) (t : TTx) (n : Int) : (endCell e t n).length ≤ 8 := by
  have h2 := put2_len [2] e
  have h1 := put2_len (put2 [2] e) t.Seq
  simp only [endCell, List.length_append, List.length_cons, List.length_nil] at *; omega
theorem impl_endCell_eq (e : Int) (t : TTx) (n : Int) : impl_endCell e t n = some (endCell e t n) := by
  have h2 := put2_len [2] e
  have h1 := put2_len (put2 [2] e) t.Seq
  simp only [List.length_cons, List.length_nil] at h1 h2
  rw [impl_endCell, impl_put2_eq (x := e) (l := [2]) rfl, some_bind, impl_put2_eq (okLen_iff.2 (by omega)), some_bind, if_pos (okLen_iff.2 (by simp; omega))]
  simp only [u8w, endCell]
def endTx (b : List Int) : TTx := ⟨256 * gt b 3 + gt b 4, gt b 5, gt b 6, []⟩
def endOk (e : Int) (b : List Int) : Prop := b.length = 32 ∧ gt b 0 = 2 ∧ 256 * gt b 1 + gt b 2 = e ∧ (∀ i, i < 24 → gt b (8 + (i : Nat)) = 0) ∧ numsOk (endTx b) = true ∧ gt b 7 ≤ gt b 6
theorem txOk_nil {t : TTx} (h : t.Puts = []) : txOk t = numsOk t := by simp [txOk, h, firstN_zero]
theorem endCell_eq {e : Int} {b : List Int} (hw : ∀ x ∈ b, wfU8 x) (hl : b.length = 32) (he : 0 ≤ e ∧ e ≤ 65535) :
    pad (endCell e (endTx b) (gt b 7)) 32 = b ↔ gt b 0 = 2 ∧ 256 * gt b 1 + gt b 2 = e ∧ (∀ i, i < 24 → gt b (8 + (i : Nat)) = 0) := by
  rcases b with _ | ⟨b0, b⟩; · simp at hl
  rcases b with _ | ⟨b1, b⟩; · simp at hl
  rcases b with _ | ⟨b2, b⟩; · simp at hl
  rcases b with _ | ⟨b3, b⟩; · simp at hl
  rcases b with _ | ⟨b4, b⟩; · simp at hl
  rcases b with _ | ⟨b5, b⟩; · simp at hl
  rcases b with _ | ⟨b6, b⟩; · simp at hl
  rcases b with _ | ⟨b7, b⟩; · simp at hl
  have hr : b.length = 24 := by simpa using hl
  have w1 : wfU8 b1 := hw _ (by simp)
  have w2 : wfU8 b2 := hw _ (by simp)
  have w3 : wfU8 b3 := hw _ (by simp)
  have w4 : wfU8 b4 := hw _ (by simp)
  have w5 : wfU8 b5 := hw _ (by simp)
  have w6 : wfU8 b6 := hw _ (by simp)
  have w7 : wfU8 b7 := hw _ (by simp)
  simp only [wfU8] at w1 w2 w3 w4 w5 w6 w7
  have g0 : gt (b0 :: b1 :: b2 :: b3 :: b4 :: b5 :: b6 :: b7 :: b) 0 = b0 := rfl
  have g1 : gt (b0 :: b1 :: b2 :: b3 :: b4 :: b5 :: b6 :: b7 :: b) 1 = b1 := rfl
  have g2 : gt (b0 :: b1 :: b2 :: b3 :: b4 :: b5 :: b6 :: b7 :: b) 2 = b2 := rfl
  have g3 : gt (b0 :: b1 :: b2 :: b3 :: b4 :: b5 :: b6 :: b7 :: b) 3 = b3 := rfl
  have g4 : gt (b0 :: b1 :: b2 :: b3 :: b4 :: b5 :: b6 :: b7 :: b) 4 = b4 := rfl
  have g5 : gt (b0 :: b1 :: b2 :: b3 :: b4 :: b5 :: b6 :: b7 :: b) 5 = b5 := rfl
  have g6 : gt (b0 :: b1 :: b2 :: b3 :: b4 :: b5 :: b6 :: b7 :: b) 6 = b6 := rfl
  have g7 : gt (b0 :: b1 :: b2 :: b3 :: b4 :: b5 :: b6 :: b7 :: b) 7 = b7 := rfl
  have g8 : ∀ i, i < 24 → gt (b0 :: b1 :: b2 :: b3 :: b4 :: b5 :: b6 :: b7 :: b) (8 + (i : Nat)) = gt b (i : Int) := by
    intro i _
    have : (8 + (i : Int)).toNat = i + 8 := by omega
    simp only [gt, this, Int.toNat_natCast]
    rfl
  have hz : (∀ i, i < 24 → gt (b0 :: b1 :: b2 :: b3 :: b4 :: b5 :: b6 :: b7 :: b) (8 + (i : Nat)) = 0) ↔ b = List.replicate 24 0 := by
    rw [List.eq_replicate_iff]
    constructor
    · refine fun h => ⟨hr, fun x hx => ?_⟩
      obtain ⟨i, hi, rfl⟩ := List.getElem_of_mem hx
      have := h i (by omega)
      rw [g8 i (by omega), gt_nat hi] at this; exact this
    · rintro ⟨_, h⟩ i hi
      rw [g8 i hi, gt_nat (by omega)]; exact h _ (List.getElem_mem _)
  rw [hz, g0, g1, g2, g7]
  have e1 : put2 [2] e = [2, e / 256, e % 256] := by rw [put2, if_pos he]; rfl
  have e2 : put2 [2, e / 256, e % 256] (256 * b3 + b4) = [2, e / 256, e % 256, b3, b4] := by
    rw [put2, if_pos (by omega)]
    have q1 : (256 * b3 + b4) / 256 = b3 := by omega
    have q2 : (256 * b3 + b4) % 256 = b4 := by omega
    rw [q1, q2]; rfl
  have e3 : endCell e (endTx (b0 :: b1 :: b2 :: b3 :: b4 :: b5 :: b6 :: b7 :: b)) b7 = [2, e / 256, e % 256, b3, b4, b5, b6, b7] := by
    simp only [endCell, endTx, g3, g4, g5, g6, e1, e2]
    have q5 : b5 % 256 = b5 := by omega
    have q6 : b6 % 256 = b6 := by omega
    have q7 : b7 % 256 = b7 := by omega
    rw [q5, q6, q7]; rfl
  rw [e3, pad, if_pos (by omega)]
  have e4 : (32 : Int).toNat - ([2, e / 256, e % 256, b3, b4, b5, b6, b7] : List Int).length = 24 := rfl
  rw [e4]
  simp only [List.cons_append, List.nil_append, List.cons.injEq, true_and]
  constructor
  · rintro ⟨h0, h1, h2, h3⟩
    exact ⟨h0.symm, by omega, h3.symm⟩
  · rintro ⟨h0, h1, h3⟩
    exact ⟨h0.symm, by omega, by omega, h3.symm⟩
theorem byte_gt {b : List Int} (hw : ∀ x ∈ b, wfU8 x) {i : Int} (h0 : 0 ≤ i) (h : i < (b.length : Int)) : 0 ≤ gt b i ∧ gt b i ≤ 255 := hw _ (gt_mem h0 h)
theorem spec_getEnd_eq {k : Nat} (hk : Big k) {e : Int} {b : List Int} (hw : ∀ x ∈ b, wfU8 x) (hl : b.length ≤ 2097152) [Decidable (endOk e b)] :
    spec_GetEnd k e b = some (if endOk e b then (endTx b, gt b 7, true) else (⟨0, 0, 0, []⟩, 0, false)) := by
  rw [spec_GetEnd]
  by_cases h : b.length = 32
  · rw [if_neg (by simp; omega), if_pos (by omega), some_bind]
    by_cases h2 : gt b 0 = 2
    · have b5 := byte_gt hw (i := 5) (by omega) (by omega)
      have b6 := byte_gt hw (i := 6) (by omega) (by omega)
      have b7 := byte_gt hw (i := 7) (by omega) (by omega)
      rw [if_neg (by simp [h2]), spec_get2_eq hw hl, some_bind, spec_get2_eq hw hl, some_bind, if_pos (by omega), if_pos (by omega)]
      have hg1 : get2 b 1 = (256 * gt b 1 + gt b 2, true) := by rw [get2, if_neg (by omega)]; rfl
      have hg3 : get2 b 3 = (256 * gt b 3 + gt b 4, true) := by rw [get2, if_neg (by omega)]; rfl
      have h3 := loop_first (b := spec_GetEnd_b0 b) (k := k) (n := 24) (fun i => 8 + (i : Int)) (fun i => !decide (gt b (8 + (i : Int)) = 0)) (fun i => .ret (⟨0, 0, 0, []⟩, 0, false)) (by omega) hk (fun i t h => by cases h)
        (fun i hi => by
          have c1 : decide (8 + (i : Int) < ((List.length b : Nat) : Int)) = true := by simp; omega
          have c2 : (0 : Int) ≤ 8 + (i : Int) ∧ 8 + (i : Int) < ((List.length b : Nat) : Int) := by omega
          have e1 : wrap64 (8 + (i : Int) + 1) = 8 + ((i + 1 : Nat) : Int) := by rw [w64 (by omega) (by omega)]; omega
          simp only [spec_GetEnd_b0, if_pos c1, if_pos c2, e1]
          exact some_ite _ _ _)
        (by simp only [spec_GetEnd_b0]; rw [if_neg (by simp; omega)])
      have h3' : loopM (spec_GetEnd_b0 b) k 8 = _ := h3
      rw [h3', some_bind, hg1, hg3]
      cases hf : firstN (fun i => !decide (gt b (8 + (i : Int)) = 0)) 24 with
      | none =>
        have hz : ∀ i, i < 24 → gt b (8 + (i : Nat)) = 0 := fun i hi => by simpa using firstN_none hf i hi
        have et : (⟨256 * gt b 3 + gt b 4, gt b 5, gt b 6, []⟩ : TTx) = endTx b := rfl
        have e5 : IntKind.i64.wrap (gt b 5) = gt b 5 := by rw [i64w, w64 (by omega) (by omega)]
        have hs : smTx (endTx b) := ⟨by simp [endTx], fun y hy => by simp [endTx] at hy⟩
        have c7 : (0 : Int) ≤ 7 ∧ (7 : Int) < ((List.length b : Nat) : Int) := by omega
        have e7 : IntKind.i64.wrap (gt b 7) = gt b 7 := by rw [i64w, w64 (by omega) (by omega)]
        have e6 : IntKind.i64.wrap (gt b 6) = gt b 6 := by rw [i64w, w64 (by omega) (by omega)]
        simp only [e5, e6, e7, et, spec_txOk_eq hk hs, some_bind, txOk_nil (t := endTx b) rfl, if_pos c7]
        have eq6 : decide (gt b 7 > gt b 6) = !decide (gt b 7 ≤ gt b 6) := by rw [not_dec]; exact decide_eq_decide.2 (by omega)
        rw [eq6]
        by_cases hE : endOk e b
        · rw [if_pos hE]
          obtain ⟨_, _, q1, _, q2, q3⟩ := hE
          simp [q1, q2, q3]
        · rw [if_neg hE]
          have hn : (decide (256 * gt b 1 + gt b 2 = e) && numsOk (endTx b) && decide (gt b 7 ≤ gt b 6)) = false := by
            rw [← Bool.not_eq_true]
            intro hh
            simp only [Bool.and_eq_true, decide_eq_true_eq] at hh
            exact hE ⟨h, h2, hh.1.1, hz, hh.1.2, hh.2⟩
          revert hn
          generalize decide (256 * gt b 1 + gt b 2 = e) = x
          generalize numsOk (endTx b) = y
          generalize decide (gt b 7 ≤ gt b 6) = z
          cases x <;> cases y <;> cases z <;> simp
      | some j =>
        have hj := firstN_some hf
        have hE : ¬ endOk e b := by
          rintro ⟨_, _, _, hz, _⟩
          have := hj.2.1
          simp [hz j hj.1] at this
        rw [if_neg hE]
    · rw [if_pos (by simp [h2]), if_neg]
      rintro ⟨_, h3, _⟩; exact h2 h3
  · rw [if_pos (by simp; omega), some_bind, if_pos rfl, if_neg]
    rintro ⟨h3, _⟩; exact h h3
theorem impl_getEnd_eq {k : Nat} (hk : Big k) {e : Int} {b : List Int} (hw : ∀ x ∈ b, wfU8 x) (hl : b.length ≤ 2097152) [Decidable (endOk e b)] :
    impl_GetEnd k e b = some (if endOk e b then (endTx b, gt b 7, true) else (⟨0, 0, 0, []⟩, 0, false)) := by
  rw [impl_GetEnd]
  by_cases h : b.length = 32
  · rw [if_neg (by simp; omega), impl_in_eq, some_bind, some_bind]
    have w1 := byte_gt hw (i := 1) (by omega) (by omega)
    have w2 := byte_gt hw (i := 2) (by omega) (by omega)
    by_cases he : 0 ≤ e ∧ e ≤ 65535
    · have b5 := byte_gt hw (i := 5) (by omega) (by omega)
      have b6 := byte_gt hw (i := 6) (by omega) (by omega)
      have b7 := byte_gt hw (i := 7) (by omega) (by omega)
      have hg3 : get2 b 3 = (256 * gt b 3 + gt b 4, true) := by rw [get2, if_neg (by omega)]; rfl
      rw [if_neg (by simp [he]), impl_get2_eq hw hl, some_bind, if_pos (by omega), if_pos (by omega), if_pos (by omega), hg3]
      have et : (⟨256 * gt b 3 + gt b 4, gt b 5, gt b 6, []⟩ : TTx) = endTx b := rfl
      have e5 : IntKind.i64.wrap (gt b 5) = gt b 5 := by rw [i64w, w64 (by omega) (by omega)]
      have e7 : IntKind.i64.wrap (gt b 7) = gt b 7 := by rw [i64w, w64 (by omega) (by omega)]
      have e6 : IntKind.i64.wrap (gt b 6) = gt b 6 := by rw [i64w, w64 (by omega) (by omega)]
      have hlen := endCell_len8 e (endTx b) (gt b 7)
      have hwe : ∀ x ∈ pad (endCell e (endTx b) (gt b 7)) 32, wfU8 x := by
        intro x hx
        have hp : ∀ (l : List Int) (y : Int), (∀ x ∈ l, wfU8 x) → ∀ x ∈ put2 l y, wfU8 x := by
          intro l y hl x hx
          unfold put2 at hx
          split at hx
          · simp only [List.mem_append, List.mem_cons, List.not_mem_nil, or_false] at hx
            rcases hx with h | h | h
            · exact hl x h
            · subst h; constructor <;> omega
            · subst h; constructor <;> omega
          · exact hl x hx
        unfold pad at hx
        rw [if_pos (by omega)] at hx
        rcases List.mem_append.1 hx with h1 | h1
        · unfold endCell at h1
          simp only [List.mem_append, List.mem_cons, List.not_mem_nil, or_false] at h1
          rcases h1 with h | h | h | h
          · refine hp _ _ (hp _ _ ?_) x h
            intro z hz; simp at hz; subst hz; constructor <;> omega
          · subst h; constructor <;> omega
          · subst h; constructor <;> omega
          · subst h; constructor <;> omega
        · rw [List.eq_of_mem_replicate h1]; constructor <;> omega
      simp only [e5, e6, e7, et, impl_numsOk_eq, some_bind, impl_endCell_eq, impl_pad_eq hk (l := endCell e (endTx b) (gt b 7)) (n := 32) (by omega), bytes_Equal, str_eq hwe hw]
      have hc := endCell_eq hw h he
      have eq6 : decide (gt b 7 > gt b 6) = !decide (gt b 7 ≤ gt b 6) := by rw [not_dec]; exact decide_eq_decide.2 (by omega)
      rw [eq6]
      by_cases h8 : pad (endCell e (endTx b) (gt b 7)) 32 = b
      · obtain ⟨q1, q2, q3⟩ := hc.1 h8
        cases h5 : numsOk (endTx b) <;> by_cases h7 : gt b 7 ≤ gt b 6 <;> simp [h5, h7, endOk, h, q1, q2, h8]
        all_goals exact q3
      · have h9 : ¬ endOk e b := fun hh => h8 (hc.2 ⟨hh.2.1, hh.2.2.1, hh.2.2.2.1⟩)
        rw [if_neg h9]
        cases h5 : numsOk (endTx b) <;> by_cases h7 : gt b 7 ≤ gt b 6 <;> simp [h7, h8]
    · rw [if_pos (by simp [he]), if_neg]
      rintro ⟨_, _, h3, _⟩; exact he (by omega)
  · rw [if_pos (by simp; omega), some_bind, if_pos rfl, if_neg]
    rintro ⟨h3, _⟩; exact h h3

def mp (t : TTx) : Nat → List (Int × Int)
  | 0 => []
  | i + 1 => mput (mp t i) (pg t i) 1
theorem mp_get (t : TTx) (x : Int) : ∀ i, mget (mp t i) x = if (List.range i).any (fun j => decide (pg t j = x)) = true then 1 else 0
  | 0 => rfl
  | i + 1 => by
    rw [mp, mget_mput, mp_get t x i, List.range_succ, List.any_append]
    by_cases h : x = pg t i
    · subst h; simp
    · have : ¬ pg t i = x := fun e => h e.symm
      simp [h, this]
theorem dec_if (b : Bool) : decide ((if b = true then (1 : Int) else 0) = 1) = b := by cases b <;> rfl
theorem impl_txOk_eq {k : Nat} (hk : Big k) {t : TTx} (h : smTx t) : impl_TxOk k t = some (txOk t) := by
  have hl := h.1
  have h2 := loop_first (b := impl_TxOk_b0 k t) (k := k) (n := t.Puts.length) (fun i => (mp t i, (i : Int))) (badTx t) (fun i => .ret false) (by omega) hk (fun i t h => by cases h)
    (fun i hi => by
      have c1 : decide ((i : Int) < ((List.length t.Puts : Nat) : Int)) = true := by simp; omega
      have c2 : (0 : Int) ≤ (i : Int) ∧ (i : Int) < ((List.length t.Puts : Nat) : Int) := by omega
      have hn : (gt t.Puts (i : Int)).N.L.length ≤ 2097152 := by rw [gt_nat hi]; exact h.2 _ (List.getElem_mem hi)
      have ep : (gt t.Puts (i : Int)).Page = pg t i := rfl
      have eN := impl_nodeOk_eq hk hn
      have eM := mp_get t (pg t i) i
      obtain ⟨nb, hnb⟩ : ∃ nb, nodeOk (gt t.Puts (i : Int)).N = nb := ⟨_, rfl⟩
      obtain ⟨ab, hab⟩ : ∃ ab, (List.range i).any (fun j => decide (pg t j = pg t i)) = ab := ⟨_, rfl⟩
      have eB : badTx t i = (!decide (0 ≤ pg t i ∧ pg t i ≤ wrap64 (t.Size - 1)) || ab || !nb) := by rw [badTx, hab, hnb]
      rw [hnb] at eN
      rw [hab] at eM
      simp only [impl_TxOk_b0, if_pos c1, if_pos c2, w64s (n := i) (by omega), eN, impl_in_eq, some_bind, ep, eM, eB, mp]
      by_cases hA : 0 ≤ pg t i ∧ pg t i ≤ wrap64 (t.Size - 1) <;> cases nb <;> cases ab <;> simp [hA])
    (by simp only [impl_TxOk_b0]; rw [if_neg (by simp)])
  have h2' : loopM (impl_TxOk_b0 k t) k (([] : List (Int × Int)), 0) = _ := h2
  rw [impl_TxOk, h2', txOk, impl_numsOk_eq]
  cases firstN (badTx t) t.Puts.length <;> rfl

theorem endCell_len (e : Int) (t : TTx) (n : Int) : (endCell e t n).length ≤ 8 ∧ 3 ≤ (endCell e t n).length := by
  have h2 := put2_len [2] e
  have h1 := put2_len (put2 [2] e) t.Seq
  simp only [endCell, List.length_append, List.length_cons, List.length_nil] at *; omega
def endOf (e : Int) (t : TTx) : List Int := if (0 ≤ e ∧ e ≤ 65535) ∧ txOk t = true then endCell e t (t.Puts.length : Int) else []
theorem endOf_len (e : Int) (t : TTx) : (endOf e t).length ≤ 8 := by
  unfold endOf; split
  · exact (endCell_len _ _ _).1
  · simp
theorem spec_endOf_eq {k : Nat} (hk : Big k) {e : Int} {t : TTx} (h : smTx t) : spec_EndCell k e t = some (endOf e t) := by
  have h2 := put2_len [2] e
  have h1 := put2_len (put2 [2] e) t.Seq
  simp only [List.length_cons, List.length_nil] at h1 h2
  rw [spec_EndCell, spec_in_eq, some_bind, spec_txOk_eq hk h, spec_put2_eq (x := e) (l := [2]) rfl]
  simp only [some_bind]
  rw [spec_put2_eq (x := t.Seq) (l := put2 [2] e) (okLen_iff.2 (by omega)), some_bind, if_pos (c := okLen _ = true) (okLen_iff.2 (by simp; omega)), endOf]
  by_cases he : 0 ≤ e ∧ e ≤ 65535 <;> cases txOk t <;> simp [he, u8w, endCell]
theorem impl_endOf_eq {k : Nat} (hk : Big k) {e : Int} {t : TTx} (h : smTx t) : impl_EndCell k e t = some (endOf e t) := by
  rw [impl_EndCell, impl_in_eq, some_bind, impl_txOk_eq hk h, impl_endCell_eq]
  simp only [some_bind, endOf]
  by_cases he : 0 ≤ e ∧ e ≤ 65535 <;> cases txOk t <;> simp [he]
def txCells (e : Int) (t : TTx) : List (List Int) := if (0 ≤ e ∧ e ≤ 65535) ∧ txOk t = true then t.Puts.map (putCell e) ++ [endOf e t] else []
theorem txCells_mem {e : Int} {t : TTx} : ∀ c ∈ txCells e t, c.length ≤ 29 := by
  intro c hc
  unfold txCells at hc
  split at hc
  · simp only [List.mem_append, List.mem_map, List.mem_cons, List.not_mem_nil, or_false] at hc
    rcases hc with ⟨x, _, rfl⟩ | rfl
    · exact putCell_len e x
    · have := endOf_len e t; omega
  · simp at hc
theorem txCells_len (e : Int) (t : TTx) : (txCells e t).length ≤ t.Puts.length + 1 := by
  unfold txCells; split <;> simp
theorem spec_txCells_eq {k : Nat} (hk : Big k) {e : Int} {t : TTx} (h : smTx t) : spec_TxCells k e t = some (txCells e t) := by
  have hl := h.1
  have e1 := loop_app (b := spec_TxCells_b0 k e t) (k := k) (f := fun x : TChange => [putCell e x]) (p := t.Puts) (z := []) (B := 1) (by omega) hk (fun _ _ => Nat.le_refl _) (fun i hi l hl2 => by
      simp only [List.length_nil] at hl2
      have c1 : decide ((i : Int) < ((List.length t.Puts : Nat) : Int)) = true := by simp; omega
      have c2 : (0 : Int) ≤ (i : Int) ∧ (i : Int) < ((List.length t.Puts : Nat) : Int) := by omega
      have hn := h.2 _ (List.getElem_mem hi)
      simp only [spec_TxCells_b0, if_pos c1, if_pos c2, gt_nat hi, spec_putCell_eq hk hn, some_bind]
      rw [if_pos (okLen_iff.2 (by simp; omega)), w64s (by omega)])
    (fun l => by simp only [spec_TxCells_b0]; rw [if_neg (by simp)])
  rw [spec_TxCells, spec_in_eq, some_bind, spec_txOk_eq hk h, e1, spec_endOf_eq hk h]
  simp only [some_bind, fm_map, List.nil_append]
  rw [if_pos (c := okLen _ = true) (okLen_iff.2 (by simp; omega)), txCells]
  by_cases he : 0 ≤ e ∧ e ≤ 65535 <;> cases txOk t <;> simp [he]
theorem impl_txCells_eq {k : Nat} (hk : Big k) {e : Int} {t : TTx} (h : smTx t) : impl_TxCells k e t = some (txCells e t) := by
  have hl := h.1
  have e1 := loop_app (b := impl_TxCells_b0 k e t) (k := k) (f := fun x : TChange => [putCell e x]) (p := t.Puts) (z := []) (B := 1) (by omega) hk (fun _ _ => Nat.le_refl _) (fun i hi l hl2 => by
      simp only [List.length_nil] at hl2
      have c1 : decide ((i : Int) < ((List.length t.Puts : Nat) : Int)) = true := by simp; omega
      have c2 : (0 : Int) ≤ (i : Int) ∧ (i : Int) < ((List.length t.Puts : Nat) : Int) := by omega
      have hn := h.2 _ (List.getElem_mem hi)
      simp only [impl_TxCells_b0, if_pos c1, if_pos c2, gt_nat hi, impl_putCell_eq hk hn, some_bind]
      rw [if_pos (okLen_iff.2 (by simp; omega)), w64s (by omega)])
    (fun l => by simp only [impl_TxCells_b0]; rw [if_neg (by simp)])
  rw [impl_TxCells, impl_endOf_eq hk h, e1]
  simp only [some_bind, fm_map, List.nil_append]
  rw [if_pos (c := okLen _ = true) (okLen_iff.2 (by simp; omega)), txCells]
  by_cases hc : (0 ≤ e ∧ e ≤ 65535) ∧ txOk t = true
  · have : 3 ≤ (endOf e t).length := by rw [endOf, if_pos hc]; exact (endCell_len _ _ _).2
    rw [if_pos hc, if_neg (by simp; intro hh; rw [hh] at this; simp at this)]
  · have : endOf e t = [] := by rw [endOf, if_neg hc]
    rw [if_neg hc, if_pos (by simp [this])]

theorem lsame_eq {k : Nat} (hk : Big k) {p q : List Int} (hl : p.length ≤ 2097152) : laws_same k p q = some (decide (p = q)) := by
  rw [laws_same]
  by_cases he : p.length = q.length
  · rw [if_neg (by simp [he])]
    rw [loop_all (c := fun i => decide (p[i]? = q[i]?)) (n := p.length) (r := false) (by omega) hk]
    · by_cases hpq : p = q
      · subst hpq; simp
      · rw [if_neg, decide_eq_false hpq]
        · rfl
        · intro hh
          exact hpq (List.ext_getElem? fun i => by
            by_cases hi : i < p.length
            · simpa using hh i hi
            · rw [List.getElem?_eq_none (by omega), List.getElem?_eq_none (by omega)])
    · intro i hi
      have c1 : decide ((i : Int) < ((List.length p : Nat) : Int)) = true := by simp; omega
      have c2 : (0 : Int) ≤ (i : Int) ∧ (i : Int) < ((List.length p : Nat) : Int) := by omega
      have c3 : (0 : Int) ≤ (i : Int) ∧ (i : Int) < ((List.length q : Nat) : Int) := by omega
      have hq : i < q.length := by omega
      simp only [laws_same_b0, if_pos c1, if_pos c2, if_pos c3, gt_nat hi, gt_nat hq, w64s (n := i) (by omega), List.getElem?_eq_getElem hi, List.getElem?_eq_getElem hq, Option.some.injEq]
      by_cases hv : p[i] = q[i] <;> simp [hv]
    · have c1 : ¬ decide (((List.length p : Nat) : Int) < ((List.length p : Nat) : Int)) = true := by simp
      simp only [laws_same_b0, if_neg c1]
  · rw [if_pos (by simp; omega), decide_eq_false]
    rintro rfl; exact he rfl
theorem eEqual_eq {k : Nat} (hk : Big k) {p q : List TEntry} (hl : p.length ≤ 2097152) : slices_Equal_impl_Entry_impl_Entry k p q = some (decide (p = q)) := by
  rw [slices_Equal_impl_Entry_impl_Entry]
  by_cases he : p.length = q.length
  · rw [if_neg (by simp [he])]
    rw [loop_all (c := fun i => decide (p[i]? = q[i]?)) (n := p.length) (r := false) (by omega) hk]
    · by_cases hpq : p = q
      · subst hpq; simp
      · rw [if_neg, decide_eq_false hpq]
        · rfl
        · intro hh
          exact hpq (List.ext_getElem? fun i => by
            by_cases hi : i < p.length
            · simpa using hh i hi
            · rw [List.getElem?_eq_none (by omega), List.getElem?_eq_none (by omega)])
    · intro i hi
      have c1 : decide ((i : Int) < ((List.length p : Nat) : Int)) = true := by simp; omega
      have c2 : (0 : Int) ≤ (i : Int) ∧ (i : Int) < ((List.length p : Nat) : Int) := by omega
      have c3 : (0 : Int) ≤ (i : Int) ∧ (i : Int) < ((List.length q : Nat) : Int) := by omega
      have hq : i < q.length := by omega
      simp only [slices_Equal_impl_Entry_impl_Entry_b0, if_pos c1, if_pos c2, if_pos c3, gt_nat hi, gt_nat hq, w64s (n := i) (by omega), List.getElem?_eq_getElem hi, List.getElem?_eq_getElem hq, Option.some.injEq]
      by_cases hv : p[i] = q[i] <;> simp [hv]
    · have c1 : ¬ decide (((List.length p : Nat) : Int) < ((List.length p : Nat) : Int)) = true := by simp
      simp only [slices_Equal_impl_Entry_impl_Entry_b0, if_neg c1]
  · rw [if_pos (by simp; omega), decide_eq_false]
    rintro rfl; exact he rfl
theorem sameNode_eq {k : Nat} (hk : Big k) {p q : TNode} (hl : p.L.length ≤ 2097152) : impl_SameNode k p q = some (decide (p = q)) := by
  rw [impl_SameNode]
  obtain ⟨a, l⟩ := p
  obtain ⟨c, m⟩ := q
  simp only at hl ⊢
  by_cases h : a = c
  · subst h
    rw [if_pos (by simp), eEqual_eq hk hl]
    simp
  · rw [if_neg (by simpa using h)]
    simp [h]
theorem sameNode_refl {k : Nat} (hk : Big k) {p : TNode} (hl : p.L.length ≤ 2097152) : impl_SameNode k p p = some true := by
  rw [sameNode_eq hk hl]; simp

theorem sameTx_refl {k : Nat} (hk : Big k) {t : TTx} (h1 : t.Puts.length ≤ 2097152) (h2 : ∀ c ∈ t.Puts, c.N.L.length ≤ 2097152) : laws_sameTx k t t = some true := by
  rw [laws_sameTx, if_neg (by simp)]
  have e1 := loopM_run0 (b := laws_sameTx_b0 k t t) (k := k) (fun i => (i : Int)) t.Puts.length (r := .out (t.Puts.length : Int)) (fun t h => by cases h) (fun j hj => by
      have c1 : decide ((j : Int) < ((List.length t.Puts : Nat) : Int)) = true := by simp; omega
      have c2 : (0 : Int) ≤ (j : Int) ∧ (j : Int) < ((List.length t.Puts : Nat) : Int) := by omega
      have hb := h2 _ (List.getElem_mem hj)
      simp only [laws_sameTx_b0, if_pos c1, if_pos c2, gt_nat hj, sameNode_refl hk hb, w64s (n := j) (by omega)]
      simp) (by simp only [laws_sameTx_b0]; rw [if_neg (by simp)]) (by have : 9223372036854775808 ≤ k := hk; omega)
  have e1' : loopM (laws_sameTx_b0 k t t) k 0 = _ := e1
  rw [e1', some_bind]

theorem endOf_wf (e : Int) (t : TTx) : ∀ x ∈ endOf e t, wfU8 x := by
  intro x hx
  unfold endOf endCell at hx
  split at hx
  · rcases List.mem_append.1 hx with h | h
    · exact put2_wf (put2_wf (fun z hz => by simp at hz; subst hz; constructor <;> omega)) x h
    · simp only [List.mem_cons, List.not_mem_nil, or_false] at h
      rcases h with rfl | rfl | rfl <;> exact m256_wf _
  · simp at hx
theorem putCell_head {e : Int} {x : TChange} (h : putCell e x ≠ []) : gt (pad (putCell e x) 32) 0 = 1 := by
  unfold putCell at h ⊢
  split
  · rename_i hc
    rw [pad, if_pos (by omega), put2, if_pos hc.1]
    rfl
  · rename_i hc
    rw [if_neg hc] at h
    exact absurd rfl h
theorem laws_FnFramesBent_true {p0 : List Int} (h0 : wfL wfU8 p0) : ∃ k, laws_FnFramesBent k p0 = some true := by
  refine ⟨9223372036854775808, ?_⟩
  generalize hK : 9223372036854775808 = k
  have hk : Big k := by rw [Big, hK]; exact Nat.le_refl _
  clear hK
  rw [laws_FnFramesBent, laws_big, some_bind]
  by_cases hl : ((List.length p0 : Nat) : Int) > 1048576
  · rw [if_pos (by simpa using hl)]
  rw [if_neg (by simpa using hl)]
  have hl' : p0.length ≤ 1048576 := by omega
  obtain ⟨hh, en⟩ := new_ok hk hl'
  have o0 : okI p0 0 := ⟨Int.le_refl _, by omega⟩
  have smT : ∀ {t : TTx}, (t.Puts.length ≤ 10 ∧ ∀ c ∈ t.Puts, c.N.L.length ≤ 8) → smTx t := fun {t} h => ⟨by have := h.1; omega, fun y hy => by have := h.2 y hy; omega⟩
  have gT : ∀ {t : TTx}, goodT t → smTx t := fun {t} ht => smT ⟨by have := ht.2.2.2.1; omega, fun c hc => by have := (ht.2.2.2.2.1 c hc).1.1; omega⟩
  obtain ⟨⟨e, b⟩, eP, hb⟩ : ∃ r, spec_DrawGetPut k p0 = some r ∧ (r.2.length ≤ 65 ∧ ∀ x ∈ r.2, wfU8 x) := by
    rw [spec_DrawGetPut]
    refine Ne.pbind en ?_
    refine Dr.bindN (int_dr o0 hl' (by simp)) fun e i1 h1 o1 he => ?_
    refine Dr.bindN (l19change_dr hk o1 hl') fun x i2 h2 o2 hx => ?_
    refine Dr.bindN (once_dr o2 hl' 8) fun c i3 h3 o3 hc => Ne.ite (fun _ => ?_) fun _ => ?_
    · refine Dr.bindN (l19draw_dr hk o3 hl') fun t i4 h4 o4 ht => ?_
      refine Ne.pbind (spec_endOf_eq hk (gT ht)) ?_
      have hq := endOf_len e t
      exact Dr.bindN (l19bytes_dr hk o4 hl' (Nat.le_trans hq (by omega)) (endOf_wf e t)) fun u i5 h5 o5 hu => ⟨_, rfl, hu⟩
    · refine Dr.bindN (int_dr o3 hl' (by simp)) fun e' i4 h4 o4 he' => ?_
      have hx' : x.N.L.length ≤ 8 := hx
      refine Ne.pbind (spec_putCell_eq hk (e := e') (x := x) (by omega)) ?_
      have hq := putCell_len e' x
      exact Dr.bindN (l19bytes_dr hk o4 hl' (Nat.le_trans hq (by omega)) (putCell_wf e' x)) fun u i5 h5 o5 hu => ⟨_, rfl, hu⟩
  obtain ⟨⟨f, c⟩, eE, hc⟩ : ∃ r, spec_DrawGetEnd k p0 = some r ∧ (r.2.length ≤ 65 ∧ ∀ x ∈ r.2, wfU8 x) := by
    rw [spec_DrawGetEnd]
    refine Ne.pbind en ?_
    refine Dr.bindN (int_dr o0 hl' (by simp)) fun e i1 h1 o1 he => ?_
    refine Dr.bindN (l19draw_dr hk o1 hl') fun t i2 h2 o2 ht => ?_
    refine Dr.bindN (once_dr o2 hl' 8) fun c i3 h3 o3 hc => Ne.ite (fun _ => ?_) fun _ => ?_
    · refine Dr.bindN (l19change_dr hk o3 hl') fun x i4 h4 o4 hx => ?_
      have hx' : x.N.L.length ≤ 8 := hx
      refine Ne.pbind (spec_putCell_eq hk (e := e) (x := x) (by omega)) ?_
      have hq := putCell_len e x
      exact Dr.bindN (l19bytes_dr hk o4 hl' (Nat.le_trans hq (by omega)) (putCell_wf e x)) fun u i5 h5 o5 hu => ⟨_, rfl, hu⟩
    · refine Dr.bindN (int_dr o3 hl' (by simp)) fun e' i4 h4 o4 he' => ?_
      refine Ne.pbind (spec_endOf_eq hk (gT ht)) ?_
      have hq := endOf_len e' t
      exact Dr.bindN (l19bytes_dr hk o4 hl' (Nat.le_trans hq (by omega)) (endOf_wf e' t)) fun u i5 h5 o5 hu => ⟨_, rfl, hu⟩
  obtain ⟨⟨g, t⟩, eT, ht⟩ : ∃ r, spec_DrawTxCells k p0 = some r ∧ (r.2.Puts.length ≤ 10 ∧ ∀ c ∈ r.2.Puts, c.N.L.length ≤ 8) := by
    rw [spec_DrawTxCells, spec_DrawEndCell]
    refine Ne.ebind (P := fun r => r.2.Puts.length ≤ 10 ∧ ∀ c ∈ r.2.Puts, c.N.L.length ≤ 8) ?_ fun r hr => ⟨_, rfl, hr⟩
    refine Ne.pbind en ?_
    refine Dr.bindN (l19epoch_dr o0 hl') fun e i1 h1 o1 he => ?_
    exact Dr.bindN (l19any_dr hk o1 hl') fun t i2 h2 o2 ht => ⟨_, rfl, ht⟩
  simp only at hb hc ht
  obtain ⟨x, x1, x2, x3, x4⟩ := getPut_full hk (e := e) hb.2 (by omega)
  have := Classical.propDecidable (endOk f c)
  have y1 := spec_getEnd_eq hk (e := f) hc.2 (by omega)
  have y2 := impl_getEnd_eq hk (e := f) hc.2 (by omega)
  generalize hY : (if endOk f c then (endTx c, gt c 7, true) else ((⟨0, 0, 0, []⟩ : TTx), (0 : Int), false)) = y at y1 y2
  have y3 : y.2.2 = true → gt c 0 = 2 := by
    intro h
    rw [← hY] at h
    by_cases hE : endOk f c
    · exact hE.2.1
    · rw [if_neg hE] at h; cases h
  have y4 : y.1.Puts = [] := by rw [← hY]; split <;> rfl
  have hsT := smT ht
  have z1 := spec_txCells_eq hk (e := g) hsT
  have z2 := impl_txCells_eq hk (e := g) hsT
  generalize hZ : txCells g t = z at z1 z2
  have hzm : ∀ c ∈ z, c.length ≤ 29 := by rw [← hZ]; exact txCells_mem
  have hzl : z.length = 0 ∨ z.length = t.Puts.length + 1 := by
    rw [← hZ, txCells]
    split
    · right; simp
    · left; rfl
  have hloop : loopM (laws_FnFramesBent_b0 k z z) k 0 = some (.out (z.length : Int)) := by
    exact loopM_run0 (b := laws_FnFramesBent_b0 k z z) (k := k) (fun i => (i : Int)) z.length (r := .out (z.length : Int)) (fun t h => by cases h) (fun j hj => by
      have c1 : decide ((j : Int) < ((List.length z : Nat) : Int)) = true := by simp; omega
      have c2 : (0 : Int) ≤ (j : Int) ∧ (j : Int) < ((List.length z : Nat) : Int) := by omega
      have hb := hzm _ (List.getElem_mem hj)
      simp only [laws_FnFramesBent_b0, if_pos c1, if_pos c2, gt_nat hj, lsame_eq hk (p := z[j]) (q := z[j]) (by omega), w64s (n := j) (by omega)]
      simp) (by simp only [laws_FnFramesBent_b0]; rw [if_neg (by simp)]) (by have : 9223372036854775808 ≤ k := hk; omega)
  simp only [eP, eE, eT, x1, x2, y1, y2, z1, z2, some_bind, hloop, sameNode_refl hk (p := x.1.N) (by omega), sameTx_refl hk (t := y.1) (by rw [y4]; simp) (by rw [y4]; simp), beq_self_eq_true, Bool.not_true, decide_true, Bool.or_self, Bool.false_eq_true, if_false, lsame_eq hk (p := b) (q := c) (by omega)]
  have hbc : ¬ ((x.2 && y.2.2) = true ∧ b = c) := by
    rintro ⟨h, rfl⟩
    rw [Bool.and_eq_true] at h
    have h1 := x4 h.1
    have h2 := putCell_head h1.1
    rw [h1.2] at h2
    rw [y3 h.2] at h2
    cases h2
  have hz2 : (decide (((List.length z : Nat) : Int) = 0) || decide (((List.length z : Nat) : Int) = wrap64 (((List.length t.Puts : Nat) : Int) + 1))) = true := by
    rw [w64s (by have := ht.1; omega)]
    rcases hzl with h | h
    · rw [h]; rfl
    · rw [h]; simp
  rw [hz2]
  by_cases hq : (x.2 && y.2.2) = true
  · have hne : b ≠ c := fun h => hbc ⟨hq, h⟩
    simp [hq, hne]
  · rw [if_neg hq]
    simp

end Go.Proofs.Sx
