/- FnExactGetEnd: the plain law. -/
import Derived.Test.YteeiibdkpdaniaaGX
import Derived.Test.YteeiibdkpdaniaaLP
namespace Go.Proofs.Sx
open Go.RowKit
set_option maxRecDepth 20000
set_option linter.unusedVariables false
set_option linter.unusedSimpArgs false
theorem impl_in_eq (x a b : Int) : impl_in x a b = some (decide (a ≤ x ∧ x ≤ b)) := by simp [impl_in, Bool.decide_and]

theorem spec_in_eq (x a b : Int) : spec_l1In x a b = some (decide (a ≤ x ∧ x ≤ b)) := by simp [spec_l1In, Bool.decide_and, ge_iff_le]


def boxOkP (b : TBox) : Prop := 0 ≤ b.X0 ∧ b.X0 ≤ b.X1 ∧ b.X1 ≤ 255 ∧ 0 ≤ b.Y0 ∧ b.Y0 ≤ b.Y1 ∧ b.Y1 ≤ 255
instance (b : TBox) : Decidable (boxOkP b) := by unfold boxOkP; infer_instance
theorem spec_boxOk_eq (b : TBox) : spec_BoxOk b = some (decide (boxOkP b)) := by
  simp only [spec_BoxOk, spec_in_eq, some_bind, and_if]
  exact some_dec (by unfold boxOkP; omega)
def entryAt (l : List TEntry) (n : Int) : Int := match firstN (fun i => decide ((gt l (i : Int)).N = n)) l.length with
  | some i => (i : Int)
  | none => -1
theorem spec_entryAt_eq {k : Nat} (hk : Big k) {l : List TEntry} (hl : l.length ≤ 2097152) (n : Int) : spec_EntryAt k l n = some (entryAt l n) := by
  have h := loop_first (b := spec_EntryAt_b0 l n) (k := k) (n := l.length) (fun i => (i : Int)) (fun i => decide ((gt l (i : Int)).N = n)) (fun i => .ret (i : Int)) (by omega) hk (fun i t h => by cases h)
    (fun i hi => by
      have c1 : decide ((i : Int) < ((List.length l : Nat) : Int)) = true := by simp; omega
      have c2 : (0 : Int) ≤ (i : Int) ∧ (i : Int) < ((List.length l : Nat) : Int) := by omega
      simp only [spec_EntryAt_b0, if_pos c1, if_pos c2, w64s (n := i) (by omega)]
      split <;> rfl)
    (by simp only [spec_EntryAt_b0]; rw [if_neg (by simp)])
  have h' : loopM (spec_EntryAt_b0 l n) k 0 = _ := h
  rw [spec_EntryAt, h', entryAt]
  cases firstN (fun i => decide ((gt l (i : Int)).N = n)) l.length <;> rfl
def badEntry (p : TNode) (i : Nat) : Prop := ¬ boxOkP (gt p.L (i : Int)).R ∨ entryAt p.L (gt p.L (i : Int)).N ≠ (i : Int) ∨ (p.Leaf = true ∧ ¬ (1 ≤ (gt p.L (i : Int)).N ∧ (gt p.L (i : Int)).N ≤ 999)) ∨ (p.Leaf = false ∧ ¬ (0 ≤ (gt p.L (i : Int)).N ∧ (gt p.L (i : Int)).N ≤ 47))
instance (p : TNode) (i : Nat) : Decidable (badEntry p i) := by unfold badEntry; infer_instance
def nodeOk (p : TNode) : Bool := (firstN (fun i => decide (badEntry p i)) p.L.length).isNone && decide (p.L.length ≤ 4) && (p.Leaf || decide (p.L.length > 0))
theorem spec_nodeOk_eq {k : Nat} (hk : Big k) {p : TNode} (hl : p.L.length ≤ 2097152) : spec_NodeOk k p = some (nodeOk p) := by
  have h := loop_first (b := spec_NodeOk_b0 k p) (k := k) (n := p.L.length) (fun i => (i : Int)) (fun i => decide (badEntry p i)) (fun i => .ret false) (by omega) hk (fun i t h => by cases h)
    (fun i hi => by
      have c1 : decide ((i : Int) < ((List.length p.L : Nat) : Int)) = true := by simp; omega
      have c2 : (0 : Int) ≤ (i : Int) ∧ (i : Int) < ((List.length p.L : Nat) : Int) := by omega
      simp only [spec_NodeOk_b0, if_pos c1, if_pos c2, w64s (n := i) (by omega), spec_boxOk_eq, spec_entryAt_eq hk hl, spec_in_eq, some_bind]
      by_cases hA : boxOkP (gt p.L (i : Int)).R <;> by_cases hB : entryAt p.L (gt p.L (i : Int)).N = (i : Int) <;> cases hL : p.Leaf <;>
        by_cases hC : 1 ≤ (gt p.L (i : Int)).N ∧ (gt p.L (i : Int)).N ≤ 999 <;> by_cases hD : 0 ≤ (gt p.L (i : Int)).N ∧ (gt p.L (i : Int)).N ≤ 47 <;> simp [badEntry, hA, hB, hC, hD, hL])
    (by simp only [spec_NodeOk_b0]; rw [if_neg (by simp)])
  have h' : loopM (spec_NodeOk_b0 k p) k 0 = _ := h
  rw [spec_NodeOk, h', nodeOk]
  cases firstN (fun i => decide (badEntry p i)) p.L.length
  · have e1 : decide (((List.length p.L : Nat) : Int) ≤ 4) = decide (p.L.length ≤ 4) := decide_eq_decide.2 (by omega)
    have e2 : decide (((List.length p.L : Nat) : Int) > 0) = decide (p.L.length > 0) := decide_eq_decide.2 (by omega)
    simp only [some_bind, e1, e2, Option.isNone_none, Bool.true_and]
  · rfl
theorem nodeOk_facts {p : TNode} (h : nodeOk p = true) : p.L.length ≤ 4 ∧ (∀ i, i < p.L.length → ¬ badEntry p i) ∧ (p.Leaf = false → 0 < p.L.length) := by
  unfold nodeOk at h
  simp only [Bool.and_eq_true, decide_eq_true_eq, Bool.or_eq_true, Option.isNone_iff_eq_none] at h
  obtain ⟨⟨h1, h2⟩, h3⟩ := h
  exact ⟨h2, fun i hi => by simpa using firstN_none h1 i hi, fun hL => by rcases h3 with h | h; rw [hL] at h; cases h; exact h⟩

def pg (t : TTx) (i : Nat) : Int := (gt t.Puts (i : Int)).Page
def badTx (t : TTx) (i : Nat) : Bool := !decide (0 ≤ pg t i ∧ pg t i ≤ wrap64 (t.Size - 1)) || (List.range i).any (fun j => decide (pg t j = pg t i)) || !nodeOk (gt t.Puts (i : Int)).N
def numsOk (t : TTx) : Bool := decide (1 ≤ t.Seq ∧ t.Seq ≤ 65535) && decide (1 ≤ t.Size ∧ t.Size ≤ 48) && decide (0 ≤ t.Root ∧ t.Root ≤ wrap64 (t.Size - 1))
def txOk (t : TTx) : Bool := (firstN (badTx t) t.Puts.length).isNone && numsOk t
def smTx (t : TTx) : Prop := t.Puts.length ≤ 2097152 ∧ ∀ y ∈ t.Puts, y.N.L.length ≤ 2097152
theorem spec_txOk_eq {k : Nat} (hk : Big k) {t : TTx} (h : smTx t) : spec_TxOk k t = some (txOk t) := by
  have hl := h.1
  have h2 := loop_first (b := spec_TxOk_b2 k t) (k := k) (n := t.Puts.length) (fun i => (i : Int)) (badTx t) (fun i => .ret false) (by omega) hk (fun i t h => by cases h)
    (fun i hi => by
      have c1 : decide ((i : Int) < ((List.length t.Puts : Nat) : Int)) = true := by simp; omega
      have c2 : (0 : Int) ≤ (i : Int) ∧ (i : Int) < ((List.length t.Puts : Nat) : Int) := by omega
      have hn : (gt t.Puts (i : Int)).N.L.length ≤ 2097152 := by rw [gt_nat hi]; exact h.2 _ (List.getElem_mem hi)
      have h3 := loop_first (b := spec_TxOk_b3 t (i : Int)) (k := k) (n := i) (fun j => (j : Int)) (fun j => decide (pg t j = pg t i)) (fun i => .ret false) (by omega) hk (fun i t h => by cases h)
        (fun j hj => by
          have d1 : decide ((j : Int) < (i : Int)) = true := by simp; omega
          have d2 : (0 : Int) ≤ (j : Int) ∧ (j : Int) < ((List.length t.Puts : Nat) : Int) := by omega
          simp only [spec_TxOk_b3, if_pos d1, if_pos d2, if_pos c2, w64s (n := j) (by omega), pg]
          exact some_ite _ _ _)
        (by simp only [spec_TxOk_b3]; rw [if_neg (by simp)])
      have h3' : loopM (spec_TxOk_b3 t (i : Int)) k 0 = _ := h3
      simp only [spec_TxOk_b2, if_pos c1, if_pos c2, w64s (n := i) (by omega), spec_nodeOk_eq hk hn, spec_in_eq, some_bind, h3', badTx, firstN_any]
      have ep : (gt t.Puts (i : Int)).Page = pg t i := rfl
      rw [ep]
      by_cases hA : 0 ≤ pg t i ∧ pg t i ≤ wrap64 (t.Size - 1) <;> cases hB : nodeOk (gt t.Puts (i : Int)).N <;> cases hC : firstN (fun j => decide (pg t j = pg t i)) i <;> simp [hA])
    (by simp only [spec_TxOk_b2]; rw [if_neg (by simp)])
  have h2' : loopM (spec_TxOk_b2 k t) k 0 = _ := h2
  rw [spec_TxOk, h2', txOk]
  cases firstN (badTx t) t.Puts.length
  · simp only [some_bind, spec_in_eq, Option.isNone_none, Bool.true_and, numsOk]
    generalize decide (1 ≤ t.Seq ∧ t.Seq ≤ 65535) = a
    generalize decide (1 ≤ t.Size ∧ t.Size ≤ 48) = b
    generalize decide (0 ≤ t.Root ∧ t.Root ≤ wrap64 (t.Size - 1)) = c
    cases a <;> cases b <;> cases c <;> rfl
  · rfl
theorem impl_numsOk_eq (t : TTx) : impl_Tx_numbersOk t = some (numsOk t) := by
  simp only [impl_Tx_numbersOk, impl_in_eq, some_bind, numsOk]
  generalize decide (1 ≤ t.Seq ∧ t.Seq ≤ 65535) = a
  generalize decide (1 ≤ t.Size ∧ t.Size ≤ 48) = b
  generalize decide (0 ≤ t.Root ∧ t.Root ≤ wrap64 (t.Size - 1)) = c
  cases a <;> cases b <;> cases c <;> rfl

theorem gt_mem {α : Type} [Inhabited α] {l : List α} {i : Int} (h0 : 0 ≤ i) (h : i < (l.length : Int)) : gt l i ∈ l := by
  obtain ⟨hi, e⟩ := gt_eq h0 h
  rw [e]; exact List.getElem_mem hi
theorem or_bytes {a b : Int} (ha : 0 ≤ a) (ha2 : a ≤ 255) (hb : 0 ≤ b) (hb2 : b ≤ 255) : bits2 (· ||| ·) (wrap64 (a * 256)) b = 256 * a + b := by
  obtain ⟨x, rfl⟩ := Int.eq_ofNat_of_zero_le ha
  obtain ⟨y, rfl⟩ := Int.eq_ofNat_of_zero_le hb
  rw [w64 (by omega) (by omega)]
  unfold bits2
  have e1 : ((x : Int) * 256) = ((2 ^ 8 * x : Nat) : Int) := by omega
  rw [e1, BitVec.ofInt_natCast, BitVec.ofInt_natCast, BitVec.toNat_or, BitVec.toNat_ofNat, BitVec.toNat_ofNat, Nat.mod_eq_of_lt (by omega), Nat.mod_eq_of_lt (by omega), ← Nat.two_pow_add_eq_or_of_lt (by omega), w64 (by omega) (by omega)]
  omega
def get2 (l : List Int) (i : Int) : Int × Bool := if i < 0 ∨ i > (l.length : Int) - 2 then (0, false) else (256 * gt l i + gt l (i + 1), true)
theorem get2_facts {l : List Int} {i : Int} (hw : ∀ x ∈ l, wfU8 x) (hl : l.length ≤ 2097152) (h : ¬ (i < 0 ∨ i > (l.length : Int) - 2)) :
    wfU8 (gt l i) ∧ wfU8 (gt l (i + 1)) ∧ wrap64 (i + 1) = i + 1 ∧ (0 ≤ i ∧ i < (l.length : Int)) ∧ (0 ≤ i + 1 ∧ i + 1 < (l.length : Int)) := by
  refine ⟨hw _ (gt_mem (by omega) (by omega)), hw _ (gt_mem (by omega) (by omega)), w64 (by omega) (by omega), by omega, by omega⟩
theorem spec_get2_eq {l : List Int} {i : Int} (hw : ∀ x ∈ l, wfU8 x) (hl : l.length ≤ 2097152) : spec_Get2 l i = some (get2 l i) := by
  unfold spec_Get2 get2
  rw [w64 (n := (l.length : Int) - 2) (by omega) (by omega)]
  by_cases h : i < 0 ∨ i > (l.length : Int) - 2
  · simp [h]
  · obtain ⟨⟨a1, a2⟩, ⟨b1, b2⟩, e, h1, h2⟩ := get2_facts hw hl h
    rw [if_neg (by simpa using h), e, if_pos h1, if_pos h2, if_neg h]
    rw [i64w, i64w, w64 (n := gt l i) (by omega) (by omega), w64 (n := gt l (i + 1)) (by omega) (by omega), w64 (n := 256 * gt l i) (by omega) (by omega), w64 (by omega) (by omega)]
theorem impl_get2_eq {l : List Int} {i : Int} (hw : ∀ x ∈ l, wfU8 x) (hl : l.length ≤ 2097152) : impl_Get2 l i = some (get2 l i) := by
  unfold impl_Get2 get2
  rw [w64 (n := (l.length : Int) - 2) (by omega) (by omega)]
  by_cases h : i < 0 ∨ i > (l.length : Int) - 2
  · simp [h]
  · obtain ⟨⟨a1, a2⟩, ⟨b1, b2⟩, e, h1, h2⟩ := get2_facts hw hl h
    rw [if_neg (by simpa using h), e, if_pos h1, if_pos h2, if_neg h]
    rw [i64w, i64w, w64 (n := gt l i) (by omega) (by omega), w64 (n := gt l (i + 1)) (by omega) (by omega), sh8, or_bytes a1 a2 b1 b2]

def pad (l : List Int) (n : Int) : List Int := if n ≤ 64 then l ++ List.replicate (n.toNat - l.length) 0 else l
theorem pad_len {l : List Int} {n : Int} (h0 : (l.length : Int) ≤ n) (h : n ≤ 64) : (pad l n).length = n.toNat := by
  unfold pad; rw [if_pos h]; simp; omega
theorem pad_trace {ρ : Type} {b : List Int → Option (Nx (List Int) ρ)} {l : List Int} {n : Int} {k : Nat} (hk : Big k) (hn : n ≤ 64)
    (hb : ∀ m : List Int, (m.length : Int) < n → b m = some (.next (m ++ [0]))) (he : ∀ m : List Int, ¬ (m.length : Int) < n → b m = some (.out m)) :
    loopM b k l = some (.out (l ++ List.replicate (n.toNat - l.length) 0)) := by
  have key := loopM_run0 (b := b) (k := k) (fun j => l ++ List.replicate j (0 : Int)) (n.toNat - l.length) (r := .out (l ++ List.replicate (n.toNat - l.length) 0)) (fun t h => by cases h) ?_ ?_ (by have : 9223372036854775808 ≤ k := hk; omega)
  · simpa using key
  · intro j hj
    rw [hb _ (by simp; omega), List.replicate_succ', List.append_assoc]
  · exact he _ (by simp; omega)
theorem impl_pad_eq {k : Nat} (hk : Big k) {l : List Int} {n : Int} (hl : l.length ≤ 2097152) : impl_Pad k l n = some (pad l n) := by
  unfold impl_Pad pad
  simp only [slices_Clone_byte_byte]
  rw [if_pos (okLen_iff.2 (by omega)), some_bind]
  by_cases hn : n ≤ 64
  · rw [if_neg (by simp; omega), pad_trace hk hn]
    · simp [hn]
    · intro m hm
      simp only [impl_Pad_b0]
      rw [if_pos (by simp [hm]), if_pos (okLen_iff.2 (by simp; omega))]
    · intro m hm
      simp only [impl_Pad_b0]
      rw [if_neg (by simp [hm])]
  · rw [if_pos (by simp; omega)]; simp [hn]

def put2 (l : List Int) (x : Int) : List Int := if 0 ≤ x ∧ x ≤ 65535 then l ++ [x / 256, x % 256] else l
theorem put2_len (l : List Int) (x : Int) : (put2 l x).length ≤ l.length + 2 := by
  unfold put2; split <;> simp
theorem impl_put2_eq {l : List Int} {x : Int} (h : okLen (l.length + 2) = true) : impl_Put2 l x = some (put2 l x) := by
  have h1 : okLen l.length = true := okLen_le h (by omega)
  simp only [impl_Put2, slices_Clone_byte_byte, impl_in_eq, some_bind, h1, if_true, List.length_cons, List.length_nil, Nat.zero_add, h, put2]
  by_cases hx : 0 ≤ x ∧ x ≤ 65535
  · simp only [hx, decide_true, Bool.not_true, Bool.false_eq_true, if_false, if_true, and_self, u8w, sh8]
    rw [fdiv_pos (by omega)]
    have e3 : x / 256 % 256 = x / 256 := by omega
    rw [e3]
  · simp [hx]

def endCell (e : Int) (t : TTx) (n : Int) : List Int := put2 (put2 [2] e) t.Seq ++ [t.Root % 256, t.Size % 256, n % 256]
theorem endCell_len (e : Int) (t : TTx) (n : Int) : (endCell e t n).length ≤ 8 := by
  have h2 := put2_len [2] e
  have h1 := put2_len (put2 [2] e) t.Seq
  simp only [endCell, List.length_append, List.length_cons, List.length_nil] at *; omega
theorem impl_endCell_eq (e : Int) (t : TTx) (n : Int) : impl_endCell e t n = some (endCell e t n) := by
  have h2 := put2_len [2] e
  have h1 := put2_len (put2 [2] e) t.Seq
  simp only [List.length_cons, List.length_nil] at h1 h2
  rw [impl_endCell, impl_put2_eq (x := e) (l := [2]) rfl, some_bind, impl_put2_eq (okLen_iff.2 (by omega)), some_bind, if_pos (okLen_iff.2 (by simp; omega))]
  simp only [u8w, endCell]
def endTx (b : List Int) : TTx := ⟨256 * gt b 3 + gt b 4, gt b 5, gt b 6, []⟩
def endOk (e : Int) (b : List Int) : Prop := b.length = 32 ∧ gt b 0 = 2 ∧ 256 * gt b 1 + gt b 2 = e ∧ (∀ i, i < 24 → gt b (8 + (i : Nat)) = 0) ∧ numsOk (endTx b) = true ∧ gt b 7 ≤ gt b 6
theorem txOk_nil {t : TTx} (h : t.Puts = []) : txOk t = numsOk t := by simp [txOk, h, firstN_zero]
theorem endCell_eq {e : Int} {b : List Int} (hw : ∀ x ∈ b, wfU8 x) (hl : b.length = 32) (he : 0 ≤ e ∧ e ≤ 65535) :
    pad (endCell e (endTx b) (gt b 7)) 32 = b ↔ gt b 0 = 2 ∧ 256 * gt b 1 + gt b 2 = e ∧ (∀ i, i < 24 → gt b (8 + (i : Nat)) = 0) := by
  rcases b with _ | ⟨b0, b⟩; · simp at hl
  rcases b with _ | ⟨b1, b⟩; · simp at hl
  rcases b with _ | ⟨b2, b⟩; · simp at hl
  rcases b with _ | ⟨b3, b⟩; · simp at hl
  rcases b with _ | ⟨b4, b⟩; · simp at hl
  rcases b with _ | ⟨b5, b⟩; · simp at hl
  rcases b with _ | ⟨b6, b⟩; · simp at hl
  rcases b with _ | ⟨b7, b⟩; · simp at hl
  have hr : b.length = 24 := by simpa using hl
  have w1 : wfU8 b1 := hw _ (by simp)
  have w2 : wfU8 b2 := hw _ (by simp)
  have w3 : wfU8 b3 := hw _ (by simp)
  have w4 : wfU8 b4 := hw _ (by simp)
  have w5 : wfU8 b5 := hw _ (by simp)
  have w6 : wfU8 b6 := hw _ (by simp)
  have w7 : wfU8 b7 := hw _ (by simp)
  simp only [wfU8] at w1 w2 w3 w4 w5 w6 w7
  have g0 : gt (b0 :: b1 :: b2 :: b3 :: b4 :: b5 :: b6 :: b7 :: b) 0 = b0 := rfl
  have g1 : gt (b0 :: b1 :: b2 :: b3 :: b4 :: b5 :: b6 :: b7 :: b) 1 = b1 := rfl
  have g2 : gt (b0 :: b1 :: b2 :: b3 :: b4 :: b5 :: b6 :: b7 :: b) 2 = b2 := rfl
  have g3 : gt (b0 :: b1 :: b2 :: b3 :: b4 :: b5 :: b6 :: b7 :: b) 3 = b3 := rfl
  have g4 : gt (b0 :: b1 :: b2 :: b3 :: b4 :: b5 :: b6 :: b7 :: b) 4 = b4 := rfl
  have g5 : gt (b0 :: b1 :: b2 :: b3 :: b4 :: b5 :: b6 :: b7 :: b) 5 = b5 := rfl
  have g6 : gt (b0 :: b1 :: b2 :: b3 :: b4 :: b5 :: b6 :: b7 :: b) 6 = b6 := rfl
  have g7 : gt (b0 :: b1 :: b2 :: b3 :: b4 :: b5 :: b6 :: b7 :: b) 7 = b7 := rfl
  have g8 : ∀ i, i < 24 → gt (b0 :: b1 :: b2 :: b3 :: b4 :: b5 :: b6 :: b7 :: b) (8 + (i : Nat)) = gt b (i : Int) := by
    intro i _
    have : (8 + (i : Int)).toNat = i + 8 := by omega
    simp only [gt, this, Int.toNat_natCast]
    rfl
  have hz : (∀ i, i < 24 → gt (b0 :: b1 :: b2 :: b3 :: b4 :: b5 :: b6 :: b7 :: b) (8 + (i : Nat)) = 0) ↔ b = List.replicate 24 0 := by
    rw [List.eq_replicate_iff]
    constructor
    · refine fun h => ⟨hr, fun x hx => ?_⟩
      obtain ⟨i, hi, rfl⟩ := List.getElem_of_mem hx
      have := h i (by omega)
      rw [g8 i (by omega), gt_nat hi] at this; exact this
    · rintro ⟨_, h⟩ i hi
      rw [g8 i hi, gt_nat (by omega)]; exact h _ (List.getElem_mem _)
  rw [hz, g0, g1, g2, g7]
  have e1 : put2 [2] e = [2, e / 256, e % 256] := by rw [put2, if_pos he]; rfl
  have e2 : put2 [2, e / 256, e % 256] (256 * b3 + b4) = [2, e / 256, e % 256, b3, b4] := by
    rw [put2, if_pos (by omega)]
    have q1 : (256 * b3 + b4) / 256 = b3 := by omega
    have q2 : (256 * b3 + b4) % 256 = b4 := by omega
    rw [q1, q2]; rfl
  have e3 : endCell e (endTx (b0 :: b1 :: b2 :: b3 :: b4 :: b5 :: b6 :: b7 :: b)) b7 = [2, e / 256, e % 256, b3, b4, b5, b6, b7] := by
    simp only [endCell, endTx, g3, g4, g5, g6, e1, e2]
    have q5 : b5 % 256 = b5 := by omega
    have q6 : b6 % 256 = b6 := by omega
    have q7 : b7 % 256 = b7 := by omega
    rw [q5, q6, q7]; rfl
  rw [e3, pad, if_pos (by omega)]
  have e4 : (32 : Int).toNat - ([2, e / 256, e % 256, b3, b4, b5, b6, b7] : List Int).length = 24 := rfl
  rw [e4]
  simp only [List.cons_append, List.nil_append, List.cons.injEq, true_and]
  constructor
  · rintro ⟨h0, h1, h2, h3⟩
    exact ⟨h0.symm, by omega, h3.symm⟩
  · rintro ⟨h0, h1, h3⟩
    exact ⟨h0.symm, by omega, by omega, h3.symm⟩
theorem byte_gt {b : List Int} (hw : ∀ x ∈ b, wfU8 x) {i : Int} (h0 : 0 ≤ i) (h : i < (b.length : Int)) : 0 ≤ gt b i ∧ gt b i ≤ 255 := hw _ (gt_mem h0 h)
theorem spec_getEnd_eq {k : Nat} (hk : Big k) {e : Int} {b : List Int} (hw : ∀ x ∈ b, wfU8 x) (hl : b.length ≤ 2097152) [Decidable (endOk e b)] :
    spec_GetEnd k e b = some (if endOk e b then (endTx b, gt b 7, true) else (⟨0, 0, 0, []⟩, 0, false)) := by
  rw [spec_GetEnd]
  by_cases h : b.length = 32
  · rw [if_neg (by simp; omega), if_pos (by omega), some_bind]
    by_cases h2 : gt b 0 = 2
    · have b5 := byte_gt hw (i := 5) (by omega) (by omega)
      have b6 := byte_gt hw (i := 6) (by omega) (by omega)
      have b7 := byte_gt hw (i := 7) (by omega) (by omega)
      rw [if_neg (by simp [h2]), spec_get2_eq hw hl, some_bind, spec_get2_eq hw hl, some_bind, if_pos (by omega), if_pos (by omega)]
      have hg1 : get2 b 1 = (256 * gt b 1 + gt b 2, true) := by rw [get2, if_neg (by omega)]; rfl
      have hg3 : get2 b 3 = (256 * gt b 3 + gt b 4, true) := by rw [get2, if_neg (by omega)]; rfl
      have h3 := loop_first (b := spec_GetEnd_b0 b) (k := k) (n := 24) (fun i => 8 + (i : Int)) (fun i => !decide (gt b (8 + (i : Int)) = 0)) (fun i => .ret (⟨0, 0, 0, []⟩, 0, false)) (by omega) hk (fun i t h => by cases h)
        (fun i hi => by
          have c1 : decide (8 + (i : Int) < ((List.length b : Nat) : Int)) = true := by simp; omega
          have c2 : (0 : Int) ≤ 8 + (i : Int) ∧ 8 + (i : Int) < ((List.length b : Nat) : Int) := by omega
          have e1 : wrap64 (8 + (i : Int) + 1) = 8 + ((i + 1 : Nat) : Int) := by rw [w64 (by omega) (by omega)]; omega
          simp only [spec_GetEnd_b0, if_pos c1, if_pos c2, e1]
          exact some_ite _ _ _)
        (by simp only [spec_GetEnd_b0]; rw [if_neg (by simp; omega)])
      have h3' : loopM (spec_GetEnd_b0 b) k 8 = _ := h3
      rw [h3', some_bind, hg1, hg3]
      cases hf : firstN (fun i => !decide (gt b (8 + (i : Int)) = 0)) 24 with
      | none =>
        have hz : ∀ i, i < 24 → gt b (8 + (i : Nat)) = 0 := fun i hi => by simpa using firstN_none hf i hi
        have et : (⟨256 * gt b 3 + gt b 4, gt b 5, gt b 6, []⟩ : TTx) = endTx b := rfl
        have e5 : IntKind.i64.wrap (gt b 5) = gt b 5 := by rw [i64w, w64 (by omega) (by omega)]
        have hs : smTx (endTx b) := ⟨by simp [endTx], fun y hy => by simp [endTx] at hy⟩
        have c7 : (0 : Int) ≤ 7 ∧ (7 : Int) < ((List.length b : Nat) : Int) := by omega
        have e7 : IntKind.i64.wrap (gt b 7) = gt b 7 := by rw [i64w, w64 (by omega) (by omega)]
        have e6 : IntKind.i64.wrap (gt b 6) = gt b 6 := by rw [i64w, w64 (by omega) (by omega)]
        simp only [e5, e6, e7, et, spec_txOk_eq hk hs, some_bind, txOk_nil (t := endTx b) rfl, if_pos c7]
        have eq6 : decide (gt b 7 > gt b 6) = !decide (gt b 7 ≤ gt b 6) := by rw [not_dec]; exact decide_eq_decide.2 (by omega)
        rw [eq6]
        by_cases hE : endOk e b
        · rw [if_pos hE]
          obtain ⟨_, _, q1, _, q2, q3⟩ := hE
          simp [q1, q2, q3]
        · rw [if_neg hE]
          have hn : (decide (256 * gt b 1 + gt b 2 = e) && numsOk (endTx b) && decide (gt b 7 ≤ gt b 6)) = false := by
            rw [← Bool.not_eq_true]
            intro hh
            simp only [Bool.and_eq_true, decide_eq_true_eq] at hh
            exact hE ⟨h, h2, hh.1.1, hz, hh.1.2, hh.2⟩
          revert hn
          generalize decide (256 * gt b 1 + gt b 2 = e) = x
          generalize numsOk (endTx b) = y
          generalize decide (gt b 7 ≤ gt b 6) = z
          cases x <;> cases y <;> cases z <;> simp
      | some j =>
        have hj := firstN_some hf
        have hE : ¬ endOk e b := by
          rintro ⟨_, _, _, hz, _⟩
          have := hj.2.1
          simp [hz j hj.1] at this
        rw [if_neg hE]
    · rw [if_pos (by simp [h2]), if_neg]
      rintro ⟨_, h3, _⟩; exact h2 h3
  · rw [if_pos (by simp; omega), some_bind, if_pos rfl, if_neg]
    rintro ⟨h3, _⟩; exact h h3
theorem impl_getEnd_eq {k : Nat} (hk : Big k) {e : Int} {b : List Int} (hw : ∀ x ∈ b, wfU8 x) (hl : b.length ≤ 2097152) [Decidable (endOk e b)] :
    impl_GetEnd k e b = some (if endOk e b then (endTx b, gt b 7, true) else (⟨0, 0, 0, []⟩, 0, false)) := by
  rw [impl_GetEnd]
  by_cases h : b.length = 32
  · rw [if_neg (by simp; omega), impl_in_eq, some_bind, some_bind]
    have w1 := byte_gt hw (i := 1) (by omega) (by omega)
    have w2 := byte_gt hw (i := 2) (by omega) (by omega)
    by_cases he : 0 ≤ e ∧ e ≤ 65535
    · have b5 := byte_gt hw (i := 5) (by omega) (by omega)
      have b6 := byte_gt hw (i := 6) (by omega) (by omega)
      have b7 := byte_gt hw (i := 7) (by omega) (by omega)
      have hg3 : get2 b 3 = (256 * gt b 3 + gt b 4, true) := by rw [get2, if_neg (by omega)]; rfl
      rw [if_neg (by simp [he]), impl_get2_eq hw hl, some_bind, if_pos (by omega), if_pos (by omega), if_pos (by omega), hg3]
      have et : (⟨256 * gt b 3 + gt b 4, gt b 5, gt b 6, []⟩ : TTx) = endTx b := rfl
      have e5 : IntKind.i64.wrap (gt b 5) = gt b 5 := by rw [i64w, w64 (by omega) (by omega)]
      have e7 : IntKind.i64.wrap (gt b 7) = gt b 7 := by rw [i64w, w64 (by omega) (by omega)]
      have e6 : IntKind.i64.wrap (gt b 6) = gt b 6 := by rw [i64w, w64 (by omega) (by omega)]
      have hlen := endCell_len e (endTx b) (gt b 7)
      have hwe : ∀ x ∈ pad (endCell e (endTx b) (gt b 7)) 32, wfU8 x := by
        intro x hx
        have hp : ∀ (l : List Int) (y : Int), (∀ x ∈ l, wfU8 x) → ∀ x ∈ put2 l y, wfU8 x := by
          intro l y hl x hx
          unfold put2 at hx
          split at hx
          · simp only [List.mem_append, List.mem_cons, List.not_mem_nil, or_false] at hx
            rcases hx with h | h | h
            · exact hl x h
            · subst h; constructor <;> omega
            · subst h; constructor <;> omega
          · exact hl x hx
        unfold pad at hx
        rw [if_pos (by omega)] at hx
        rcases List.mem_append.1 hx with h1 | h1
        · unfold endCell at h1
          simp only [List.mem_append, List.mem_cons, List.not_mem_nil, or_false] at h1
          rcases h1 with h | h | h | h
          · refine hp _ _ (hp _ _ ?_) x h
            intro z hz; simp at hz; subst hz; constructor <;> omega
          · subst h; constructor <;> omega
          · subst h; constructor <;> omega
          · subst h; constructor <;> omega
        · rw [List.eq_of_mem_replicate h1]; constructor <;> omega
      simp only [e5, e6, e7, et, impl_numsOk_eq, some_bind, impl_endCell_eq, impl_pad_eq hk (l := endCell e (endTx b) (gt b 7)) (n := 32) (by omega), bytes_Equal, str_eq hwe hw]
      have hc := endCell_eq hw h he
      have eq6 : decide (gt b 7 > gt b 6) = !decide (gt b 7 ≤ gt b 6) := by rw [not_dec]; exact decide_eq_decide.2 (by omega)
      rw [eq6]
      by_cases h8 : pad (endCell e (endTx b) (gt b 7)) 32 = b
      · obtain ⟨q1, q2, q3⟩ := hc.1 h8
        cases h5 : numsOk (endTx b) <;> by_cases h7 : gt b 7 ≤ gt b 6 <;> simp [h5, h7, endOk, h, q1, q2, h8]
        all_goals exact q3
      · have h9 : ¬ endOk e b := fun hh => h8 (hc.2 ⟨hh.2.1, hh.2.2.1, hh.2.2.2.1⟩)
        rw [if_neg h9]
        cases h5 : numsOk (endTx b) <;> by_cases h7 : gt b 7 ≤ gt b 6 <;> simp [h7, h8]
    · rw [if_pos (by simp [he]), if_neg]
      rintro ⟨_, _, h3, _⟩; exact he (by omega)
  · rw [if_pos (by simp; omega), some_bind, if_pos rfl, if_neg]
    rintro ⟨h3, _⟩; exact h h3

theorem getEnd_both {k : Nat} (hk : Big k) {e : Int} {b : List Int} (h : smL 1048576 (smT 1048576) b) (w1 : wfI e) (w2 : wfL wfU8 b) : ∃ g, spec_GetEnd k e b = some g ∧ impl_GetEnd k e b = some g ∧ smTTx 1114112 g.1 := by
  have := Classical.propDecidable (endOk e b)
  have hl : b.length ≤ 2097152 := by have := h.1; omega
  refine ⟨_, spec_getEnd_eq hk w2.2 hl, impl_getEnd_eq hk w2.2 hl, ?_⟩
  have hs : ∀ t : TTx, t.Puts = [] → smTTx 1114112 t := fun t ht => ⟨trivial, trivial, trivial, by rw [ht]; simp, fun y hy => by rw [ht] at hy; simp at hy⟩
  split
  · exact hs _ rfl
  · exact hs _ rfl
theorem laws_FnExactGetEnd_true {p0 : Int} {p1 : (List Int)} (h0 : wfI p0) (h1 : (wfL wfU8) p1) : ∃ k, laws_FnExactGetEnd k p0 p1 = some true := by
  refine ⟨9223372036854775808, ?_⟩
  generalize hK : 9223372036854775808 = k
  have hk : Big k := by rw [Big, hK]; exact Nat.le_refl _
  clear hK
  have hN : (1048576 : Nat) ≤ 1114112 := by omega
  have hM : (1114112 : Nat) ≤ 1114112 := Nat.le_refl _
  rw [laws_FnExactGetEnd]
  by_cases z1 : ((List.length p1 : Nat) : Int) > 1048576
  · simp [z1]
  rw [if_neg (by simpa using z1)]
  have hs1 : (smL 1048576 (smT 1048576)) p1 := ⟨by omega, fun _ _ => trivial⟩
  obtain ⟨g, eS, eI, hg⟩ := getEnd_both hk hs1 h0 h1
  have t1 := to_ByteS hk hN p1 hs1
  have q1 := eq_ByteS hk hN p1 p1 hs1
  have b1_0 := bd_ByteS hN p1 (hs1)
  have k1 := mark_ByteS hk hN p1 hs1 (m := 1) (by omega) (by omega)
  have zp1 : ¬ (1 + (sumL cn_Byte p1 : Int) < 0) := by omega
  have qr0 := eq_Tx hk hM g.1 g.1 (hg)
  have br0_0 := bd_ChangeS hM g.1.Puts ((hg).2.2.2)
  have kr0 := mark_Tx hk hM g.1 (hg) (m := 1) (by omega) (by omega)
  have hr0 := held_Tx hk hM g.1 (hg) (m := 1) (by omega) (by omega)
  have zr0 : ¬ (1 + (sumL cn_Change g.1.Puts : Int) < 0) := by omega
  simp [eS, eI, t1, q1, k1, zp1, qr0, kr0, hr0, zr0, markL_length]

end Go.Proofs.Sx
