/- FnExactReadLog: the plain law. -/
import Derived.Test.YtgfhnepkpbmbcaaCX
import Derived.Test.YtgfhnepkpbmbcaaLP
namespace Go.Proofs.Sx
open Go.RowKit
set_option maxRecDepth 20000
set_option linter.unusedVariables false
set_option linter.unusedSimpArgs false
theorem impl_in_eq (x a b : Int) : impl_in x a b = some (decide (a ≤ x ∧ x ≤ b)) := by simp [impl_in, Bool.decide_and]

theorem spec_in_eq (x a b : Int) : spec_l1In x a b = some (decide (a ≤ x ∧ x ≤ b)) := by simp [spec_l1In, Bool.decide_and, ge_iff_le]


def boxOkP (b : TBox) : Prop := 0 ≤ b.X0 ∧ b.X0 ≤ b.X1 ∧ b.X1 ≤ 255 ∧ 0 ≤ b.Y0 ∧ b.Y0 ≤ b.Y1 ∧ b.Y1 ≤ 255
instance (b : TBox) : Decidable (boxOkP b) := by unfold boxOkP; infer_instance
theorem spec_boxOk_eq (b : TBox) : spec_BoxOk b = some (decide (boxOkP b)) := by
  simp only [spec_BoxOk, spec_in_eq, some_bind, and_if]
  exact some_dec (by unfold boxOkP; omega)
theorem impl_boxOk_eq (b : TBox) : impl_BoxOk b = some (decide (boxOkP b)) := by
  simp only [impl_BoxOk, impl_in_eq, some_bind, and_if]
  exact some_dec (by unfold boxOkP; omega)

def entryAt (l : List TEntry) (n : Int) : Int := match firstN (fun i => decide ((gt l (i : Int)).N = n)) l.length with
  | some i => (i : Int)
  | none => -1
theorem spec_entryAt_eq {k : Nat} (hk : Big k) {l : List TEntry} (hl : l.length ≤ 2097152) (n : Int) : spec_EntryAt k l n = some (entryAt l n) := by
  have h := loop_first (b := spec_EntryAt_b0 l n) (k := k) (n := l.length) (fun i => (i : Int)) (fun i => decide ((gt l (i : Int)).N = n)) (fun i => .ret (i : Int)) (by omega) hk (fun i t h => by cases h)
    (fun i hi => by
      have c1 : decide ((i : Int) < ((List.length l : Nat) : Int)) = true := by simp; omega
      have c2 : (0 : Int) ≤ (i : Int) ∧ (i : Int) < ((List.length l : Nat) : Int) := by omega
      simp only [spec_EntryAt_b0, if_pos c1, if_pos c2, w64s (n := i) (by omega)]
      split <;> rfl)
    (by simp only [spec_EntryAt_b0]; rw [if_neg (by simp)])
  have h' : loopM (spec_EntryAt_b0 l n) k 0 = _ := h
  rw [spec_EntryAt, h', entryAt]
  cases firstN (fun i => decide ((gt l (i : Int)).N = n)) l.length <;> rfl
theorem impl_entryAt_eq {k : Nat} (hk : Big k) {l : List TEntry} (hl : l.length ≤ 2097152) (n : Int) : impl_EntryAt k l n = some (entryAt l n) := by
  have h := loop_first (b := slices_IndexFunc_impl_Entry_impl_Entry_impl_EntryAt_1_b0 l) (k := k) (n := l.length) (fun i => ((i : Int), n)) (fun i => decide ((gt l (i : Int)).N = n)) (fun i => .ret ((i : Int), n)) (by omega) hk (fun i t h => by cases h)
    (fun i hi => by
      have c1 : decide ((i : Int) < ((List.length l : Nat) : Int)) = true := by simp; omega
      have c2 : (0 : Int) ≤ (i : Int) ∧ (i : Int) < ((List.length l : Nat) : Int) := by omega
      simp only [slices_IndexFunc_impl_Entry_impl_Entry_impl_EntryAt_1_b0, impl_EntryAt_1, some_bind, if_pos c1, if_pos c2, w64s (n := i) (by omega)]
      split <;> rfl)
    (by simp only [slices_IndexFunc_impl_Entry_impl_Entry_impl_EntryAt_1_b0]; rw [if_neg (by simp)])
  have h' : loopM (slices_IndexFunc_impl_Entry_impl_Entry_impl_EntryAt_1_b0 l) k (0, n) = _ := h
  rw [impl_EntryAt, slices_IndexFunc_impl_Entry_impl_Entry_impl_EntryAt_1, h', entryAt]
  cases firstN (fun i => decide ((gt l (i : Int)).N = n)) l.length <;> rfl

def badEntry (p : TNode) (i : Nat) : Prop := ¬ boxOkP (gt p.L (i : Int)).R ∨ entryAt p.L (gt p.L (i : Int)).N ≠ (i : Int) ∨ (p.Leaf = true ∧ ¬ (1 ≤ (gt p.L (i : Int)).N ∧ (gt p.L (i : Int)).N ≤ 999)) ∨ (p.Leaf = false ∧ ¬ (0 ≤ (gt p.L (i : Int)).N ∧ (gt p.L (i : Int)).N ≤ 47))
instance (p : TNode) (i : Nat) : Decidable (badEntry p i) := by unfold badEntry; infer_instance
def nodeOk (p : TNode) : Bool := (firstN (fun i => decide (badEntry p i)) p.L.length).isNone && decide (p.L.length ≤ 4) && (p.Leaf || decide (p.L.length > 0))
theorem spec_nodeOk_eq {k : Nat} (hk : Big k) {p : TNode} (hl : p.L.length ≤ 2097152) : spec_NodeOk k p = some (nodeOk p) := by
  have h := loop_first (b := spec_NodeOk_b0 k p) (k := k) (n := p.L.length) (fun i => (i : Int)) (fun i => decide (badEntry p i)) (fun i => .ret false) (by omega) hk (fun i t h => by cases h)
    (fun i hi => by
      have c1 : decide ((i : Int) < ((List.length p.L : Nat) : Int)) = true := by simp; omega
      have c2 : (0 : Int) ≤ (i : Int) ∧ (i : Int) < ((List.length p.L : Nat) : Int) := by omega
      simp only [spec_NodeOk_b0, if_pos c1, if_pos c2, w64s (n := i) (by omega), spec_boxOk_eq, spec_entryAt_eq hk hl, spec_in_eq, some_bind]
      by_cases hA : boxOkP (gt p.L (i : Int)).R <;> by_cases hB : entryAt p.L (gt p.L (i : Int)).N = (i : Int) <;> cases hL : p.Leaf <;>
        by_cases hC : 1 ≤ (gt p.L (i : Int)).N ∧ (gt p.L (i : Int)).N ≤ 999 <;> by_cases hD : 0 ≤ (gt p.L (i : Int)).N ∧ (gt p.L (i : Int)).N ≤ 47 <;> simp [badEntry, hA, hB, hC, hD, hL])
    (by simp only [spec_NodeOk_b0]; rw [if_neg (by simp)])
  have h' : loopM (spec_NodeOk_b0 k p) k 0 = _ := h
  rw [spec_NodeOk, h', nodeOk]
  cases firstN (fun i => decide (badEntry p i)) p.L.length
  · have e1 : decide (((List.length p.L : Nat) : Int) ≤ 4) = decide (p.L.length ≤ 4) := decide_eq_decide.2 (by omega)
    have e2 : decide (((List.length p.L : Nat) : Int) > 0) = decide (p.L.length > 0) := decide_eq_decide.2 (by omega)
    simp only [some_bind, e1, e2, Option.isNone_none, Bool.true_and]
  · rfl
theorem impl_nodeOk_eq {k : Nat} (hk : Big k) {p : TNode} (hl : p.L.length ≤ 2097152) : impl_NodeOk k p = some (nodeOk p) := by
  have h := loop_first (b := impl_NodeOk_b0 k p) (k := k) (n := p.L.length) (fun i => (i : Int)) (fun i => decide (badEntry p i)) (fun i => .ret false) (by omega) hk (fun i t h => by cases h)
    (fun i hi => by
      have c1 : decide ((i : Int) < ((List.length p.L : Nat) : Int)) = true := by simp; omega
      have c2 : (0 : Int) ≤ (i : Int) ∧ (i : Int) < ((List.length p.L : Nat) : Int) := by omega
      simp only [impl_NodeOk_b0, if_pos c1, if_pos c2, w64s (n := i) (by omega), impl_boxOk_eq, impl_entryAt_eq hk hl, impl_in_eq, some_bind]
      by_cases hA : boxOkP (gt p.L (i : Int)).R <;> by_cases hB : entryAt p.L (gt p.L (i : Int)).N = (i : Int) <;> cases hL : p.Leaf <;>
        by_cases hC : 1 ≤ (gt p.L (i : Int)).N ∧ (gt p.L (i : Int)).N ≤ 999 <;> by_cases hD : 0 ≤ (gt p.L (i : Int)).N ∧ (gt p.L (i : Int)).N ≤ 47 <;> simp [badEntry, hA, hB, hC, hD, hL])
    (by simp only [impl_NodeOk_b0]; rw [if_neg (by simp)])
  have h' : loopM (impl_NodeOk_b0 k p) k 0 = _ := h
  rw [impl_NodeOk, h', nodeOk]
  by_cases h4 : p.L.length ≤ 4
  · have e4 : decide (((List.length p.L : Nat) : Int) > 4) = false := decide_eq_false (by omega)
    by_cases h0 : p.L.length > 0
    · have e0 : decide (((List.length p.L : Nat) : Int) = 0) = false := decide_eq_false (by omega)
      rw [e4, e0, Bool.and_false, if_neg (by decide)]
      cases firstN (fun i => decide (badEntry p i)) p.L.length <;> simp [h4, h0]
    · have e0 : decide (((List.length p.L : Nat) : Int) = 0) = true := decide_eq_true (by omega)
      cases hL : p.Leaf
      · rw [e4, e0, if_pos (by decide)]; simp [h0]
      · rw [e4, e0, if_neg (by decide)]
        cases firstN (fun i => decide (badEntry p i)) p.L.length <;> simp [h4]
  · have e4 : decide (((List.length p.L : Nat) : Int) > 4) = true := decide_eq_true (by omega)
    rw [e4, Bool.true_or, if_pos (by decide)]
    simp [h4]
theorem nodeOk_facts {p : TNode} (h : nodeOk p = true) : p.L.length ≤ 4 ∧ (∀ i, i < p.L.length → ¬ badEntry p i) ∧ (p.Leaf = false → 0 < p.L.length) := by
  unfold nodeOk at h
  simp only [Bool.and_eq_true, decide_eq_true_eq, Bool.or_eq_true, Option.isNone_iff_eq_none] at h
  obtain ⟨⟨h1, h2⟩, h3⟩ := h
  exact ⟨h2, fun i hi => by simpa using firstN_none h1 i hi, fun hL => by rcases h3 with h | h; rw [hL] at h; cases h; exact h⟩

def put2 (l : List Int) (x : Int) : List Int := if 0 ≤ x ∧ x ≤ 65535 then l ++ [x / 256, x % 256] else l
theorem put2_len (l : List Int) (x : Int) : (put2 l x).length ≤ l.length + 2 := by
  unfold put2; split <;> simp
theorem spec_put2_eq {l : List Int} {x : Int} (h : okLen (l.length + 2) = true) : spec_Put2 l x = some (put2 l x) := by
  have h1 : okLen l.length = true := okLen_le h (by omega)
  simp only [spec_Put2, spec_in_eq, some_bind, List.nil_append, List.length_nil, Nat.zero_add, h1, if_true, List.length_cons, h, put2]
  by_cases hx : 0 ≤ x ∧ x ≤ 65535
  · have e1 : Int.tdiv x 256 = x / 256 := tdiv_pos hx.1
    have e2 : Int.tmod x 256 = x % 256 := tmod_pos hx.1
    simp only [hx, decide_true, Bool.not_true, Bool.false_eq_true, if_false, if_true, and_self, e1, e2, u8w]
    rw [w64 (by omega) (by omega)]
    have e3 : x / 256 % 256 = x / 256 := by omega
    have e4 : x % 256 % 256 = x % 256 := by omega
    rw [e3, e4]
  · simp [hx]
theorem impl_put2_eq {l : List Int} {x : Int} (h : okLen (l.length + 2) = true) : impl_Put2 l x = some (put2 l x) := by
  have h1 : okLen l.length = true := okLen_le h (by omega)
  simp only [impl_Put2, slices_Clone_byte_byte, impl_in_eq, some_bind, h1, if_true, List.length_cons, List.length_nil, Nat.zero_add, h, put2]
  by_cases hx : 0 ≤ x ∧ x ≤ 65535
  · simp only [hx, decide_true, Bool.not_true, Bool.false_eq_true, if_false, if_true, and_self, u8w, sh8]
    rw [fdiv_pos (by omega)]
    have e3 : x / 256 % 256 = x / 256 := by omega
    rw [e3]
  · simp [hx]

def pad (l : List Int) (n : Int) : List Int := if n ≤ 64 then l ++ List.replicate (n.toNat - l.length) 0 else l
theorem pad_len {l : List Int} {n : Int} (h0 : (l.length : Int) ≤ n) (h : n ≤ 64) : (pad l n).length = n.toNat := by
  unfold pad; rw [if_pos h]; simp; omega
theorem pad_trace {ρ : Type} {b : List Int → Option (Nx (List Int) ρ)} {l : List Int} {n : Int} {k : Nat} (hk : Big k) (hn : n ≤ 64)
    (hb : ∀ m : List Int, (m.length : Int) < n → b m = some (.next (m ++ [0]))) (he : ∀ m : List Int, ¬ (m.length : Int) < n → b m = some (.out m)) :
    loopM b k l = some (.out (l ++ List.replicate (n.toNat - l.length) 0)) := by
  have key := loopM_run0 (b := b) (k := k) (fun j => l ++ List.replicate j (0 : Int)) (n.toNat - l.length) (r := .out (l ++ List.replicate (n.toNat - l.length) 0)) (fun t h => by cases h) ?_ ?_ (by have : 9223372036854775808 ≤ k := hk; omega)
  · simpa using key
  · intro j hj
    rw [hb _ (by simp; omega), List.replicate_succ', List.append_assoc]
  · exact he _ (by simp; omega)
theorem spec_pad_eq {k : Nat} (hk : Big k) {l : List Int} {n : Int} (hl : l.length ≤ 2097152) : spec_Pad k l n = some (pad l n) := by
  unfold spec_Pad pad
  rw [if_pos (okLen_iff.2 (by simp; omega)), List.nil_append]
  by_cases hn : n ≤ 64
  · rw [pad_trace hk hn]
    · simp [hn]
    · intro m hm
      simp only [spec_Pad_b0]
      rw [if_pos (by simp [hm, hn]), if_pos (okLen_iff.2 (by simp; omega))]
    · intro m hm
      simp only [spec_Pad_b0]
      rw [if_neg (by simp [hm])]
  · have : loopM (spec_Pad_b0 n) k l = some (.out l) :=
      loopM_run0 (b := spec_Pad_b0 n) (fun _ => l) 0 (fun t h => by cases h) (fun j hj => by omega) (by simp only [spec_Pad_b0]; rw [if_neg (by simp [hn])]) (by have : 9223372036854775808 ≤ k := hk; omega)
    rw [this]; simp [hn]
theorem impl_pad_eq {k : Nat} (hk : Big k) {l : List Int} {n : Int} (hl : l.length ≤ 2097152) : impl_Pad k l n = some (pad l n) := by
  unfold impl_Pad pad
  simp only [slices_Clone_byte_byte]
  rw [if_pos (okLen_iff.2 (by omega)), some_bind]
  by_cases hn : n ≤ 64
  · rw [if_neg (by simp; omega), pad_trace hk hn]
    · simp [hn]
    · intro m hm
      simp only [impl_Pad_b0]
      rw [if_pos (by simp [hm]), if_pos (okLen_iff.2 (by simp; omega))]
    · intro m hm
      simp only [impl_Pad_b0]
      rw [if_neg (by simp [hm])]
  · rw [if_pos (by simp; omega)]; simp [hn]

def putEntry (e : TEntry) : List Int := if (0 ≤ e.N ∧ e.N ≤ 65535) ∧ boxOkP e.R then put2 [] e.N ++ [e.R.X0 % 256, e.R.Y0 % 256, e.R.X1 % 256, e.R.Y1 % 256] else []
theorem putEntry_len (e : TEntry) : (putEntry e).length ≤ 6 := by
  unfold putEntry
  split
  · have h := put2_len [] e.N
    simp only [List.length_append, List.length_cons, List.length_nil] at *
    omega
  · simp
theorem spec_putEntry_eq (e : TEntry) : spec_PutEntry e = some (putEntry e) := by
  have h2 := put2_len [] e.N
  simp only [List.length_nil] at h2
  have k1 : okLen (([] : List Int).length + 2) = true := rfl
  have k2 : okLen ((put2 [] e.N).length + 4) = true := okLen_iff.2 (by omega)
  simp only [spec_PutEntry, spec_in_eq, spec_boxOk_eq, some_bind, spec_put2_eq (x := e.N) k1, putEntry, u8w, List.length_cons, List.length_nil, Nat.zero_add, Nat.reduceAdd, k2, if_true]
  by_cases hA : 0 ≤ e.N ∧ e.N ≤ 65535 <;> by_cases hB : boxOkP e.R <;> simp [hA, hB]
theorem impl_putEntry_eq (e : TEntry) : impl_PutEntry e = some (putEntry e) := by
  have h2 := put2_len [] e.N
  simp only [List.length_nil] at h2
  have k1 : okLen (([] : List Int).length + 2) = true := rfl
  have k2 : okLen ((put2 [] e.N).length + 4) = true := okLen_iff.2 (by omega)
  simp only [impl_PutEntry, impl_in_eq, impl_boxOk_eq, some_bind, impl_put2_eq (x := e.N) k1, putEntry, u8w, List.length_cons, List.length_nil, Nat.zero_add, Nat.reduceAdd, k2, if_true]
  by_cases hA : 0 ≤ e.N ∧ e.N ≤ 65535 <;> by_cases hB : boxOkP e.R <;> simp [hA, hB]
def putNode (p : TNode) : List Int := if nodeOk p = true then pad ([if p.Leaf = true then ((p.L.length : Int) + 16) % 256 else (p.L.length : Int) % 256] ++ p.L.flatMap putEntry) 25 else []
theorem putNode_in {p : TNode} (h : nodeOk p = true) (x : Int) : ([x] ++ p.L.flatMap putEntry).length ≤ 25 := by
  have h1 := (nodeOk_facts h).1
  have h2 := fm_len (f := putEntry) (p := p.L) (B := 6) fun y _ => putEntry_len y
  simp only [List.length_append, List.length_cons, List.length_nil]; omega
theorem putNode_len (p : TNode) : (putNode p).length ≤ 25 := by
  unfold putNode
  split
  · rename_i h
    rw [pad_len (by have := putNode_in h (if p.Leaf = true then ((p.L.length : Int) + 16) % 256 else (p.L.length : Int) % 256); omega) (by omega)]; decide
  · simp
theorem putNode_trace {k : Nat} (hk : Big k) {p : TNode} (h : nodeOk p = true) {pe : TEntry → Option (List Int)} (hpe : ∀ e, pe e = some (putEntry e)) {b : (List Int × Int) → Option (Nx (List Int × Int) (List Int))} (x : Int)
    (hb : ∀ l i, b (l, i) = (if (decide (i < ((List.length p.L : Nat) : Int))) = true then (if (0 : Int) ≤ i ∧ i < ((List.length p.L : Nat) : Int) then ((pe (gt p.L i)).bind fun t => (if okLen (List.length l + List.length t) = true then some (.next ((l ++ t), (wrap64 (i + 1)))) else none)) else none) else some (.out (l, i)))) :
    loopM b k ([x], 0) = some (.out ([x] ++ p.L.flatMap putEntry, (p.L.length : Int))) := by
  have h4 := (nodeOk_facts h).1
  refine loop_app (f := putEntry) (p := p.L) (B := 6) (by omega) hk (fun y _ => putEntry_len y) ?_ ?_
  · intro i hi l hl
    have hp := putEntry_len p.L[i]
    simp only [List.length_cons, List.length_nil] at hl
    rw [hb, if_pos (by simp; omega), if_pos (by omega), hpe, some_bind, gt_nat hi, if_pos (okLen_iff.2 (by omega)), w64s (by omega)]
  · intro l
    rw [hb, if_neg (by simp)]
theorem spec_putNode_eq {k : Nat} (hk : Big k) {p : TNode} (hl : p.L.length ≤ 2097152) : spec_PutNode k p = some (putNode p) := by
  rw [spec_PutNode, spec_nodeOk_eq hk hl, some_bind, putNode]
  by_cases h : nodeOk p = true
  · have hin := putNode_in h
    rw [if_neg (by simp [h]), if_pos h]
    by_cases hL : p.Leaf = true
    · rw [if_pos hL, if_pos hL, putNode_trace hk h spec_putEntry_eq _ (fun l i => rfl)]
      simp only [some_bind]
      rw [spec_pad_eq hk (by have := hin (IntKind.u8.wrap (wrap64 (((List.length p.L : Nat) : Int) + 16))); omega), some_bind, u8w, w64 (by omega) (by omega)]
    · rw [if_neg hL, if_neg hL, putNode_trace hk h spec_putEntry_eq _ (fun l i => rfl)]
      simp only [some_bind]
      rw [spec_pad_eq hk (by have := hin (IntKind.u8.wrap (((List.length p.L : Nat) : Int))); omega), some_bind, u8w]
  · rw [if_pos (by simpa using h), if_neg h]
theorem impl_putNode_eq {k : Nat} (hk : Big k) {p : TNode} (hl : p.L.length ≤ 2097152) : impl_PutNode k p = some (putNode p) := by
  rw [impl_PutNode, impl_nodeOk_eq hk hl, some_bind, putNode]
  by_cases h : nodeOk p = true
  · have hin := putNode_in h
    rw [if_neg (by simp [h]), if_pos h]
    by_cases hL : p.Leaf = true
    · rw [if_pos hL, if_pos hL, putNode_trace hk h impl_putEntry_eq _ (fun l i => rfl)]
      simp only [some_bind]
      rw [impl_pad_eq hk (by have := hin (IntKind.u8.wrap (wrap64 (((List.length p.L : Nat) : Int) + 16))); omega), some_bind, u8w, w64 (by omega) (by omega)]
    · rw [if_neg hL, if_neg hL, putNode_trace hk h impl_putEntry_eq _ (fun l i => rfl)]
      simp only [some_bind]
      rw [impl_pad_eq hk (by have := hin (IntKind.u8.wrap (((List.length p.L : Nat) : Int))); omega), some_bind, u8w]
  · rw [if_pos (by simpa using h), if_neg h]

def putCell (e : Int) (x : TChange) : List Int := if (0 ≤ e ∧ e ≤ 65535) ∧ (0 ≤ x.Page ∧ x.Page ≤ 47) ∧ nodeOk x.N = true then (put2 [1] e ++ [x.Page % 256]) ++ putNode x.N else []
theorem putCell_len (e : Int) (x : TChange) : (putCell e x).length ≤ 29 := by
  have h1 := put2_len [1] e
  have h2 := putNode_len x.N
  unfold putCell
  split
  · simp only [List.length_append, List.length_cons, List.length_nil] at *; omega
  · simp
theorem spec_putCell_eq {k : Nat} (hk : Big k) {e : Int} {x : TChange} (hl : x.N.L.length ≤ 2097152) : spec_PutCell k e x = some (putCell e x) := by
  have h1 := put2_len [1] e
  have h2 := putNode_len x.N
  simp only [List.length_cons, List.length_nil] at h1
  rw [spec_PutCell]
  simp only [spec_in_eq, some_bind, spec_nodeOk_eq hk hl, spec_put2_eq (x := e) (l := [1]) rfl, spec_putNode_eq hk hl, u8w, putCell]
  rw [if_pos (c := okLen _ = true) (okLen_iff.2 (by simp; omega)), if_pos (c := okLen _ = true) (okLen_iff.2 (by simp; omega))]
  by_cases hA : 0 ≤ e ∧ e ≤ 65535 <;> by_cases hB : 0 ≤ x.Page ∧ x.Page ≤ 47 <;> cases hC : nodeOk x.N <;> simp [hA, hB]
theorem impl_putCell_eq {k : Nat} (hk : Big k) {e : Int} {x : TChange} (hl : x.N.L.length ≤ 2097152) : impl_PutCell k e x = some (putCell e x) := by
  have h1 := put2_len [1] e
  have h2 := putNode_len x.N
  simp only [List.length_cons, List.length_nil] at h1
  rw [impl_PutCell]
  simp only [impl_in_eq, some_bind, impl_nodeOk_eq hk hl, impl_put2_eq (x := e) (l := [1]) rfl, impl_putNode_eq hk hl, u8w, putCell]
  rw [if_pos (c := okLen _ = true) (okLen_iff.2 (by simp; omega)), if_pos (c := okLen _ = true) (okLen_iff.2 (by simp; omega))]
  by_cases hA : 0 ≤ e ∧ e ≤ 65535 <;> by_cases hB : 0 ≤ x.Page ∧ x.Page ≤ 47 <;> cases hC : nodeOk x.N <;> simp [hA, hB]

theorem put2_wf {l : List Int} {y : Int} (hl : ∀ x ∈ l, wfU8 x) : ∀ x ∈ put2 l y, wfU8 x := by
  intro x hx
  unfold put2 at hx
  split at hx
  · simp only [List.mem_append, List.mem_cons, List.not_mem_nil, or_false] at hx
    rcases hx with h | h | h
    · exact hl x h
    · subst h; constructor <;> omega
    · subst h; constructor <;> omega
  · exact hl x hx
theorem pad_wf {l : List Int} {n : Int} (h : ∀ x ∈ l, wfU8 x) : ∀ x ∈ pad l n, wfU8 x := by
  intro x hx
  unfold pad at hx
  split at hx
  · rcases List.mem_append.1 hx with h1 | h1
    · exact h x h1
    · rw [List.eq_of_mem_replicate h1]; constructor <;> omega
  · exact h x hx
theorem m256_wf (x : Int) : wfU8 (x % 256) := by constructor <;> omega
theorem putEntry_wf (e : TEntry) : ∀ x ∈ putEntry e, wfU8 x := by
  intro x hx
  unfold putEntry at hx
  split at hx
  · rcases List.mem_append.1 hx with h | h
    · exact put2_wf (by simp) x h
    · simp only [List.mem_cons, List.not_mem_nil, or_false] at h
      rcases h with h | h | h | h <;> (subst h; exact m256_wf _)
  · simp at hx
theorem putNode_wf (p : TNode) : ∀ x ∈ putNode p, wfU8 x := by
  intro x hx
  unfold putNode at hx
  split at hx
  · refine pad_wf (fun z hz => ?_) x hx
    rcases List.mem_append.1 hz with h | h
    · simp only [List.mem_cons, List.not_mem_nil, or_false] at h
      subst h; split <;> exact m256_wf _
    · obtain ⟨e, _, he⟩ := List.mem_flatMap.1 h
      exact putEntry_wf e z he
  · simp at hx
theorem putCell_wf (e : Int) (p : TChange) : ∀ x ∈ putCell e p, wfU8 x := by
  intro x hx
  unfold putCell at hx
  split at hx
  · rcases List.mem_append.1 hx with h | h
    · rcases List.mem_append.1 h with h | h
      · exact put2_wf (fun z hz => by simp at hz; subst hz; constructor <;> omega) x h
      · simp only [List.mem_cons, List.not_mem_nil, or_false] at h
        subst h; exact m256_wf _
    · exact putNode_wf _ x h
  · simp at hx
theorem putNode_first {p : TNode} (h : nodeOk p = true) : gt (putNode p) 0 = (if p.Leaf = true then ((p.L.length : Int) + 16) % 256 else (p.L.length : Int) % 256) := by
  rw [putNode, if_pos h, pad, if_pos (by omega)]; rfl
theorem putNode_nil {p : TNode} (h : ¬ nodeOk p = true) : putNode p = [] := by rw [putNode, if_neg h]
theorem putNode_ok_len {p : TNode} (h : nodeOk p = true) : (putNode p).length = 25 := by
  rw [putNode, if_pos h, pad_len (by have := putNode_in h (if p.Leaf = true then ((p.L.length : Int) + 16) % 256 else (p.L.length : Int) % 256); omega) (by omega)]; rfl

theorem gt_mem {α : Type} [Inhabited α] {l : List α} {i : Int} (h0 : 0 ≤ i) (h : i < (l.length : Int)) : gt l i ∈ l := by
  obtain ⟨hi, e⟩ := gt_eq h0 h
  rw [e]; exact List.getElem_mem hi
theorem or_bytes {a b : Int} (ha : 0 ≤ a) (ha2 : a ≤ 255) (hb : 0 ≤ b) (hb2 : b ≤ 255) : bits2 (· ||| ·) (wrap64 (a * 256)) b = 256 * a + b := by
  obtain ⟨x, rfl⟩ := Int.eq_ofNat_of_zero_le ha
  obtain ⟨y, rfl⟩ := Int.eq_ofNat_of_zero_le hb
  rw [w64 (by omega) (by omega)]
  unfold bits2
  have e1 : ((x : Int) * 256) = ((2 ^ 8 * x : Nat) : Int) := by omega
  rw [e1, BitVec.ofInt_natCast, BitVec.ofInt_natCast, BitVec.toNat_or, BitVec.toNat_ofNat, BitVec.toNat_ofNat, Nat.mod_eq_of_lt (by omega), Nat.mod_eq_of_lt (by omega), ← Nat.two_pow_add_eq_or_of_lt (by omega), w64 (by omega) (by omega)]
  omega
def get2 (l : List Int) (i : Int) : Int × Bool := if i < 0 ∨ i > (l.length : Int) - 2 then (0, false) else (256 * gt l i + gt l (i + 1), true)
theorem get2_facts {l : List Int} {i : Int} (hw : ∀ x ∈ l, wfU8 x) (hl : l.length ≤ 2097152) (h : ¬ (i < 0 ∨ i > (l.length : Int) - 2)) :
    wfU8 (gt l i) ∧ wfU8 (gt l (i + 1)) ∧ wrap64 (i + 1) = i + 1 ∧ (0 ≤ i ∧ i < (l.length : Int)) ∧ (0 ≤ i + 1 ∧ i + 1 < (l.length : Int)) := by
  refine ⟨hw _ (gt_mem (by omega) (by omega)), hw _ (gt_mem (by omega) (by omega)), w64 (by omega) (by omega), by omega, by omega⟩
theorem spec_get2_eq {l : List Int} {i : Int} (hw : ∀ x ∈ l, wfU8 x) (hl : l.length ≤ 2097152) : spec_Get2 l i = some (get2 l i) := by
  unfold spec_Get2 get2
  rw [w64 (n := (l.length : Int) - 2) (by omega) (by omega)]
  by_cases h : i < 0 ∨ i > (l.length : Int) - 2
  · simp [h]
  · obtain ⟨⟨a1, a2⟩, ⟨b1, b2⟩, e, h1, h2⟩ := get2_facts hw hl h
    rw [if_neg (by simpa using h), e, if_pos h1, if_pos h2, if_neg h]
    rw [i64w, i64w, w64 (n := gt l i) (by omega) (by omega), w64 (n := gt l (i + 1)) (by omega) (by omega), w64 (n := 256 * gt l i) (by omega) (by omega), w64 (by omega) (by omega)]
theorem impl_get2_eq {l : List Int} {i : Int} (hw : ∀ x ∈ l, wfU8 x) (hl : l.length ≤ 2097152) : impl_Get2 l i = some (get2 l i) := by
  unfold impl_Get2 get2
  rw [w64 (n := (l.length : Int) - 2) (by omega) (by omega)]
  by_cases h : i < 0 ∨ i > (l.length : Int) - 2
  · simp [h]
  · obtain ⟨⟨a1, a2⟩, ⟨b1, b2⟩, e, h1, h2⟩ := get2_facts hw hl h
    rw [if_neg (by simpa using h), e, if_pos h1, if_pos h2, if_neg h]
    rw [i64w, i64w, w64 (n := gt l i) (by omega) (by omega), w64 (n := gt l (i + 1)) (by omega) (by omega), sh8, or_bytes a1 a2 b1 b2]

theorem same_eq {k : Nat} (hk : Big k) {N : Nat} (hN : N ≤ 1114112) (p q : (List Int)) (h : (smL N (smT N)) p) : spec_l6Same k p q = some (decide (p = q)) := by
  rw [spec_l6Same]
  have hl := h.1
  by_cases he : p.length = q.length
  · rw [if_neg (by simp [he])]
    rw [loop_all (c := fun i => decide (p[i]? = q[i]?)) (n := p.length) (r := false) (by omega) hk]
    · by_cases hpq : p = q
      · subst hpq; simp
      · rw [if_neg, decide_eq_false hpq]
        · rfl
        · intro hh
          exact hpq (List.ext_getElem? fun i => by
            by_cases hi : i < p.length
            · simpa using hh i hi
            · rw [List.getElem?_eq_none (by omega), List.getElem?_eq_none (by omega)])
    · intro i hi
      have c1 : decide ((i : Int) < ((List.length p : Nat) : Int)) = true := by simp; omega
      have c2 : (0 : Int) ≤ (i : Int) ∧ (i : Int) < ((List.length p : Nat) : Int) := by omega
      have c3 : (0 : Int) ≤ (i : Int) ∧ (i : Int) < ((List.length q : Nat) : Int) := by omega
      have hq : i < q.length := by omega
      simp only [spec_l6Same_b0, if_pos c1, if_pos c2, if_pos c3, gt_nat hi, gt_nat hq, w64s (n := i) (by omega), List.getElem?_eq_getElem hi, List.getElem?_eq_getElem hq, Option.some.injEq]
      by_cases hv : p[i] = q[i] <;> simp [hv]
    · have c1 : ¬ decide (((List.length p : Nat) : Int) < ((List.length p : Nat) : Int)) = true := by simp
      simp only [spec_l6Same_b0, if_neg c1]
  · rw [if_pos (by simp; omega), decide_eq_false]
    rintro rfl; exact he rfl

theorem getEntry_both {b : List Int} (hw : ∀ x ∈ b, wfU8 x) (hl : b.length ≤ 2097152) (i : Int) : ∃ r, spec_GetEntry b i = some r ∧ impl_GetEntry b i = some r := by
  rw [spec_GetEntry, impl_GetEntry, spec_get2_eq hw hl, impl_get2_eq hw hl]
  simp only [some_bind, spec_boxOk_eq, impl_boxOk_eq]
  rw [w64 (n := ((List.length b : Nat) : Int) - 6) (by omega) (by omega)]
  by_cases h : i < 0 ∨ i > ((List.length b : Nat) : Int) - 6
  · rw [if_pos (by simpa using h)]; exact ⟨_, rfl, rfl⟩
  · rw [if_neg (by simpa using h), w64 (n := i + 2) (by omega) (by omega), w64 (n := i + 3) (by omega) (by omega), w64 (n := i + 4) (by omega) (by omega), w64 (n := i + 5) (by omega) (by omega)]
    rw [if_pos (by omega), if_pos (by omega), if_pos (by omega), if_pos (by omega)]
    split <;> exact ⟨_, rfl, rfl⟩
def badNode : TNode × Bool := (⟨false, []⟩, false)
theorem getNode_both {k : Nat} (hk : Big k) {b : List Int} (hw : ∀ x ∈ b, wfU8 x) (hl : b.length ≤ 2097152) : ∃ r, spec_GetNode k b = some r ∧ impl_GetNode k b = some r ∧ r.1.L.length ≤ 4 ∧ (r.2 = true → nodeOk r.1 = true ∧ putNode r.1 = b) := by
  rw [spec_GetNode, impl_GetNode]
  by_cases h25 : b.length = 25
  · have hb0 := hw _ (gt_mem (l := b) (i := 0) (by omega) (by omega))
    obtain ⟨q1, q2⟩ := hb0
    have e1 : Int.tmod (IntKind.i64.wrap (gt b 0)) 16 = gt b 0 % 16 := by rw [i64w, w64 (by omega) (by omega), tmod_pos q1]
    have e2 : IntKind.i64.wrap (Int.tmod (gt b 0) 16) = gt b 0 % 16 := by rw [tmod_pos q1, i64w, w64 (by omega) (by omega)]
    have c25 : (!decide (((List.length b : Nat) : Int) = 25)) = false := by simp; omega
    have c0 : (0 : Int) ≤ 0 ∧ (0 : Int) < ((List.length b : Nat) : Int) := by omega
    simp only [c25, Bool.false_eq_true, if_false, if_pos c0]
    -- what stands behind the loops
    have tail : ∀ l : List TEntry, l.length ≤ 4 → ∃ r, ((spec_PutNode k (⟨(decide ((gt b 0) ≥ 16)), l⟩ : TNode)).bind fun t41 => ((spec_l6Same k t41 b).bind fun t45 => (if (!t45) = true then some ((⟨false, ([] : (List TEntry))⟩ : TNode), false) else some ((⟨(decide ((gt b 0) ≥ 16)), l⟩ : TNode), true)))) = some r ∧
        ((impl_NodeOk k (⟨(decide ((gt b 0) ≥ 16)), l⟩ : TNode)).bind fun t38 => (((if (!t38) = true then some true else ((impl_PutNode k (⟨(decide ((gt b 0) ≥ 16)), l⟩ : TNode)).bind fun t41 => ((bytes_Equal t41 b).bind fun t45 => some (!t45))))).bind fun c47 => (if c47 = true then some ((⟨false, ([] : (List TEntry))⟩ : TNode), false) else some ((⟨(decide ((gt b 0) ≥ 16)), l⟩ : TNode), true)))) = some r ∧
        r = (if putNode ⟨(decide ((gt b 0) ≥ 16)), l⟩ = b then ((⟨(decide ((gt b 0) ≥ 16)), l⟩ : TNode), true) else badNode) ∧ r.1.L.length ≤ 4 ∧ (r.2 = true → nodeOk r.1 = true ∧ putNode r.1 = b) := by
      intro l hl4
      generalize hn : (⟨(decide ((gt b 0) ≥ 16)), l⟩ : TNode) = n
      have hnl : n.L.length ≤ 4 := by rw [← hn]; exact hl4
      have hpl := putNode_len n
      rw [spec_putNode_eq hk (by omega), impl_nodeOk_eq hk (by omega), impl_putNode_eq hk (by omega)]
      simp only [some_bind, same_eq hk (N := 1114112) (Nat.le_refl _) (putNode n) b ⟨by omega, fun _ _ => trivial⟩, bytes_Equal, str_eq (putNode_wf n) hw]
      by_cases hok : nodeOk n = true
      · by_cases he : putNode n = b
        · exact ⟨(n, true), by simp [he], by simp [hok, he], by rw [if_pos he], hnl, fun _ => ⟨hok, he⟩⟩
        · exact ⟨badNode, by simp [he, badNode], by simp [hok, he, badNode], by rw [if_neg he], by simp [badNode], fun hh => by simp [badNode] at hh⟩
      · have he : ¬ putNode n = b := fun he => by rw [putNode_nil hok] at he; rw [← he] at h25; simp at h25
        exact ⟨badNode, by simp [he, badNode], by simp [hok, badNode], by rw [if_neg he], by simp [badNode], fun hh => by simp [badNode] at hh⟩
    by_cases hk4 : gt b 0 % 16 ≤ 4
    · obtain ⟨o, f1, f2, hQ⟩ := loopM_both (b := spec_GetNode_b0 b) (c := impl_GetNode_b0 b) (fun s => 0 ≤ s.1 ∧ s.1 ≤ gt b 0 % 16 ∧ (s.2.length : Int) = s.1) (fun s => (4 - s.1).toNat) (fun o => o = .ret badNode ∨ ∃ i l, o = .out (i, l) ∧ l.length ≤ 4) (fun s hs => by
        obtain ⟨i, l⟩ := s
        simp only at hs
        have e3 : (if 4 < gt b 0 % 16 then 4 else gt b 0 % 16) = gt b 0 % 16 := by rw [if_neg (by omega)]
        simp only [spec_GetNode_b0, impl_GetNode_b0, e1, e2, e3]
        by_cases hi : i < gt b 0 % 16
        · rw [if_pos (by simp; omega), if_pos (by simpa using hi)]
          obtain ⟨r, r1, r2⟩ := getEntry_both hw hl (wrap64 (1 + wrap64 (6 * i)))
          simp only [r1, r2, some_bind]
          cases r.2
          · exact ⟨_, rfl, rfl, .inl rfl⟩
          · rw [if_neg (by simp), if_pos (okLen_iff.2 (by simp; omega))]
            refine ⟨_, rfl, rfl, ⟨?_, ?_, ?_⟩, ?_⟩
            · simp only; rw [w64 (by omega) (by omega)]; omega
            · simp only; rw [w64 (by omega) (by omega)]; omega
            · simp only [List.length_append, List.length_cons, List.length_nil]; rw [w64 (by omega) (by omega)]; omega
            · simp only; rw [w64 (by omega) (by omega)]; omega
        · rw [if_neg (by simp; omega), if_neg (by simpa using hi)]
          exact ⟨_, rfl, rfl, .inr ⟨_, _, rfl, by omega⟩⟩) k (0, []) ⟨by simp, by simp; omega, by simp⟩ (by have : 9223372036854775808 ≤ k := hk; simp; omega)
      rw [f1, f2, some_bind, some_bind]
      rcases hQ with rfl | ⟨i, l, rfl, hll⟩
      · exact ⟨badNode, rfl, rfl, by simp [badNode], fun hh => by simp [badNode] at hh⟩
      · obtain ⟨r, t1, t2, _, t3, t4⟩ := tail l hll
        exact ⟨r, t1, t2, t3, t4⟩
    · have f1 : loopM (spec_GetNode_b0 b) k (0, []) = some (.out (0, [])) :=
        loopM_run0 (b := spec_GetNode_b0 b) (fun _ => (0, [])) 0 (fun t h => by cases h) (fun j hj => by omega) (by simp only [spec_GetNode_b0, e1]; rw [if_neg (by simp; omega)]) (by have : 9223372036854775808 ≤ k := hk; omega)
      obtain ⟨r, t1, _, t0, _, _⟩ := tail [] (by simp)
      have hno : ∀ l : List TEntry, l.length ≤ 4 → (l = [] ∨ l.length = 4) → putNode ⟨decide (gt b 0 ≥ 16), l⟩ ≠ b := by
        intro l hl4 hl2 he
        by_cases hok : nodeOk ⟨decide (gt b 0 ≥ 16), l⟩ = true
        · have := putNode_first hok
          rw [he] at this
          rcases hl2 with h | h
          · simp only [h, List.length_nil] at this
            split at this <;> omega
          · simp only [h] at this
            split at this <;> omega
        · rw [putNode_nil hok] at he; rw [← he] at h25; simp at h25
      rw [if_neg (hno [] (by simp) (.inl rfl))] at t0
      subst t0
      obtain ⟨o, f2, hQ⟩ := loopM_ends (b := impl_GetNode_b0 b) (fun s => 0 ≤ s.1 ∧ s.1 ≤ 4 ∧ (s.2.length : Int) = s.1) (fun s => (4 - s.1).toNat) (fun o => o = .ret badNode ∨ ∃ i l, o = .out (i, l) ∧ l.length = 4) (fun s hs => by
        obtain ⟨i, l⟩ := s
        simp only at hs
        have e3 : (if 4 < gt b 0 % 16 then 4 else gt b 0 % 16) = 4 := by rw [if_pos (by omega)]
        simp only [impl_GetNode_b0, e2, e3]
        by_cases hi : i < 4
        · rw [if_pos (by simpa using hi)]
          obtain ⟨r, _, r2⟩ := getEntry_both hw hl (wrap64 (1 + wrap64 (6 * i)))
          rw [r2, some_bind]
          cases r.2
          · exact ⟨_, rfl, .inl rfl⟩
          · rw [if_neg (by simp), if_pos (okLen_iff.2 (by simp; omega))]
            refine ⟨_, rfl, ⟨?_, ?_, ?_⟩, ?_⟩
            · simp only; rw [w64 (by omega) (by omega)]; omega
            · simp only; rw [w64 (by omega) (by omega)]; omega
            · simp only [List.length_append, List.length_cons, List.length_nil]; rw [w64 (by omega) (by omega)]; omega
            · simp only; rw [w64 (by omega) (by omega)]; omega
        · rw [if_neg (by simpa using hi)]
          exact ⟨_, rfl, .inr ⟨_, _, rfl, by omega⟩⟩) k (0, []) ⟨by simp, by simp, by simp⟩ (by have : 9223372036854775808 ≤ k := hk; simp; omega)
      rw [f1, f2, some_bind, some_bind]
      refine ⟨badNode, t1, ?_, by simp [badNode], fun hh => by simp [badNode] at hh⟩
      rcases hQ with rfl | ⟨i, l, rfl, hll⟩
      · rfl
      · obtain ⟨r, _, t2, t0, _, _⟩ := tail l (by omega)
        rw [if_neg (hno l (by omega) (.inr hll))] at t0
        subst t0
        exact t2
  · have c25 : (!decide (((List.length b : Nat) : Int) = 25)) = true := by simp; omega
    simp only [c25, if_true]
    exact ⟨badNode, rfl, rfl, by simp [badNode], fun hh => by simp [badNode] at hh⟩

theorem slc_wf {l : List Int} (hw : ∀ x ∈ l, wfU8 x) {a b : Int} : ∀ x ∈ slc l a b, wfU8 x := fun x hx => hw x (List.mem_of_mem_drop (List.mem_of_mem_take hx))
theorem getPut_full {k : Nat} (hk : Big k) {e : Int} {b : List Int} (hw : ∀ x ∈ b, wfU8 x) (hl : b.length ≤ 2097152) : ∃ r, spec_GetPut k e b = some r ∧ impl_GetPut k e b = some r ∧ r.1.N.L.length ≤ 4 ∧ (r.2 = true → putCell e r.1 ≠ [] ∧ pad (putCell e r.1) 32 = b) := by
  rw [spec_GetPut, impl_GetPut]
  by_cases h32 : b.length = 32
  · have c32 : (!decide (((List.length b : Nat) : Int) = 32)) = false := by simp; omega
    have c4 : (0 : Int) ≤ 4 ∧ (4 : Int) ≤ 29 ∧ (29 : Int) ≤ ((List.length b : Nat) : Int) := by omega
    have c3 : (0 : Int) ≤ 3 ∧ (3 : Int) < ((List.length b : Nat) : Int) := by omega
    simp only [c32, Bool.false_eq_true, if_false, if_pos c4, if_pos c3]
    obtain ⟨r, r1, r2, r3, r4⟩ := getNode_both hk (slc_wf hw (a := 4) (b := 29)) (by rw [slc_len (by omega)]; simp)
    simp only [r1, r2, some_bind]
    generalize hx : (⟨IntKind.i64.wrap (gt b 3), r.1⟩ : TChange) = x
    have hxl : x.N.L.length ≤ 4 := by rw [← hx]; exact r3
    have hcl := putCell_len e x
    simp only [spec_putCell_eq hk (e := e) (x := x) (by omega), impl_putCell_eq hk (e := e) (x := x) (by omega), some_bind, spec_pad_eq hk (l := putCell e x) (n := 32) (by omega), impl_pad_eq hk (l := putCell e x) (n := 32) (by omega)]
    have hpl : (pad (putCell e x) 32).length = 32 := pad_len (by omega) (by omega)
    simp only [same_eq hk (N := 1114112) (Nat.le_refl _) (pad (putCell e x) 32) b ⟨by omega, fun _ _ => trivial⟩, bytes_Equal, str_eq (pad_wf (putCell_wf e x)) hw, some_bind]
    cases h2 : r.2
    · exact ⟨(⟨0, ⟨false, []⟩⟩, false), by simp, by simp, by simp, fun h => by cases h⟩
    · obtain ⟨hok, hp⟩ := r4 h2
      by_cases he : pad (putCell e x) 32 = b
      · have hne : ¬ putCell e x = [] := by
          intro h0
          rw [h0] at he
          have hz : b = List.replicate 32 0 := by rw [← he]; rfl
          have h1 := putNode_first hok
          rw [hp, hz] at h1
          have h4 := (nodeOk_facts hok).1
          have h5 := (nodeOk_facts hok).2.2
          have h6 : gt (slc (List.replicate 32 (0 : Int)) 4 29) 0 = 0 := rfl
          rw [h6] at h1
          cases hL : r.1.Leaf
          · have := h5 hL
            simp only [hL, Bool.false_eq_true, if_false] at h1
            omega
          · simp only [hL, if_true] at h1
            omega
        exact ⟨(x, true), by simp [he], by simp [he, hne], hxl, fun _ => ⟨hne, he⟩⟩
      · by_cases h0 : putCell e x = []
        · exact ⟨(⟨0, ⟨false, []⟩⟩, false), by simp [he], by simp [h0], by simp, fun h => by cases h⟩
        · exact ⟨(⟨0, ⟨false, []⟩⟩, false), by simp [he], by simp [he, h0], by simp, fun h => by cases h⟩
  · have c32 : (!decide (((List.length b : Nat) : Int) = 32)) = true := by simp; omega
    simp only [c32, if_true]
    exact ⟨_, rfl, rfl, by simp, fun h => by cases h⟩
theorem getPut_both {k : Nat} (hk : Big k) {e : Int} {b : List Int} (hw : ∀ x ∈ b, wfU8 x) (hl : b.length ≤ 2097152) : ∃ r, spec_GetPut k e b = some r ∧ impl_GetPut k e b = some r ∧ r.1.N.L.length ≤ 4 := by
  obtain ⟨r, r1, r2, r3, _⟩ := getPut_full hk hw hl (e := e)
  exact ⟨r, r1, r2, r3⟩

def pg (t : TTx) (i : Nat) : Int := (gt t.Puts (i : Int)).Page
def badTx (t : TTx) (i : Nat) : Bool := !decide (0 ≤ pg t i ∧ pg t i ≤ wrap64 (t.Size - 1)) || (List.range i).any (fun j => decide (pg t j = pg t i)) || !nodeOk (gt t.Puts (i : Int)).N
def numsOk (t : TTx) : Bool := decide (1 ≤ t.Seq ∧ t.Seq ≤ 65535) && decide (1 ≤ t.Size ∧ t.Size ≤ 48) && decide (0 ≤ t.Root ∧ t.Root ≤ wrap64 (t.Size - 1))
def txOk (t : TTx) : Bool := (firstN (badTx t) t.Puts.length).isNone && numsOk t
def smTx (t : TTx) : Prop := t.Puts.length ≤ 2097152 ∧ ∀ y ∈ t.Puts, y.N.L.length ≤ 2097152
theorem spec_txOk_eq {k : Nat} (hk : Big k) {t : TTx} (h : smTx t) : spec_TxOk k t = some (txOk t) := by
  have hl := h.1
  have h2 := loop_first (b := spec_TxOk_b2 k t) (k := k) (n := t.Puts.length) (fun i => (i : Int)) (badTx t) (fun i => .ret false) (by omega) hk (fun i t h => by cases h)
    (fun i hi => by
      have c1 : decide ((i : Int) < ((List.length t.Puts : Nat) : Int)) = true := by simp; omega
      have c2 : (0 : Int) ≤ (i : Int) ∧ (i : Int) < ((List.length t.Puts : Nat) : Int) := by omega
      have hn : (gt t.Puts (i : Int)).N.L.length ≤ 2097152 := by rw [gt_nat hi]; exact h.2 _ (List.getElem_mem hi)
      have h3 := loop_first (b := spec_TxOk_b3 t (i : Int)) (k := k) (n := i) (fun j => (j : Int)) (fun j => decide (pg t j = pg t i)) (fun i => .ret false) (by omega) hk (fun i t h => by cases h)
        (fun j hj => by
          have d1 : decide ((j : Int) < (i : Int)) = true := by simp; omega
          have d2 : (0 : Int) ≤ (j : Int) ∧ (j : Int) < ((List.length t.Puts : Nat) : Int) := by omega
          simp only [spec_TxOk_b3, if_pos d1, if_pos d2, if_pos c2, w64s (n := j) (by omega), pg]
          exact some_ite _ _ _)
        (by simp only [spec_TxOk_b3]; rw [if_neg (by simp)])
      have h3' : loopM (spec_TxOk_b3 t (i : Int)) k 0 = _ := h3
      simp only [spec_TxOk_b2, if_pos c1, if_pos c2, w64s (n := i) (by omega), spec_nodeOk_eq hk hn, spec_in_eq, some_bind, h3', badTx, firstN_any]
      have ep : (gt t.Puts (i : Int)).Page = pg t i := rfl
      rw [ep]
      by_cases hA : 0 ≤ pg t i ∧ pg t i ≤ wrap64 (t.Size - 1) <;> cases hB : nodeOk (gt t.Puts (i : Int)).N <;> cases hC : firstN (fun j => decide (pg t j = pg t i)) i <;> simp [hA])
    (by simp only [spec_TxOk_b2]; rw [if_neg (by simp)])
  have h2' : loopM (spec_TxOk_b2 k t) k 0 = _ := h2
  rw [spec_TxOk, h2', txOk]
  cases firstN (badTx t) t.Puts.length
  · simp only [some_bind, spec_in_eq, Option.isNone_none, Bool.true_and, numsOk]
    generalize decide (1 ≤ t.Seq ∧ t.Seq ≤ 65535) = a
    generalize decide (1 ≤ t.Size ∧ t.Size ≤ 48) = b
    generalize decide (0 ≤ t.Root ∧ t.Root ≤ wrap64 (t.Size - 1)) = c
    cases a <;> cases b <;> cases c <;> rfl
  · rfl
theorem impl_numsOk_eq (t : TTx) : impl_Tx_numbersOk t = some (numsOk t) := by
  simp only [impl_Tx_numbersOk, impl_in_eq, some_bind, numsOk]
  generalize decide (1 ≤ t.Seq ∧ t.Seq ≤ 65535) = a
  generalize decide (1 ≤ t.Size ∧ t.Size ≤ 48) = b
  generalize decide (0 ≤ t.Root ∧ t.Root ≤ wrap64 (t.Size - 1)) = c
  cases a <;> cases b <;> cases c <;> rfl

def endCell (e : Int) (t : TTx) (n : Int) : List Int := put2 (put2 [2] e) t.Seq ++ [t.Root % 256, t.Size % 256, n % 256]
theorem endCell_len8 (e : Int) (t : TTx) (n : Int) : (endCell e t n).length ≤ 8 := by
  have h2 := put2_len [2] e
  have h1 := put2_len (put2 [2] e) t.Seq
  simp only [endCell, List.length_append, List.length_cons, List.length_nil] at *; omega
theorem impl_endCell_eq (e : Int) (t : TTx) (n : Int) : impl_endCell e t n = some (endCell e t n) := by
  have h2 := put2_len [2] e
  have h1 := put2_len (put2 [2] e) t.Seq
  simp only [List.length_cons, List.length_nil] at h1 h2
  rw [impl_endCell, impl_put2_eq (x := e) (l := [2]) rfl, some_bind, impl_put2_eq (okLen_iff.2 (by omega)), some_bind, if_pos (okLen_iff.2 (by simp; omega))]
  simp only [u8w, endCell]
def endTx (b : List Int) : TTx := ⟨256 * gt b 3 + gt b 4, gt b 5, gt b 6, []⟩
def endOk (e : Int) (b : List Int) : Prop := b.length = 32 ∧ gt b 0 = 2 ∧ 256 * gt b 1 + gt b 2 = e ∧ (∀ i, i < 24 → gt b (8 + (i : Nat)) = 0) ∧ numsOk (endTx b) = true ∧ gt b 7 ≤ gt b 6
theorem txOk_nil {t : TTx} (h : t.Puts = []) : txOk t = numsOk t := by simp [txOk, h, firstN_zero]
theorem endCell_eq {e : Int} {b : List Int} (hw : ∀ x ∈ b, wfU8 x) (hl : b.length = 32) (he : 0 ≤ e ∧ e ≤ 65535) :
    pad (endCell e (endTx b) (gt b 7)) 32 = b ↔ gt b 0 = 2 ∧ 256 * gt b 1 + gt b 2 = e ∧ (∀ i, i < 24 → gt b (8 + (i : Nat)) = 0) := by
  rcases b with _ | ⟨b0, b⟩; · simp at hl
  rcases b with _ | ⟨b1, b⟩; · simp at hl
  rcases b with _ | ⟨b2, b⟩; · simp at hl
  rcases b with _ | ⟨b3, b⟩; · simp at hl
  rcases b with _ | ⟨b4, b⟩; · simp at hl
  rcases b with _ | ⟨b5, b⟩; · simp at hl
  rcases b with _ | ⟨b6, b⟩; · simp at hl
  rcases b with _ | ⟨b7, b⟩; · simp at hl
  have hr : b.length = 24 := by simpa using hl
  have w1 : wfU8 b1 := hw _ (by simp)
  have w2 : wfU8 b2 := hw _ (by simp)
  have w3 : wfU8 b3 := hw _ (by simp)
  have w4 : wfU8 b4 := hw _ (by simp)
  have w5 : wfU8 b5 := hw _ (by simp)
  have w6 : wfU8 b6 := hw _ (by simp)
  have w7 : wfU8 b7 := hw _ (by simp)
  simp only [wfU8] at w1 w2 w3 w4 w5 w6 w7
  have g0 : gt (b0 :: b1 :: b2 :: b3 :: b4 :: b5 :: b6 :: b7 :: b) 0 = b0 := rfl
  have g1 : gt (b0 :: b1 :: b2 :: b3 :: b4 :: b5 :: b6 :: b7 :: b) 1 = b1 := rfl
  have g2 : gt (b0 :: b1 :: b2 :: b3 :: b4 :: b5 :: b6 :: b7 :: b) 2 = b2 := rfl
  have g3 : gt (b0 :: b1 :: b2 :: b3 :: b4 :: b5 :: b6 :: b7 :: b) 3 = b3 := rfl
  have g4 : gt (b0 :: b1 :: b2 :: b3 :: b4 :: b5 :: b6 :: b7 :: b) 4 = b4 := rfl
  have g5 : gt (b0 :: b1 :: b2 :: b3 :: b4 :: b5 :: b6 :: b7 :: b) 5 = b5 := rfl
  have g6 : gt (b0 :: b1 :: b2 :: b3 :: b4 :: b5 :: b6 :: b7 :: b) 6 = b6 := rfl
  have g7 : gt (b0 :: b1 :: b2 :: b3 :: b4 :: b5 :: b6 :: b7 :: b) 7 = b7 := rfl
  have g8 : ∀ i, i < 24 → gt (b0 :: b1 :: b2 :: b3 :: b4 :: b5 :: b6 :: b7 :: b) (8 + (i : Nat)) = gt b (i : Int) := by
    intro i _
    have : (8 + (i : Int)).toNat = i + 8 := by omega
    simp only [gt, this, Int.toNat_natCast]
    rfl
  have hz : (∀ i, i < 24 → gt (b0 :: b1 :: b2 :: b3 :: b4 :: b5 :: b6 :: b7 :: b) (8 + (i : Nat)) = 0) ↔ b = List.replicate 24 0 := by
    rw [List.eq_replicate_iff]
    constructor
    · refine fun h => ⟨hr, fun x hx => ?_⟩
      obtain ⟨i, hi, rfl⟩ := List.getElem_of_mem hx
      have := h i (by omega)
      rw [g8 i (by omega), gt_nat hi] at this; exact this
    · rintro ⟨_, h⟩ i hi
      rw [g8 i hi, gt_nat (by omega)]; exact h _ (List.getElem_mem _)
  rw [hz, g0, g1, g2, g7]
  have e1 : put2 [2] e = [2, e / 256, e % 256] := by rw [put2, if_pos he]; rfl
  have e2 : put2 [2, e / 256, e % 256] (256 * b3 + b4) = [2, e / 256, e % 256, b3, b4] := by
    rw [put2, if_pos (by omega)]
    have q1 : (256 * b3 + b4) / 256 = b3 := by omega
    have q2 : (256 * b3 + b4) % 256 = b4 := by omega
    rw [q1, q2]; rfl
  have e3 : endCell e (endTx (b0 :: b1 :: b2 :: b3 :: b4 :: b5 :: b6 :: b7 :: b)) b7 = [2, e / 256, e % 256, b3, b4, b5, b6, b7] := by
    simp only [endCell, endTx, g3, g4, g5, g6, e1, e2]
    have q5 : b5 % 256 = b5 := by omega
    have q6 : b6 % 256 = b6 := by omega
    have q7 : b7 % 256 = b7 := by omega
    rw [q5, q6, q7]; rfl
  rw [e3, pad, if_pos (by omega)]
  have e4 : (32 : Int).toNat - ([2, e / 256, e % 256, b3, b4, b5, b6, b7] : List Int).length = 24 := rfl
  rw [e4]
  simp only [List.cons_append, List.nil_append, List.cons.injEq, true_and]
  constructor
  · rintro ⟨h0, h1, h2, h3⟩
    exact ⟨h0.symm, by omega, h3.symm⟩
  · rintro ⟨h0, h1, h3⟩
    exact ⟨h0.symm, by omega, by omega, h3.symm⟩
theorem byte_gt {b : List Int} (hw : ∀ x ∈ b, wfU8 x) {i : Int} (h0 : 0 ≤ i) (h : i < (b.length : Int)) : 0 ≤ gt b i ∧ gt b i ≤ 255 := hw _ (gt_mem h0 h)
theorem spec_getEnd_eq {k : Nat} (hk : Big k) {e : Int} {b : List Int} (hw : ∀ x ∈ b, wfU8 x) (hl : b.length ≤ 2097152) [Decidable (endOk e b)] :
    spec_GetEnd k e b = some (if endOk e b then (endTx b, gt b 7, true) else (⟨0, 0, 0, []⟩, 0, false)) := by
  rw [spec_GetEnd]
  by_cases h : b.length = 32
  · rw [if_neg (by simp; omega), if_pos (by omega), some_bind]
    by_cases h2 : gt b 0 = 2
    · have b5 := byte_gt hw (i := 5) (by omega) (by omega)
      have b6 := byte_gt hw (i := 6) (by omega) (by omega)
      have b7 := byte_gt hw (i := 7) (by omega) (by omega)
      rw [if_neg (by simp [h2]), spec_get2_eq hw hl, some_bind, spec_get2_eq hw hl, some_bind, if_pos (by omega), if_pos (by omega)]
      have hg1 : get2 b 1 = (256 * gt b 1 + gt b 2, true) := by rw [get2, if_neg (by omega)]; rfl
      have hg3 : get2 b 3 = (256 * gt b 3 + gt b 4, true) := by rw [get2, if_neg (by omega)]; rfl
      have h3 := loop_first (b := spec_GetEnd_b0 b) (k := k) (n := 24) (fun i => 8 + (i : Int)) (fun i => !decide (gt b (8 + (i : Int)) = 0)) (fun i => .ret (⟨0, 0, 0, []⟩, 0, false)) (by omega) hk (fun i t h => by cases h)
        (fun i hi => by
          have c1 : decide (8 + (i : Int) < ((List.length b : Nat) : Int)) = true := by simp; omega
          have c2 : (0 : Int) ≤ 8 + (i : Int) ∧ 8 + (i : Int) < ((List.length b : Nat) : Int) := by omega
          have e1 : wrap64 (8 + (i : Int) + 1) = 8 + ((i + 1 : Nat) : Int) := by rw [w64 (by omega) (by omega)]; omega
          simp only [spec_GetEnd_b0, if_pos c1, if_pos c2, e1]
          exact some_ite _ _ _)
        (by simp only [spec_GetEnd_b0]; rw [if_neg (by simp; omega)])
      have h3' : loopM (spec_GetEnd_b0 b) k 8 = _ := h3
      rw [h3', some_bind, hg1, hg3]
      cases hf : firstN (fun i => !decide (gt b (8 + (i : Int)) = 0)) 24 with
      | none =>
        have hz : ∀ i, i < 24 → gt b (8 + (i : Nat)) = 0 := fun i hi => by simpa using firstN_none hf i hi
        have et : (⟨256 * gt b 3 + gt b 4, gt b 5, gt b 6, []⟩ : TTx) = endTx b := rfl
        have e5 : IntKind.i64.wrap (gt b 5) = gt b 5 := by rw [i64w, w64 (by omega) (by omega)]
        have hs : smTx (endTx b) := ⟨by simp [endTx], fun y hy => by simp [endTx] at hy⟩
        have c7 : (0 : Int) ≤ 7 ∧ (7 : Int) < ((List.length b : Nat) : Int) := by omega
        have e7 : IntKind.i64.wrap (gt b 7) = gt b 7 := by rw [i64w, w64 (by omega) (by omega)]
        have e6 : IntKind.i64.wrap (gt b 6) = gt b 6 := by rw [i64w, w64 (by omega) (by omega)]
        simp only [e5, e6, e7, et, spec_txOk_eq hk hs, some_bind, txOk_nil (t := endTx b) rfl, if_pos c7]
        have eq6 : decide (gt b 7 > gt b 6) = !decide (gt b 7 ≤ gt b 6) := by rw [not_dec]; exact decide_eq_decide.2 (by omega)
        rw [eq6]
        by_cases hE : endOk e b
        · rw [if_pos hE]
          obtain ⟨_, _, q1, _, q2, q3⟩ := hE
          simp [q1, q2, q3]
        · rw [if_neg hE]
          have hn : (decide (256 * gt b 1 + gt b 2 = e) && numsOk (endTx b) && decide (gt b 7 ≤ gt b 6)) = false := by
            rw [← Bool.not_eq_true]
            intro hh
            simp only [Bool.and_eq_true, decide_eq_true_eq] at hh
            exact hE ⟨h, h2, hh.1.1, hz, hh.1.2, hh.2⟩
          revert hn
          generalize decide (256 * gt b 1 + gt b 2 = e) = x
          generalize numsOk (endTx b) = y
          generalize decide (gt b 7 ≤ gt b 6) = z
          cases x <;> cases y <;> cases z <;> simp
      | some j =>
        have hj := firstN_some hf
        have hE : ¬ endOk e b := by
          rintro ⟨_, _, _, hz, _⟩
          have := hj.2.1
          simp [hz j hj.1] at this
        rw [if_neg hE]
    · rw [if_pos (by simp [h2]), if_neg]
      rintro ⟨_, h3, _⟩; exact h2 h3
  · rw [if_pos (by simp; omega), some_bind, if_pos rfl, if_neg]
    rintro ⟨h3, _⟩; exact h h3
theorem impl_getEnd_eq {k : Nat} (hk : Big k) {e : Int} {b : List Int} (hw : ∀ x ∈ b, wfU8 x) (hl : b.length ≤ 2097152) [Decidable (endOk e b)] :
    impl_GetEnd k e b = some (if endOk e b then (endTx b, gt b 7, true) else (⟨0, 0, 0, []⟩, 0, false)) := by
  rw [impl_GetEnd]
  by_cases h : b.length = 32
  · rw [if_neg (by simp; omega), impl_in_eq, some_bind, some_bind]
    have w1 := byte_gt hw (i := 1) (by omega) (by omega)
    have w2 := byte_gt hw (i := 2) (by omega) (by omega)
    by_cases he : 0 ≤ e ∧ e ≤ 65535
    · have b5 := byte_gt hw (i := 5) (by omega) (by omega)
      have b6 := byte_gt hw (i := 6) (by omega) (by omega)
      have b7 := byte_gt hw (i := 7) (by omega) (by omega)
      have hg3 : get2 b 3 = (256 * gt b 3 + gt b 4, true) := by rw [get2, if_neg (by omega)]; rfl
      rw [if_neg (by simp [he]), impl_get2_eq hw hl, some_bind, if_pos (by omega), if_pos (by omega), if_pos (by omega), hg3]
      have et : (⟨256 * gt b 3 + gt b 4, gt b 5, gt b 6, []⟩ : TTx) = endTx b := rfl
      have e5 : IntKind.i64.wrap (gt b 5) = gt b 5 := by rw [i64w, w64 (by omega) (by omega)]
      have e7 : IntKind.i64.wrap (gt b 7) = gt b 7 := by rw [i64w, w64 (by omega) (by omega)]
      have e6 : IntKind.i64.wrap (gt b 6) = gt b 6 := by rw [i64w, w64 (by omega) (by omega)]
      have hlen := endCell_len8 e (endTx b) (gt b 7)
      have hwe : ∀ x ∈ pad (endCell e (endTx b) (gt b 7)) 32, wfU8 x := by
        intro x hx
        have hp : ∀ (l : List Int) (y : Int), (∀ x ∈ l, wfU8 x) → ∀ x ∈ put2 l y, wfU8 x := by
          intro l y hl x hx
          unfold put2 at hx
          split at hx
          · simp only [List.mem_append, List.mem_cons, List.not_mem_nil, or_false] at hx
            rcases hx with h | h | h
            · exact hl x h
            · subst h; constructor <;> omega
            · subst h; constructor <;> omega
          · exact hl x hx
        unfold pad at hx
        rw [if_pos (by omega)] at hx
        rcases List.mem_append.1 hx with h1 | h1
        · unfold endCell at h1
          simp only [List.mem_append, List.mem_cons, List.not_mem_nil, or_false] at h1
          rcases h1 with h | h | h | h
          · refine hp _ _ (hp _ _ ?_) x h
            intro z hz; simp at hz; subst hz; constructor <;> omega
          · subst h; constructor <;> omega
          · subst h; constructor <;> omega
          · subst h; constructor <;> omega
        · rw [List.eq_of_mem_replicate h1]; constructor <;> omega
      simp only [e5, e6, e7, et, impl_numsOk_eq, some_bind, impl_endCell_eq, impl_pad_eq hk (l := endCell e (endTx b) (gt b 7)) (n := 32) (by omega), bytes_Equal, str_eq hwe hw]
      have hc := endCell_eq hw h he
      have eq6 : decide (gt b 7 > gt b 6) = !decide (gt b 7 ≤ gt b 6) := by rw [not_dec]; exact decide_eq_decide.2 (by omega)
      rw [eq6]
      by_cases h8 : pad (endCell e (endTx b) (gt b 7)) 32 = b
      · obtain ⟨q1, q2, q3⟩ := hc.1 h8
        cases h5 : numsOk (endTx b) <;> by_cases h7 : gt b 7 ≤ gt b 6 <;> simp [h5, h7, endOk, h, q1, q2, h8]
        all_goals exact q3
      · have h9 : ¬ endOk e b := fun hh => h8 (hc.2 ⟨hh.2.1, hh.2.2.1, hh.2.2.2.1⟩)
        rw [if_neg h9]
        cases h5 : numsOk (endTx b) <;> by_cases h7 : gt b 7 ≤ gt b 6 <;> simp [h7, h8]
    · rw [if_pos (by simp [he]), if_neg]
      rintro ⟨_, _, h3, _⟩; exact he (by omega)
  · rw [if_pos (by simp; omega), some_bind, if_pos rfl, if_neg]
    rintro ⟨h3, _⟩; exact h h3

def mp (t : TTx) : Nat → List (Int × Int)
  | 0 => []
  | i + 1 => mput (mp t i) (pg t i) 1
theorem mp_get (t : TTx) (x : Int) : ∀ i, mget (mp t i) x = if (List.range i).any (fun j => decide (pg t j = x)) = true then 1 else 0
  | 0 => rfl
  | i + 1 => by
    rw [mp, mget_mput, mp_get t x i, List.range_succ, List.any_append]
    by_cases h : x = pg t i
    · subst h; simp
    · have : ¬ pg t i = x := fun e => h e.symm
      simp [h, this]
theorem dec_if (b : Bool) : decide ((if b = true then (1 : Int) else 0) = 1) = b := by cases b <;> rfl
theorem impl_txOk_eq {k : Nat} (hk : Big k) {t : TTx} (h : smTx t) : impl_TxOk k t = some (txOk t) := by
  have hl := h.1
  have h2 := loop_first (b := impl_TxOk_b0 k t) (k := k) (n := t.Puts.length) (fun i => (mp t i, (i : Int))) (badTx t) (fun i => .ret false) (by omega) hk (fun i t h => by cases h)
    (fun i hi => by
      have c1 : decide ((i : Int) < ((List.length t.Puts : Nat) : Int)) = true := by simp; omega
      have c2 : (0 : Int) ≤ (i : Int) ∧ (i : Int) < ((List.length t.Puts : Nat) : Int) := by omega
      have hn : (gt t.Puts (i : Int)).N.L.length ≤ 2097152 := by rw [gt_nat hi]; exact h.2 _ (List.getElem_mem hi)
      have ep : (gt t.Puts (i : Int)).Page = pg t i := rfl
      have eN := impl_nodeOk_eq hk hn
      have eM := mp_get t (pg t i) i
      obtain ⟨nb, hnb⟩ : ∃ nb, nodeOk (gt t.Puts (i : Int)).N = nb := ⟨_, rfl⟩
      obtain ⟨ab, hab⟩ : ∃ ab, (List.range i).any (fun j => decide (pg t j = pg t i)) = ab := ⟨_, rfl⟩
      have eB : badTx t i = (!decide (0 ≤ pg t i ∧ pg t i ≤ wrap64 (t.Size - 1)) || ab || !nb) := by rw [badTx, hab, hnb]
      rw [hnb] at eN
      rw [hab] at eM
      simp only [impl_TxOk_b0, if_pos c1, if_pos c2, w64s (n := i) (by omega), eN, impl_in_eq, some_bind, ep, eM, eB, mp]
      by_cases hA : 0 ≤ pg t i ∧ pg t i ≤ wrap64 (t.Size - 1) <;> cases nb <;> cases ab <;> simp [hA])
    (by simp only [impl_TxOk_b0]; rw [if_neg (by simp)])
  have h2' : loopM (impl_TxOk_b0 k t) k (([] : List (Int × Int)), 0) = _ := h2
  rw [impl_TxOk, h2', txOk, impl_numsOk_eq]
  cases firstN (badTx t) t.Puts.length <;> rfl

theorem read_body_eq {N : Nat} (hN : N ≤ 1114112) {d : TDisk} (h : smTDisk N d) (q : Int) : impl_Read_b0 d q = spec_Read_b0 d q := by
  funext i
  simp only [impl_Read_b0, spec_Read_b0, slices_Clone_byte_byte, List.nil_append, List.length_nil, Nat.zero_add]
  by_cases h1 : decide (i ≥ 0) = true
  · rw [if_pos h1, if_pos h1]
    by_cases h2 : (0 : Int) ≤ i ∧ i < ((List.length d.Wet : Nat) : Int)
    · rw [if_pos h2, if_pos h2, if_pos h2, if_pos h2]
      by_cases h3 : decide ((gt d.Wet i).At = q) = true
      · rw [if_pos h3, if_pos h3]
        by_cases h4 : okLen (List.length (gt d.Wet i).B) = true
        · rw [if_pos h4, if_pos h4]; rfl
        · rw [if_neg h4, if_neg h4]; rfl
      · rw [if_neg h3, if_neg h3]
    · rw [if_neg h2, if_neg h2]
  · rw [if_neg h1, if_neg h1]
theorem gt_mem' {α : Type} [Inhabited α] {l : List α} {i : Int} (h : 0 ≤ i ∧ i < (l.length : Int)) : gt l i ∈ l := by
  obtain ⟨hi, e⟩ := gt_eq h.1 h.2
  rw [e]; exact List.getElem_mem hi
theorem read_some2 {k : Nat} (hk : Big k) {N : Nat} (hN : N ≤ 1114112) {d : TDisk} (h : smTDisk N d) (q : Int) : ∃ r, spec_Read k d q = some r ∧ impl_Read k d q = some r ∧ (r.1 = [] ∨ (∃ y ∈ d.Cells, r.1 = y.B) ∨ ∃ y ∈ d.Wet, r.1 = y.B) := by
  have hW := h.2.1
  have hC := h.1
  have hl := hW.1
  have hlc := hC.1
  obtain ⟨o, ho, hQ⟩ := loopM_ends (b := spec_Read_b0 d q) (fun i => -1 ≤ i ∧ i < (d.Wet.length : Int)) (fun i => (i + 1).toNat) (fun o => match o with
      | .ret r => ∃ y ∈ d.Wet, r.1 = y.B
      | .out _ => True
      | .next _ => False) (fun i hi => by
    simp only [spec_Read_b0]
    by_cases h1 : i ≥ 0
    · have h2 : (0 : Int) ≤ i ∧ i < ((List.length d.Wet : Nat) : Int) := ⟨h1, hi.2⟩
      rw [if_pos (by simpa using h1), if_pos h2, if_pos h2]
      have hb := (hW.2 _ (gt_mem' h2)).2
      by_cases h3 : decide ((gt d.Wet i).At = q) = true
      · rw [if_pos h3, if_pos (okLen_iff.2 (by have := hb.1; simp; omega))]
        exact ⟨_, rfl, _, gt_mem' h2, by simp⟩
      · rw [if_neg h3]
        refine ⟨_, rfl, ?_, ?_⟩
        · rw [w64 (by omega) (by omega)]; omega
        · rw [w64 (by omega) (by omega)]; omega
    · rw [if_neg (by simpa using h1)]
      exact ⟨_, rfl, trivial⟩) k (wrap64 ((d.Wet.length : Int) - 1)) (by rw [w64 (by omega) (by omega)]; omega) (by rw [w64 (by omega) (by omega)]; have : 9223372036854775808 ≤ k := hk; omega)
  rw [spec_Read, impl_Read, read_body_eq hN h, ho]
  match o, hQ with
  | .ret r, hr => exact ⟨r, rfl, rfl, .inr (.inr hr)⟩
  | .out i, _ =>
    simp only [Option.bind_some, spec_in_eq]
    rw [w64 (n := (d.Cells.length : Int) - 1) (by omega) (by omega)]
    by_cases hin : 0 ≤ q ∧ q < (d.Cells.length : Int)
    · have e1 : decide (0 ≤ q ∧ q ≤ (d.Cells.length : Int) - 1) = true := by simp; omega
      have e2 : (decide (q < 0) || decide (q ≥ (d.Cells.length : Int))) = false := by simp; omega
      have hb := (hC.2 _ (gt_mem' hin)).2
      have hok : okLen (List.length (gt d.Cells q).B) = true := okLen_iff.2 (by have := hb.1; omega)
      simp only [e1, e2, Bool.not_true, Bool.false_eq_true, if_false, if_pos hin, if_true, Option.bind_some, slices_Clone_byte_byte, List.nil_append, List.length_nil, Nat.zero_add, hok]
      cases (gt d.Cells q).Bad
      · by_cases hz : decide (((gt d.Cells q).B.length : Int) = 0) = true
        · simp only [Bool.false_eq_true, if_false, hz, Option.bind_some, if_true]
          exact ⟨_, rfl, rfl, .inl rfl⟩
        · simp only [Bool.not_eq_true] at hz
          simp only [Bool.false_eq_true, if_false, hz, Option.bind_some]
          exact ⟨_, rfl, rfl, .inr (.inl ⟨_, gt_mem' hin, rfl⟩)⟩
      · simp only [if_true, Option.bind_some]
        exact ⟨_, rfl, rfl, .inl rfl⟩
    · have e1 : decide (0 ≤ q ∧ q ≤ (d.Cells.length : Int) - 1) = false := by simp; omega
      have e2 : (decide (q < 0) || decide (q ≥ (d.Cells.length : Int))) = true := by simp; omega
      simp only [e1, e2, Bool.not_false, if_true, Option.bind_some]
      exact ⟨_, rfl, rfl, .inl rfl⟩
theorem read_wf {k : Nat} (hk : Big k) {N : Nat} (hN : N ≤ 1114112) {d : TDisk} (h : smTDisk N d) (w : wfTDisk d) (q : Int) : ∃ r, spec_Read k d q = some r ∧ impl_Read k d q = some r ∧ r.1.length ≤ N ∧ ∀ x ∈ r.1, wfU8 x := by
  obtain ⟨r, e1, e2, h3⟩ := read_some2 hk hN h q
  refine ⟨r, e1, e2, ?_⟩
  rcases h3 with h3 | ⟨y, hy, h3⟩ | ⟨y, hy, h3⟩
  · rw [h3]; exact ⟨Nat.zero_le _, by simp⟩
  · rw [h3]; exact ⟨(h.1.2 y hy).2.1, (w.1.2 y hy).2.2⟩
  · rw [h3]; exact ⟨(h.2.1.2 y hy).2.1, (w.2.1.2 y hy).2.2⟩

theorem getEnd_same {k : Nat} (hk : Big k) {e : Int} {b : List Int} (hw : ∀ x ∈ b, wfU8 x) (hl : b.length ≤ 2097152) : ∃ r, spec_GetEnd k e b = some r ∧ impl_GetEnd k e b = some r := by
  have := Classical.propDecidable (endOk e b)
  exact ⟨_, spec_getEnd_eq hk hw hl, impl_getEnd_eq hk hw hl⟩
def logI (s : (List TChange) × Int × (List TTx) × Int) : Prop := (0 ≤ s.2.1 ∧ s.2.1 ≤ 64) ∧ ((s.1.length : Int) ≤ s.2.1 ∧ ∀ y ∈ s.1, y.N.L.length ≤ 4) ∧ ((s.2.2.1.length : Int) ≤ s.2.1 ∧ ∀ t ∈ s.2.2.1, t.Puts.length ≤ 64 ∧ ∀ y ∈ t.Puts, y.N.L.length ≤ 4)
theorem readLog_both {k : Nat} (hk : Big k) {d : TDisk} {e q : Int} (h : smTDisk 1048576 d) (w : wfTDisk d) (w1 : wfI e) (w2 : wfI q) : ∃ g, spec_ReadLog k d e q = some g ∧ impl_ReadLog k d e q = some g ∧ smL 1114112 (smTTx 1114112) g.1 := by
  obtain ⟨o, e1, e2, hQ⟩ := loopM_both (b := spec_ReadLog_b0 k d e q) (c := impl_ReadLog_b0 k d e q) logI (fun s => (64 - s.2.1).toNat) (fun o => ∃ s, o = .out s ∧ logI s) (fun s hs => by
      obtain ⟨puts, i, out, used⟩ := s
      have hs0 := hs
      obtain ⟨⟨i0, i1⟩, ⟨p1, p2⟩, o1, o2⟩ := hs
      simp only at i0 i1 p1 p2 o1 o2
      simp only [spec_ReadLog_b0, impl_ReadLog_b0]
      by_cases hi : i < 64
      · have ci : decide (i < 64) = true := by simpa using hi
        obtain ⟨r, r1, r2, r3, r4⟩ := read_wf hk (by omega) h w (wrap64 (2 + i))
        simp only [ci, if_true, r1, r2, some_bind]
        have ew : wrap64 (i + 1) = i + 1 := w64 (by omega) (by omega)
        cases hr : r.2
        · exact ⟨_, rfl, rfl, _, rfl, hs0⟩
        · obtain ⟨x, x1, x2, x3⟩ := getPut_both hk (e := e) r4 (by omega)
          obtain ⟨y, y1, y2⟩ := getEnd_same hk (e := e) r4 (by omega)
          simp only [Bool.not_true, Bool.false_eq_true, if_false, x1, x2, some_bind]
          cases hx : x.2
          · simp only [Bool.false_eq_true, if_false, y1, y2, some_bind]
            have hst : smTx (⟨y.1.Seq, y.1.Root, y.1.Size, puts⟩ : TTx) := ⟨by simp only; omega, fun z hz => by have := p2 z hz; omega⟩
            rw [spec_txOk_eq hk hst, impl_txOk_eq hk hst]
            simp only [some_bind]
            generalize txOk (⟨y.1.Seq, y.1.Root, y.1.Size, puts⟩ : TTx) = b1
            generalize decide (y.1.Seq = (wrap64 ((wrap64 (q + ((List.length out : Nat) : Int))) + 1))) = b2
            generalize decide (y.2.1 = ((List.length puts : Nat) : Int)) = b3
            generalize y.2.2 = b4
            have hok : okLen (List.length out + List.length ([(⟨y.1.Seq, y.1.Root, y.1.Size, puts⟩ : TTx)] : (List TTx))) = true := okLen_iff.2 (by simp; omega)
            simp only [hok, if_true, ew]
            have hnew : logI (([] : List TChange), i + 1, out ++ [(⟨y.1.Seq, y.1.Root, y.1.Size, puts⟩ : TTx)], i + 1) := by
              refine ⟨by simp only; omega, ⟨by simp; omega, by simp⟩, by simp; omega, fun t ht => ?_⟩
              simp only [List.mem_append, List.mem_cons, List.not_mem_nil, or_false] at ht
              rcases ht with ht | rfl
              · exact o2 t ht
              · exact ⟨by simp only; omega, p2⟩
            cases b1 <;> cases b2 <;> cases b3 <;> cases b4 <;> first
              | exact ⟨_, rfl, rfl, ⟨_, rfl, hs0⟩⟩
              | exact ⟨_, rfl, rfl, hnew, by simp only; omega⟩
          · have hok : okLen (List.length puts + List.length ([x.1] : (List TChange))) = true := okLen_iff.2 (by simp; omega)
            simp only [if_true, hok, ew]
            refine ⟨_, rfl, rfl, ⟨by simp only; omega, ⟨by simp; omega, fun z hz => ?_⟩, by simp only; omega, o2⟩, by simp only; omega⟩
            simp only [List.mem_append, List.mem_cons, List.not_mem_nil, or_false] at hz
            rcases hz with hz | rfl
            · exact p2 z hz
            · exact x3
      · have ci : decide (i < 64) = false := by simpa using hi
        simp only [ci, Bool.false_eq_true, if_false]
        exact ⟨_, rfl, rfl, _, rfl, hs0⟩) k (([] : List TChange), 0, ([] : List TTx), 0) ⟨by simp, by simp, by simp⟩ (by have : 9223372036854775808 ≤ k := hk; simp; omega)
  obtain ⟨s, rfl, hs⟩ := hQ
  obtain ⟨puts, i, out, used⟩ := s
  obtain ⟨⟨i0, i1⟩, _, o1, o2⟩ := hs
  simp only at i0 i1 o1 o2
  refine ⟨(out, used), by rw [spec_ReadLog, e1, some_bind], by rw [impl_ReadLog, e2, some_bind], by simp only; omega, fun t ht => ?_⟩
  obtain ⟨t1, t2⟩ := o2 t ht
  exact ⟨trivial, trivial, trivial, by omega, fun y hy => ⟨trivial, trivial, by have := t2 y hy; omega, fun _ _ => ⟨trivial, trivial, trivial, trivial, trivial⟩⟩⟩
theorem laws_FnExactReadLog_true {p0 : TDisk} {p1 : Int} {p2 : Int} (h0 : wfTDisk p0) (h1 : wfI p1) (h2 : wfI p2) : ∃ k, laws_FnExactReadLog k p0 p1 p2 = some true := by
  refine ⟨9223372036854775808, ?_⟩
  generalize hK : 9223372036854775808 = k
  have hk : Big k := by rw [Big, hK]; exact Nat.le_refl _
  clear hK
  have hN : (1048576 : Nat) ≤ 1114112 := by omega
  have hM : (1114112 : Nat) ≤ 1114112 := Nat.le_refl _
  rw [laws_FnExactReadLog]
  obtain ⟨r0, e0, l0, g0, s0⟩ := sz_Disk hk p0 h0 (m := 1048576) (by omega) (by omega)
  rw [e0, Option.bind_some]
  by_cases z0 : r0 < 0
  · simp [z0]
  rw [if_neg (by simpa using z0)]
  have hs0 := s0 (by omega)
  obtain ⟨g, eS, eI, hg⟩ := readLog_both hk hs0 h0 h1 h2
  have t0 := to_Disk hk hN p0 hs0
  have q0 := eq_Disk hk hN p0 p0 hs0
  have b0_0 := bd_CellS hN p0.Cells (hs0.1)
  have b0_1 := bd_WetS hN p0.Wet (hs0.2.1)
  have k0 := mark_Disk hk hN p0 hs0 (m := 1) (by omega) (by omega)
  have zp0 : ¬ (1 + (sumL cn_Cell p0.Cells : Int) + (sumL cn_Wet p0.Wet : Int) < 0) := by omega
  have qr0 := eq_TxS hk hM g.1 g.1 (hg)
  have br0_0 := bd_TxS hM g.1 (hg)
  have kr0 := mark_TxS hk hM g.1 (hg) (m := 1) (by omega) (by omega)
  have hr0 := held_TxS hk hM g.1 (hg) (m := 1) (by omega) (by omega)
  have zr0 : ¬ (1 + (sumL cn_Tx g.1 : Int) < 0) := by omega
  simp [eS, eI, t0, q0, k0, zp0, qr0, kr0, hr0, zr0, markL_length]

end Go.Proofs.Sx
