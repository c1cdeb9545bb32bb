/- FnExactAppend: the plain law. -/
import Derived.Test.YtgfhnepkpbmbcaaBX
import Derived.Test.YtgfhnepkpbmbcaaLP
namespace Go.Proofs.Sx
open Go.RowKit
set_option maxRecDepth 20000
set_option linter.unusedVariables false
set_option linter.unusedSimpArgs false
theorem impl_in_eq (x a b : Int) : impl_in x a b = some (decide (a ≤ x ∧ x ≤ b)) := by simp [impl_in, Bool.decide_and]

theorem spec_in_eq (x a b : Int) : spec_l1In x a b = some (decide (a ≤ x ∧ x ≤ b)) := by simp [spec_l1In, Bool.decide_and, ge_iff_le]


def pad (l : List Int) (n : Int) : List Int := if n ≤ 64 then l ++ List.replicate (n.toNat - l.length) 0 else l
theorem pad_len {l : List Int} {n : Int} (h0 : (l.length : Int) ≤ n) (h : n ≤ 64) : (pad l n).length = n.toNat := by
  unfold pad; rw [if_pos h]; simp; omega
theorem pad_trace {ρ : Type} {b : List Int → Option (Nx (List Int) ρ)} {l : List Int} {n : Int} {k : Nat} (hk : Big k) (hn : n ≤ 64)
    (hb : ∀ m : List Int, (m.length : Int) < n → b m = some (.next (m ++ [0]))) (he : ∀ m : List Int, ¬ (m.length : Int) < n → b m = some (.out m)) :
    loopM b k l = some (.out (l ++ List.replicate (n.toNat - l.length) 0)) := by
  have key := loopM_run0 (b := b) (k := k) (fun j => l ++ List.replicate j (0 : Int)) (n.toNat - l.length) (r := .out (l ++ List.replicate (n.toNat - l.length) 0)) (fun t h => by cases h) ?_ ?_ (by have : 9223372036854775808 ≤ k := hk; omega)
  · simpa using key
  · intro j hj
    rw [hb _ (by simp; omega), List.replicate_succ', List.append_assoc]
  · exact he _ (by simp; omega)
theorem spec_pad_eq {k : Nat} (hk : Big k) {l : List Int} {n : Int} (hl : l.length ≤ 2097152) : spec_Pad k l n = some (pad l n) := by
  unfold spec_Pad pad
  rw [if_pos (okLen_iff.2 (by simp; omega)), List.nil_append]
  by_cases hn : n ≤ 64
  · rw [pad_trace hk hn]
    · simp [hn]
    · intro m hm
      simp only [spec_Pad_b0]
      rw [if_pos (by simp [hm, hn]), if_pos (okLen_iff.2 (by simp; omega))]
    · intro m hm
      simp only [spec_Pad_b0]
      rw [if_neg (by simp [hm])]
  · have : loopM (spec_Pad_b0 n) k l = some (.out l) :=
      loopM_run0 (b := spec_Pad_b0 n) (fun _ => l) 0 (fun t h => by cases h) (fun j hj => by omega) (by simp only [spec_Pad_b0]; rw [if_neg (by simp [hn])]) (by have : 9223372036854775808 ≤ k := hk; omega)
    rw [this]; simp [hn]
theorem impl_pad_eq {k : Nat} (hk : Big k) {l : List Int} {n : Int} (hl : l.length ≤ 2097152) : impl_Pad k l n = some (pad l n) := by
  unfold impl_Pad pad
  simp only [slices_Clone_byte_byte]
  rw [if_pos (okLen_iff.2 (by omega)), some_bind]
  by_cases hn : n ≤ 64
  · rw [if_neg (by simp; omega), pad_trace hk hn]
    · simp [hn]
    · intro m hm
      simp only [impl_Pad_b0]
      rw [if_pos (by simp [hm]), if_pos (okLen_iff.2 (by simp; omega))]
    · intro m hm
      simp only [impl_Pad_b0]
      rw [if_neg (by simp [hm])]
  · rw [if_pos (by simp; omega)]; simp [hn]

def smD (M : Nat) (p : TDisk) : Prop := p.Cells.length ≤ M ∧ (∀ y ∈ p.Cells, y.B.length ≤ M) ∧ p.Wet.length ≤ M ∧ ∀ y ∈ p.Wet, y.B.length ≤ M
theorem smD.mono {M N : Nat} {p : TDisk} (h : smD M p) (hn : M ≤ N) : smD N p := ⟨Nat.le_trans h.1 hn, fun y hy => Nat.le_trans (h.2.1 y hy) hn, Nat.le_trans h.2.2.1 hn, fun y hy => Nat.le_trans (h.2.2.2 y hy) hn⟩
theorem spec_copyDisk_eq {k M : Nat} (hk : Big k) {p : TDisk} (h : smD M p) (hM : M ≤ 2097152) : spec_l18Copy k p = some p := by
  obtain ⟨h1, h2, h3, h4⟩ := h
  have e := loop_app2 (b := spec_l18Copy_b0 p) (k := k) (f := fun x : TCell => [x]) (p := p.Cells) (z := []) (B := 1) (by omega) hk (fun _ _ => Nat.le_refl _) (fun i hi l hl2 => by
      simp only [List.length_nil] at hl2
      have c1 : decide ((i : Int) < ((List.length p.Cells : Nat) : Int)) = true := by simp; omega
      have c2 : (0 : Int) ≤ (i : Int) ∧ (i : Int) < ((List.length p.Cells : Nat) : Int) := by omega
      have hn := h2 _ (List.getElem_mem hi)
      simp only [spec_l18Copy_b0, if_pos c1, if_pos c2, gt_nat hi, List.nil_append]
      rw [if_pos (okLen_iff.2 (by simp; omega)), if_pos (okLen_iff.2 (by simp; omega)), w64s (by omega)])
    (fun l => by simp only [spec_l18Copy_b0]; rw [if_neg (by simp)])
  have e2 := loop_app2 (b := spec_l18Copy_b1 p) (k := k) (f := fun x : TWet => [x]) (p := p.Wet) (z := []) (B := 1) (by omega) hk (fun _ _ => Nat.le_refl _) (fun i hi l hl2 => by
      simp only [List.length_nil] at hl2
      have c1 : decide ((i : Int) < ((List.length p.Wet : Nat) : Int)) = true := by simp; omega
      have c2 : (0 : Int) ≤ (i : Int) ∧ (i : Int) < ((List.length p.Wet : Nat) : Int) := by omega
      have hn := h4 _ (List.getElem_mem hi)
      simp only [spec_l18Copy_b1, if_pos c1, if_pos c2, gt_nat hi, List.nil_append]
      rw [if_pos (okLen_iff.2 (by simp; omega)), if_pos (okLen_iff.2 (by simp; omega)), w64s (by omega)])
    (fun l => by simp only [spec_l18Copy_b1]; rw [if_neg (by simp)])
  rw [spec_l18Copy, e, some_bind]
  simp only
  rw [e2, some_bind]
  simp only [List.nil_append, fm_single]
theorem impl_copyDisk_eq {k M : Nat} (hk : Big k) {p : TDisk} (h : smD M p) (hM : M ≤ 2097152) : impl_copyDisk k p = some p := by
  obtain ⟨h1, h2, h3, h4⟩ := h
  have e := loop_app2 (b := impl_copyDisk_b0 p) (k := k) (f := fun x : TCell => [x]) (p := p.Cells) (z := []) (B := 1) (by omega) hk (fun _ _ => Nat.le_refl _) (fun i hi l hl2 => by
      simp only [List.length_nil] at hl2
      have c1 : decide ((i : Int) < ((List.length p.Cells : Nat) : Int)) = true := by simp; omega
      have c2 : (0 : Int) ≤ (i : Int) ∧ (i : Int) < ((List.length p.Cells : Nat) : Int) := by omega
      have hn := h2 _ (List.getElem_mem hi)
      simp only [impl_copyDisk_b0, if_pos c1, if_pos c2, gt_nat hi, slices_Clone_byte_byte]
      rw [if_pos (okLen_iff.2 (by omega)), some_bind, if_pos (okLen_iff.2 (by simp; omega)), w64s (by omega)])
    (fun l => by simp only [impl_copyDisk_b0]; rw [if_neg (by simp)])
  have e2 := loop_app2 (b := impl_copyDisk_b1 p) (k := k) (f := fun x : TWet => [x]) (p := p.Wet) (z := []) (B := 1) (by omega) hk (fun _ _ => Nat.le_refl _) (fun i hi l hl2 => by
      simp only [List.length_nil] at hl2
      have c1 : decide ((i : Int) < ((List.length p.Wet : Nat) : Int)) = true := by simp; omega
      have c2 : (0 : Int) ≤ (i : Int) ∧ (i : Int) < ((List.length p.Wet : Nat) : Int) := by omega
      have hn := h4 _ (List.getElem_mem hi)
      simp only [impl_copyDisk_b1, if_pos c1, if_pos c2, gt_nat hi, slices_Clone_byte_byte]
      rw [if_pos (okLen_iff.2 (by omega)), some_bind, if_pos (okLen_iff.2 (by simp; omega)), w64s (by omega)])
    (fun l => by simp only [impl_copyDisk_b1]; rw [if_neg (by simp)])
  rw [impl_copyDisk, e, some_bind]
  simp only
  rw [e2, some_bind]
  simp only [List.nil_append, fm_single]
def burn (p : TDisk) : Bool × TDisk := if p.Dead = true then (false, p) else if p.Fuse = 0 then (false, ⟨p.Cells, p.Wet, p.Fuse, true⟩) else if p.Fuse > 0 then (true, ⟨p.Cells, p.Wet, wrap64 (p.Fuse - 1), p.Dead⟩) else (true, p)
theorem spec_burn_eq (p : TDisk) : spec_l18Burn p = some (burn p) := by
  simp only [spec_l18Burn, burn, decide_eq_true_eq]
  split
  · rfl
  · split
    · rfl
    · split <;> rfl
theorem impl_burn_eq (p : TDisk) : impl_Disk_burn p = some (burn p) := by
  simp only [impl_Disk_burn, burn, decide_eq_true_eq]
  split
  · rfl
  · split
    · rfl
    · split <;> rfl
def writeD (p : TDisk) (s : Int) (b : List Int) : TDisk := if (burn p).1 = true ∧ (0 ≤ s ∧ s ≤ 113) ∧ b.length ≤ 32 then ⟨p.Cells, p.Wet ++ [⟨s, pad b 32⟩], (burn p).2.Fuse, (burn p).2.Dead⟩ else ⟨p.Cells, p.Wet, (burn p).2.Fuse, (burn p).2.Dead⟩
theorem writeD_sm {M : Nat} {p : TDisk} (h : smD M p) {s : Int} {b : List Int} (hM : 32 ≤ M) : smD (M + 1) (writeD p s b) := by
  obtain ⟨h1, h2, h3, h4⟩ := h
  unfold writeD
  split
  · rename_i hc
    refine ⟨by simp only; omega, fun y hy => by have := h2 y hy; omega, by simp only [List.length_append, List.length_cons, List.length_nil]; omega, fun y hy => ?_⟩
    simp only [List.mem_append, List.mem_cons, List.not_mem_nil, or_false] at hy
    rcases hy with hy | rfl
    · have := h4 y hy; omega
    · have := pad_len (l := b) (n := 32) (by omega) (by omega); simp only [this]; omega
  · exact ⟨by simp only; omega, fun y hy => by have := h2 y hy; omega, by simp only; omega, fun y hy => by have := h4 y hy; omega⟩
theorem spec_writeD_eq {k M : Nat} (hk : Big k) {p : TDisk} (h : smD M p) (hM : M ≤ 2097152) {s : Int} {b : List Int} (hb : b.length ≤ 2097152) : spec_Write k p s b = some (writeD p s b) := by
  have h3 := h.2.2.1
  rw [spec_Write, spec_copyDisk_eq hk h hM, some_bind, spec_burn_eq, some_bind, spec_in_eq, writeD]
  rw [spec_pad_eq hk (by omega)]
  simp only [some_bind]
  rw [if_pos (c := okLen _ = true) (okLen_iff.2 (by simp; omega))]
  cases (burn p).1 <;> by_cases hs : 0 ≤ s ∧ s ≤ 113 <;> by_cases hl : b.length ≤ 32
  all_goals (have hl2 : ((List.length b : Nat) : Int) ≤ 32 ↔ b.length ≤ 32 := by omega)
  all_goals simp [hs, hl, hl2]
theorem impl_writeD_eq {k M : Nat} (hk : Big k) {p : TDisk} (h : smD M p) (hM : M ≤ 2097152) {s : Int} {b : List Int} (hb : b.length ≤ 2097152) : impl_Write k p s b = some (writeD p s b) := by
  have h3 := h.2.2.1
  rw [impl_Write, impl_copyDisk_eq hk h hM, some_bind, impl_burn_eq, some_bind, impl_in_eq, writeD]
  rw [impl_pad_eq hk (by omega)]
  simp only [some_bind]
  rw [if_pos (c := okLen _ = true) (okLen_iff.2 (by simp; omega))]
  cases (burn p).1 <;> by_cases hs : 0 ≤ s ∧ s ≤ 113 <;> by_cases hl : b.length ≤ 32
  all_goals (have hl2 : ((List.length b : Nat) : Int) ≤ 32 ↔ b.length ≤ 32 := by omega)
  all_goals simp [hs, hl, hl2]
theorem smD_of {N : Nat} {p : TDisk} (h : smTDisk N p) : smD N p := ⟨h.1.1, fun y hy => (h.1.2 y hy).2.1, h.2.1.1, fun y hy => (h.2.1.2 y hy).2.1⟩
theorem smD_to {N : Nat} {p : TDisk} (h : smD N p) : smTDisk N p := ⟨⟨h.1, fun y hy => ⟨trivial, h.2.1 y hy, fun _ _ => trivial⟩⟩, ⟨h.2.2.1, fun y hy => ⟨trivial, h.2.2.2 y hy, fun _ _ => trivial⟩⟩, trivial, trivial⟩

def boxOkP (b : TBox) : Prop := 0 ≤ b.X0 ∧ b.X0 ≤ b.X1 ∧ b.X1 ≤ 255 ∧ 0 ≤ b.Y0 ∧ b.Y0 ≤ b.Y1 ∧ b.Y1 ≤ 255
instance (b : TBox) : Decidable (boxOkP b) := by unfold boxOkP; infer_instance
theorem spec_boxOk_eq (b : TBox) : spec_BoxOk b = some (decide (boxOkP b)) := by
  simp only [spec_BoxOk, spec_in_eq, some_bind, and_if]
  exact some_dec (by unfold boxOkP; omega)
theorem impl_boxOk_eq (b : TBox) : impl_BoxOk b = some (decide (boxOkP b)) := by
  simp only [impl_BoxOk, impl_in_eq, some_bind, and_if]
  exact some_dec (by unfold boxOkP; omega)

def entryAt (l : List TEntry) (n : Int) : Int := match firstN (fun i => decide ((gt l (i : Int)).N = n)) l.length with
  | some i => (i : Int)
  | none => -1
theorem spec_entryAt_eq {k : Nat} (hk : Big k) {l : List TEntry} (hl : l.length ≤ 2097152) (n : Int) : spec_EntryAt k l n = some (entryAt l n) := by
  have h := loop_first (b := spec_EntryAt_b0 l n) (k := k) (n := l.length) (fun i => (i : Int)) (fun i => decide ((gt l (i : Int)).N = n)) (fun i => .ret (i : Int)) (by omega) hk (fun i t h => by cases h)
    (fun i hi => by
      have c1 : decide ((i : Int) < ((List.length l : Nat) : Int)) = true := by simp; omega
      have c2 : (0 : Int) ≤ (i : Int) ∧ (i : Int) < ((List.length l : Nat) : Int) := by omega
      simp only [spec_EntryAt_b0, if_pos c1, if_pos c2, w64s (n := i) (by omega)]
      split <;> rfl)
    (by simp only [spec_EntryAt_b0]; rw [if_neg (by simp)])
  have h' : loopM (spec_EntryAt_b0 l n) k 0 = _ := h
  rw [spec_EntryAt, h', entryAt]
  cases firstN (fun i => decide ((gt l (i : Int)).N = n)) l.length <;> rfl
theorem impl_entryAt_eq {k : Nat} (hk : Big k) {l : List TEntry} (hl : l.length ≤ 2097152) (n : Int) : impl_EntryAt k l n = some (entryAt l n) := by
  have h := loop_first (b := slices_IndexFunc_impl_Entry_impl_Entry_impl_EntryAt_1_b0 l) (k := k) (n := l.length) (fun i => ((i : Int), n)) (fun i => decide ((gt l (i : Int)).N = n)) (fun i => .ret ((i : Int), n)) (by omega) hk (fun i t h => by cases h)
    (fun i hi => by
      have c1 : decide ((i : Int) < ((List.length l : Nat) : Int)) = true := by simp; omega
      have c2 : (0 : Int) ≤ (i : Int) ∧ (i : Int) < ((List.length l : Nat) : Int) := by omega
      simp only [slices_IndexFunc_impl_Entry_impl_Entry_impl_EntryAt_1_b0, impl_EntryAt_1, some_bind, if_pos c1, if_pos c2, w64s (n := i) (by omega)]
      split <;> rfl)
    (by simp only [slices_IndexFunc_impl_Entry_impl_Entry_impl_EntryAt_1_b0]; rw [if_neg (by simp)])
  have h' : loopM (slices_IndexFunc_impl_Entry_impl_Entry_impl_EntryAt_1_b0 l) k (0, n) = _ := h
  rw [impl_EntryAt, slices_IndexFunc_impl_Entry_impl_Entry_impl_EntryAt_1, h', entryAt]
  cases firstN (fun i => decide ((gt l (i : Int)).N = n)) l.length <;> rfl

def badEntry (p : TNode) (i : Nat) : Prop := ¬ boxOkP (gt p.L (i : Int)).R ∨ entryAt p.L (gt p.L (i : Int)).N ≠ (i : Int) ∨ (p.Leaf = true ∧ ¬ (1 ≤ (gt p.L (i : Int)).N ∧ (gt p.L (i : Int)).N ≤ 999)) ∨ (p.Leaf = false ∧ ¬ (0 ≤ (gt p.L (i : Int)).N ∧ (gt p.L (i : Int)).N ≤ 47))
instance (p : TNode) (i : Nat) : Decidable (badEntry p i) := by unfold badEntry; infer_instance
def nodeOk (p : TNode) : Bool := (firstN (fun i => decide (badEntry p i)) p.L.length).isNone && decide (p.L.length ≤ 4) && (p.Leaf || decide (p.L.length > 0))
theorem spec_nodeOk_eq {k : Nat} (hk : Big k) {p : TNode} (hl : p.L.length ≤ 2097152) : spec_NodeOk k p = some (nodeOk p) := by
  have h := loop_first (b := spec_NodeOk_b0 k p) (k := k) (n := p.L.length) (fun i => (i : Int)) (fun i => decide (badEntry p i)) (fun i => .ret false) (by omega) hk (fun i t h => by cases h)
    (fun i hi => by
      have c1 : decide ((i : Int) < ((List.length p.L : Nat) : Int)) = true := by simp; omega
      have c2 : (0 : Int) ≤ (i : Int) ∧ (i : Int) < ((List.length p.L : Nat) : Int) := by omega
      simp only [spec_NodeOk_b0, if_pos c1, if_pos c2, w64s (n := i) (by omega), spec_boxOk_eq, spec_entryAt_eq hk hl, spec_in_eq, some_bind]
      by_cases hA : boxOkP (gt p.L (i : Int)).R <;> by_cases hB : entryAt p.L (gt p.L (i : Int)).N = (i : Int) <;> cases hL : p.Leaf <;>
        by_cases hC : 1 ≤ (gt p.L (i : Int)).N ∧ (gt p.L (i : Int)).N ≤ 999 <;> by_cases hD : 0 ≤ (gt p.L (i : Int)).N ∧ (gt p.L (i : Int)).N ≤ 47 <;> simp [badEntry, hA, hB, hC, hD, hL])
    (by simp only [spec_NodeOk_b0]; rw [if_neg (by simp)])
  have h' : loopM (spec_NodeOk_b0 k p) k 0 = _ := h
  rw [spec_NodeOk, h', nodeOk]
  cases firstN (fun i => decide (badEntry p i)) p.L.length
  · have e1 : decide (((List.length p.L : Nat) : Int) ≤ 4) = decide (p.L.length ≤ 4) := decide_eq_decide.2 (by omega)
    have e2 : decide (((List.length p.L : Nat) : Int) > 0) = decide (p.L.length > 0) := decide_eq_decide.2 (by omega)
    simp only [some_bind, e1, e2, Option.isNone_none, Bool.true_and]
  · rfl
theorem impl_nodeOk_eq {k : Nat} (hk : Big k) {p : TNode} (hl : p.L.length ≤ 2097152) : impl_NodeOk k p = some (nodeOk p) := by
  have h := loop_first (b := impl_NodeOk_b0 k p) (k := k) (n := p.L.length) (fun i => (i : Int)) (fun i => decide (badEntry p i)) (fun i => .ret false) (by omega) hk (fun i t h => by cases h)
    (fun i hi => by
      have c1 : decide ((i : Int) < ((List.length p.L : Nat) : Int)) = true := by simp; omega
      have c2 : (0 : Int) ≤ (i : Int) ∧ (i : Int) < ((List.length p.L : Nat) : Int) := by omega
      simp only [impl_NodeOk_b0, if_pos c1, if_pos c2, w64s (n := i) (by omega), impl_boxOk_eq, impl_entryAt_eq hk hl, impl_in_eq, some_bind]
      by_cases hA : boxOkP (gt p.L (i : Int)).R <;> by_cases hB : entryAt p.L (gt p.L (i : Int)).N = (i : Int) <;> cases hL : p.Leaf <;>
        by_cases hC : 1 ≤ (gt p.L (i : Int)).N ∧ (gt p.L (i : Int)).N ≤ 999 <;> by_cases hD : 0 ≤ (gt p.L (i : Int)).N ∧ (gt p.L (i : Int)).N ≤ 47 <;> simp [badEntry, hA, hB, hC, hD, hL])
    (by simp only [impl_NodeOk_b0]; rw [if_neg (by simp)])
  have h' : loopM (impl_NodeOk_b0 k p) k 0 = _ := h
  rw [impl_NodeOk, h', nodeOk]
  by_cases h4 : p.L.length ≤ 4
  · have e4 : decide (((List.length p.L : Nat) : Int) > 4) = false := decide_eq_false (by omega)
    by_cases h0 : p.L.length > 0
    · have e0 : decide (((List.length p.L : Nat) : Int) = 0) = false := decide_eq_false (by omega)
      rw [e4, e0, Bool.and_false, if_neg (by decide)]
      cases firstN (fun i => decide (badEntry p i)) p.L.length <;> simp [h4, h0]
    · have e0 : decide (((List.length p.L : Nat) : Int) = 0) = true := decide_eq_true (by omega)
      cases hL : p.Leaf
      · rw [e4, e0, if_pos (by decide)]; simp [h0]
      · rw [e4, e0, if_neg (by decide)]
        cases firstN (fun i => decide (badEntry p i)) p.L.length <;> simp [h4]
  · have e4 : decide (((List.length p.L : Nat) : Int) > 4) = true := decide_eq_true (by omega)
    rw [e4, Bool.true_or, if_pos (by decide)]
    simp [h4]
theorem nodeOk_facts {p : TNode} (h : nodeOk p = true) : p.L.length ≤ 4 ∧ (∀ i, i < p.L.length → ¬ badEntry p i) ∧ (p.Leaf = false → 0 < p.L.length) := by
  unfold nodeOk at h
  simp only [Bool.and_eq_true, decide_eq_true_eq, Bool.or_eq_true, Option.isNone_iff_eq_none] at h
  obtain ⟨⟨h1, h2⟩, h3⟩ := h
  exact ⟨h2, fun i hi => by simpa using firstN_none h1 i hi, fun hL => by rcases h3 with h | h; rw [hL] at h; cases h; exact h⟩

def pg (t : TTx) (i : Nat) : Int := (gt t.Puts (i : Int)).Page
def badTx (t : TTx) (i : Nat) : Bool := !decide (0 ≤ pg t i ∧ pg t i ≤ wrap64 (t.Size - 1)) || (List.range i).any (fun j => decide (pg t j = pg t i)) || !nodeOk (gt t.Puts (i : Int)).N
def numsOk (t : TTx) : Bool := decide (1 ≤ t.Seq ∧ t.Seq ≤ 65535) && decide (1 ≤ t.Size ∧ t.Size ≤ 48) && decide (0 ≤ t.Root ∧ t.Root ≤ wrap64 (t.Size - 1))
def txOk (t : TTx) : Bool := (firstN (badTx t) t.Puts.length).isNone && numsOk t
def smTx (t : TTx) : Prop := t.Puts.length ≤ 2097152 ∧ ∀ y ∈ t.Puts, y.N.L.length ≤ 2097152
theorem spec_txOk_eq {k : Nat} (hk : Big k) {t : TTx} (h : smTx t) : spec_TxOk k t = some (txOk t) := by
  have hl := h.1
  have h2 := loop_first (b := spec_TxOk_b2 k t) (k := k) (n := t.Puts.length) (fun i => (i : Int)) (badTx t) (fun i => .ret false) (by omega) hk (fun i t h => by cases h)
    (fun i hi => by
      have c1 : decide ((i : Int) < ((List.length t.Puts : Nat) : Int)) = true := by simp; omega
      have c2 : (0 : Int) ≤ (i : Int) ∧ (i : Int) < ((List.length t.Puts : Nat) : Int) := by omega
      have hn : (gt t.Puts (i : Int)).N.L.length ≤ 2097152 := by rw [gt_nat hi]; exact h.2 _ (List.getElem_mem hi)
      have h3 := loop_first (b := spec_TxOk_b3 t (i : Int)) (k := k) (n := i) (fun j => (j : Int)) (fun j => decide (pg t j = pg t i)) (fun i => .ret false) (by omega) hk (fun i t h => by cases h)
        (fun j hj => by
          have d1 : decide ((j : Int) < (i : Int)) = true := by simp; omega
          have d2 : (0 : Int) ≤ (j : Int) ∧ (j : Int) < ((List.length t.Puts : Nat) : Int) := by omega
          simp only [spec_TxOk_b3, if_pos d1, if_pos d2, if_pos c2, w64s (n := j) (by omega), pg]
          exact some_ite _ _ _)
        (by simp only [spec_TxOk_b3]; rw [if_neg (by simp)])
      have h3' : loopM (spec_TxOk_b3 t (i : Int)) k 0 = _ := h3
      simp only [spec_TxOk_b2, if_pos c1, if_pos c2, w64s (n := i) (by omega), spec_nodeOk_eq hk hn, spec_in_eq, some_bind, h3', badTx, firstN_any]
      have ep : (gt t.Puts (i : Int)).Page = pg t i := rfl
      rw [ep]
      by_cases hA : 0 ≤ pg t i ∧ pg t i ≤ wrap64 (t.Size - 1) <;> cases hB : nodeOk (gt t.Puts (i : Int)).N <;> cases hC : firstN (fun j => decide (pg t j = pg t i)) i <;> simp [hA])
    (by simp only [spec_TxOk_b2]; rw [if_neg (by simp)])
  have h2' : loopM (spec_TxOk_b2 k t) k 0 = _ := h2
  rw [spec_TxOk, h2', txOk]
  cases firstN (badTx t) t.Puts.length
  · simp only [some_bind, spec_in_eq, Option.isNone_none, Bool.true_and, numsOk]
    generalize decide (1 ≤ t.Seq ∧ t.Seq ≤ 65535) = a
    generalize decide (1 ≤ t.Size ∧ t.Size ≤ 48) = b
    generalize decide (0 ≤ t.Root ∧ t.Root ≤ wrap64 (t.Size - 1)) = c
    cases a <;> cases b <;> cases c <;> rfl
  · rfl
theorem impl_numsOk_eq (t : TTx) : impl_Tx_numbersOk t = some (numsOk t) := by
  simp only [impl_Tx_numbersOk, impl_in_eq, some_bind, numsOk]
  generalize decide (1 ≤ t.Seq ∧ t.Seq ≤ 65535) = a
  generalize decide (1 ≤ t.Size ∧ t.Size ≤ 48) = b
  generalize decide (0 ≤ t.Root ∧ t.Root ≤ wrap64 (t.Size - 1)) = c
  cases a <;> cases b <;> cases c <;> rfl

def mp (t : TTx) : Nat → List (Int × Int)
  | 0 => []
  | i + 1 => mput (mp t i) (pg t i) 1
theorem mp_get (t : TTx) (x : Int) : ∀ i, mget (mp t i) x = if (List.range i).any (fun j => decide (pg t j = x)) = true then 1 else 0
  | 0 => rfl
  | i + 1 => by
    rw [mp, mget_mput, mp_get t x i, List.range_succ, List.any_append]
    by_cases h : x = pg t i
    · subst h; simp
    · have : ¬ pg t i = x := fun e => h e.symm
      simp [h, this]
theorem dec_if (b : Bool) : decide ((if b = true then (1 : Int) else 0) = 1) = b := by cases b <;> rfl
theorem impl_txOk_eq {k : Nat} (hk : Big k) {t : TTx} (h : smTx t) : impl_TxOk k t = some (txOk t) := by
  have hl := h.1
  have h2 := loop_first (b := impl_TxOk_b0 k t) (k := k) (n := t.Puts.length) (fun i => (mp t i, (i : Int))) (badTx t) (fun i => .ret false) (by omega) hk (fun i t h => by cases h)
    (fun i hi => by
      have c1 : decide ((i : Int) < ((List.length t.Puts : Nat) : Int)) = true := by simp; omega
      have c2 : (0 : Int) ≤ (i : Int) ∧ (i : Int) < ((List.length t.Puts : Nat) : Int) := by omega
      have hn : (gt t.Puts (i : Int)).N.L.length ≤ 2097152 := by rw [gt_nat hi]; exact h.2 _ (List.getElem_mem hi)
      have ep : (gt t.Puts (i : Int)).Page = pg t i := rfl
      have eN := impl_nodeOk_eq hk hn
      have eM := mp_get t (pg t i) i
      obtain ⟨nb, hnb⟩ : ∃ nb, nodeOk (gt t.Puts (i : Int)).N = nb := ⟨_, rfl⟩
      obtain ⟨ab, hab⟩ : ∃ ab, (List.range i).any (fun j => decide (pg t j = pg t i)) = ab := ⟨_, rfl⟩
      have eB : badTx t i = (!decide (0 ≤ pg t i ∧ pg t i ≤ wrap64 (t.Size - 1)) || ab || !nb) := by rw [badTx, hab, hnb]
      rw [hnb] at eN
      rw [hab] at eM
      simp only [impl_TxOk_b0, if_pos c1, if_pos c2, w64s (n := i) (by omega), eN, impl_in_eq, some_bind, ep, eM, eB, mp]
      by_cases hA : 0 ≤ pg t i ∧ pg t i ≤ wrap64 (t.Size - 1) <;> cases nb <;> cases ab <;> simp [hA])
    (by simp only [impl_TxOk_b0]; rw [if_neg (by simp)])
  have h2' : loopM (impl_TxOk_b0 k t) k (([] : List (Int × Int)), 0) = _ := h2
  rw [impl_TxOk, h2', txOk, impl_numsOk_eq]
  cases firstN (badTx t) t.Puts.length <;> rfl

def put2 (l : List Int) (x : Int) : List Int := if 0 ≤ x ∧ x ≤ 65535 then l ++ [x / 256, x % 256] else l
theorem put2_len (l : List Int) (x : Int) : (put2 l x).length ≤ l.length + 2 := by
  unfold put2; split <;> simp
theorem spec_put2_eq {l : List Int} {x : Int} (h : okLen (l.length + 2) = true) : spec_Put2 l x = some (put2 l x) := by
  have h1 : okLen l.length = true := okLen_le h (by omega)
  simp only [spec_Put2, spec_in_eq, some_bind, List.nil_append, List.length_nil, Nat.zero_add, h1, if_true, List.length_cons, h, put2]
  by_cases hx : 0 ≤ x ∧ x ≤ 65535
  · have e1 : Int.tdiv x 256 = x / 256 := tdiv_pos hx.1
    have e2 : Int.tmod x 256 = x % 256 := tmod_pos hx.1
    simp only [hx, decide_true, Bool.not_true, Bool.false_eq_true, if_false, if_true, and_self, e1, e2, u8w]
    rw [w64 (by omega) (by omega)]
    have e3 : x / 256 % 256 = x / 256 := by omega
    have e4 : x % 256 % 256 = x % 256 := by omega
    rw [e3, e4]
  · simp [hx]
theorem impl_put2_eq {l : List Int} {x : Int} (h : okLen (l.length + 2) = true) : impl_Put2 l x = some (put2 l x) := by
  have h1 : okLen l.length = true := okLen_le h (by omega)
  simp only [impl_Put2, slices_Clone_byte_byte, impl_in_eq, some_bind, h1, if_true, List.length_cons, List.length_nil, Nat.zero_add, h, put2]
  by_cases hx : 0 ≤ x ∧ x ≤ 65535
  · simp only [hx, decide_true, Bool.not_true, Bool.false_eq_true, if_false, if_true, and_self, u8w, sh8]
    rw [fdiv_pos (by omega)]
    have e3 : x / 256 % 256 = x / 256 := by omega
    rw [e3]
  · simp [hx]

def endCell (e : Int) (t : TTx) (n : Int) : List Int := put2 (put2 [2] e) t.Seq ++ [t.Root % 256, t.Size % 256, n % 256]
theorem endCell_len (e : Int) (t : TTx) (n : Int) : (endCell e t n).length ≤ 8 ∧ 3 ≤ (endCell e t n).length := by
  have h2 := put2_len [2] e
  have h1 := put2_len (put2 [2] e) t.Seq
  simp only [endCell, List.length_append, List.length_cons, List.length_nil] at *; omega
theorem impl_endCell_eq (e : Int) (t : TTx) (n : Int) : impl_endCell e t n = some (endCell e t n) := by
  have h2 := put2_len [2] e
  have h1 := put2_len (put2 [2] e) t.Seq
  simp only [List.length_cons, List.length_nil] at h1 h2
  rw [impl_endCell, impl_put2_eq (x := e) (l := [2]) rfl, some_bind, impl_put2_eq (okLen_iff.2 (by omega)), some_bind, if_pos (okLen_iff.2 (by simp; omega))]
  simp only [u8w, endCell]
def endOf (e : Int) (t : TTx) : List Int := if (0 ≤ e ∧ e ≤ 65535) ∧ txOk t = true then endCell e t (t.Puts.length : Int) else []
theorem endOf_len (e : Int) (t : TTx) : (endOf e t).length ≤ 8 := by
  unfold endOf; split
  · exact (endCell_len _ _ _).1
  · simp
theorem spec_endOf_eq {k : Nat} (hk : Big k) {e : Int} {t : TTx} (h : smTx t) : spec_EndCell k e t = some (endOf e t) := by
  have h2 := put2_len [2] e
  have h1 := put2_len (put2 [2] e) t.Seq
  simp only [List.length_cons, List.length_nil] at h1 h2
  rw [spec_EndCell, spec_in_eq, some_bind, spec_txOk_eq hk h, spec_put2_eq (x := e) (l := [2]) rfl]
  simp only [some_bind]
  rw [spec_put2_eq (x := t.Seq) (l := put2 [2] e) (okLen_iff.2 (by omega)), some_bind, if_pos (c := okLen _ = true) (okLen_iff.2 (by simp; omega)), endOf]
  by_cases he : 0 ≤ e ∧ e ≤ 65535 <;> cases txOk t <;> simp [he, u8w, endCell]
theorem impl_endOf_eq {k : Nat} (hk : Big k) {e : Int} {t : TTx} (h : smTx t) : impl_EndCell k e t = some (endOf e t) := by
  rw [impl_EndCell, impl_in_eq, some_bind, impl_txOk_eq hk h, impl_endCell_eq]
  simp only [some_bind, endOf]
  by_cases he : 0 ≤ e ∧ e ≤ 65535 <;> cases txOk t <;> simp [he]
theorem smTx_of {N : Nat} (hN : N ≤ 1114112) {t : TTx} (h : smTTx N t) : smTx t := ⟨by have := h.2.2.2.1; omega, fun y hy => by have := (h.2.2.2.2 y hy).2.2.1; omega⟩

def putEntry (e : TEntry) : List Int := if (0 ≤ e.N ∧ e.N ≤ 65535) ∧ boxOkP e.R then put2 [] e.N ++ [e.R.X0 % 256, e.R.Y0 % 256, e.R.X1 % 256, e.R.Y1 % 256] else []
theorem putEntry_len (e : TEntry) : (putEntry e).length ≤ 6 := by
  unfold putEntry
  split
  · have h := put2_len [] e.N
    simp only [List.length_append, List.length_cons, List.length_nil] at *
    omega
  · simp
theorem spec_putEntry_eq (e : TEntry) : spec_PutEntry e = some (putEntry e) := by
  have h2 := put2_len [] e.N
  simp only [List.length_nil] at h2
  have k1 : okLen (([] : List Int).length + 2) = true := rfl
  have k2 : okLen ((put2 [] e.N).length + 4) = true := okLen_iff.2 (by omega)
  simp only [spec_PutEntry, spec_in_eq, spec_boxOk_eq, some_bind, spec_put2_eq (x := e.N) k1, putEntry, u8w, List.length_cons, List.length_nil, Nat.zero_add, Nat.reduceAdd, k2, if_true]
  by_cases hA : 0 ≤ e.N ∧ e.N ≤ 65535 <;> by_cases hB : boxOkP e.R <;> simp [hA, hB]
theorem impl_putEntry_eq (e : TEntry) : impl_PutEntry e = some (putEntry e) := by
  have h2 := put2_len [] e.N
  simp only [List.length_nil] at h2
  have k1 : okLen (([] : List Int).length + 2) = true := rfl
  have k2 : okLen ((put2 [] e.N).length + 4) = true := okLen_iff.2 (by omega)
  simp only [impl_PutEntry, impl_in_eq, impl_boxOk_eq, some_bind, impl_put2_eq (x := e.N) k1, putEntry, u8w, List.length_cons, List.length_nil, Nat.zero_add, Nat.reduceAdd, k2, if_true]
  by_cases hA : 0 ≤ e.N ∧ e.N ≤ 65535 <;> by_cases hB : boxOkP e.R <;> simp [hA, hB]
def putNode (p : TNode) : List Int := if nodeOk p = true then pad ([if p.Leaf = true then ((p.L.length : Int) + 16) % 256 else (p.L.length : Int) % 256] ++ p.L.flatMap putEntry) 25 else []
theorem putNode_in {p : TNode} (h : nodeOk p = true) (x : Int) : ([x] ++ p.L.flatMap putEntry).length ≤ 25 := by
  have h1 := (nodeOk_facts h).1
  have h2 := fm_len (f := putEntry) (p := p.L) (B := 6) fun y _ => putEntry_len y
  simp only [List.length_append, List.length_cons, List.length_nil]; omega
theorem putNode_len (p : TNode) : (putNode p).length ≤ 25 := by
  unfold putNode
  split
  · rename_i h
    rw [pad_len (by have := putNode_in h (if p.Leaf = true then ((p.L.length : Int) + 16) % 256 else (p.L.length : Int) % 256); omega) (by omega)]; decide
  · simp
theorem putNode_trace {k : Nat} (hk : Big k) {p : TNode} (h : nodeOk p = true) {pe : TEntry → Option (List Int)} (hpe : ∀ e, pe e = some (putEntry e)) {b : (List Int × Int) → Option (Nx (List Int × Int) (List Int))} (x : Int)
    (hb : ∀ l i, b (l, i) = (if (decide (i < ((List.length p.L : Nat) : Int))) = true then (if (0 : Int) ≤ i ∧ i < ((List.length p.L : Nat) : Int) then ((pe (gt p.L i)).bind fun t => (if okLen (List.length l + List.length t) = true then some (.next ((l ++ t), (wrap64 (i + 1)))) else none)) else none) else some (.out (l, i)))) :
    loopM b k ([x], 0) = some (.out ([x] ++ p.L.flatMap putEntry, (p.L.length : Int))) := by
  have h4 := (nodeOk_facts h).1
  refine loop_app (f := putEntry) (p := p.L) (B := 6) (by omega) hk (fun y _ => putEntry_len y) ?_ ?_
  · intro i hi l hl
    have hp := putEntry_len p.L[i]
    simp only [List.length_cons, List.length_nil] at hl
    rw [hb, if_pos (by simp; omega), if_pos (by omega), hpe, some_bind, gt_nat hi, if_pos (okLen_iff.2 (by omega)), w64s (by omega)]
  · intro l
    rw [hb, if_neg (by simp)]
theorem spec_putNode_eq {k : Nat} (hk : Big k) {p : TNode} (hl : p.L.length ≤ 2097152) : spec_PutNode k p = some (putNode p) := by
  rw [spec_PutNode, spec_nodeOk_eq hk hl, some_bind, putNode]
  by_cases h : nodeOk p = true
  · have hin := putNode_in h
    rw [if_neg (by simp [h]), if_pos h]
    by_cases hL : p.Leaf = true
    · rw [if_pos hL, if_pos hL, putNode_trace hk h spec_putEntry_eq _ (fun l i => rfl)]
      simp only [some_bind]
      rw [spec_pad_eq hk (by have := hin (IntKind.u8.wrap (wrap64 (((List.length p.L : Nat) : Int) + 16))); omega), some_bind, u8w, w64 (by omega) (by omega)]
    · rw [if_neg hL, if_neg hL, putNode_trace hk h spec_putEntry_eq _ (fun l i => rfl)]
      simp only [some_bind]
      rw [spec_pad_eq hk (by have := hin (IntKind.u8.wrap (((List.length p.L : Nat) : Int))); omega), some_bind, u8w]
  · rw [if_pos (by simpa using h), if_neg h]
theorem impl_putNode_eq {k : Nat} (hk : Big k) {p : TNode} (hl : p.L.length ≤ 2097152) : impl_PutNode k p = some (putNode p) := by
  rw [impl_PutNode, impl_nodeOk_eq hk hl, some_bind, putNode]
  by_cases h : nodeOk p = true
  · have hin := putNode_in h
    rw [if_neg (by simp [h]), if_pos h]
    by_cases hL : p.Leaf = true
    · rw [if_pos hL, if_pos hL, putNode_trace hk h impl_putEntry_eq _ (fun l i => rfl)]
      simp only [some_bind]
      rw [impl_pad_eq hk (by have := hin (IntKind.u8.wrap (wrap64 (((List.length p.L : Nat) : Int) + 16))); omega), some_bind, u8w, w64 (by omega) (by omega)]
    · rw [if_neg hL, if_neg hL, putNode_trace hk h impl_putEntry_eq _ (fun l i => rfl)]
      simp only [some_bind]
      rw [impl_pad_eq hk (by have := hin (IntKind.u8.wrap (((List.length p.L : Nat) : Int))); omega), some_bind, u8w]
  · rw [if_pos (by simpa using h), if_neg h]

def putCell (e : Int) (x : TChange) : List Int := if (0 ≤ e ∧ e ≤ 65535) ∧ (0 ≤ x.Page ∧ x.Page ≤ 47) ∧ nodeOk x.N = true then (put2 [1] e ++ [x.Page % 256]) ++ putNode x.N else []
theorem putCell_len (e : Int) (x : TChange) : (putCell e x).length ≤ 29 := by
  have h1 := put2_len [1] e
  have h2 := putNode_len x.N
  unfold putCell
  split
  · simp only [List.length_append, List.length_cons, List.length_nil] at *; omega
  · simp
theorem spec_putCell_eq {k : Nat} (hk : Big k) {e : Int} {x : TChange} (hl : x.N.L.length ≤ 2097152) : spec_PutCell k e x = some (putCell e x) := by
  have h1 := put2_len [1] e
  have h2 := putNode_len x.N
  simp only [List.length_cons, List.length_nil] at h1
  rw [spec_PutCell]
  simp only [spec_in_eq, some_bind, spec_nodeOk_eq hk hl, spec_put2_eq (x := e) (l := [1]) rfl, spec_putNode_eq hk hl, u8w, putCell]
  rw [if_pos (c := okLen _ = true) (okLen_iff.2 (by simp; omega)), if_pos (c := okLen _ = true) (okLen_iff.2 (by simp; omega))]
  by_cases hA : 0 ≤ e ∧ e ≤ 65535 <;> by_cases hB : 0 ≤ x.Page ∧ x.Page ≤ 47 <;> cases hC : nodeOk x.N <;> simp [hA, hB]
theorem impl_putCell_eq {k : Nat} (hk : Big k) {e : Int} {x : TChange} (hl : x.N.L.length ≤ 2097152) : impl_PutCell k e x = some (putCell e x) := by
  have h1 := put2_len [1] e
  have h2 := putNode_len x.N
  simp only [List.length_cons, List.length_nil] at h1
  rw [impl_PutCell]
  simp only [impl_in_eq, some_bind, impl_nodeOk_eq hk hl, impl_put2_eq (x := e) (l := [1]) rfl, impl_putNode_eq hk hl, u8w, putCell]
  rw [if_pos (c := okLen _ = true) (okLen_iff.2 (by simp; omega)), if_pos (c := okLen _ = true) (okLen_iff.2 (by simp; omega))]
  by_cases hA : 0 ≤ e ∧ e ≤ 65535 <;> by_cases hB : 0 ≤ x.Page ∧ x.Page ≤ 47 <;> cases hC : nodeOk x.N <;> simp [hA, hB]

def txCells (e : Int) (t : TTx) : List (List Int) := if (0 ≤ e ∧ e ≤ 65535) ∧ txOk t = true then t.Puts.map (putCell e) ++ [endOf e t] else []
theorem txCells_mem {e : Int} {t : TTx} : ∀ c ∈ txCells e t, c.length ≤ 29 := by
  intro c hc
  unfold txCells at hc
  split at hc
  · simp only [List.mem_append, List.mem_map, List.mem_cons, List.not_mem_nil, or_false] at hc
    rcases hc with ⟨x, _, rfl⟩ | rfl
    · exact putCell_len e x
    · have := endOf_len e t; omega
  · simp at hc
theorem txCells_len (e : Int) (t : TTx) : (txCells e t).length ≤ t.Puts.length + 1 := by
  unfold txCells; split <;> simp
theorem spec_txCells_eq {k : Nat} (hk : Big k) {e : Int} {t : TTx} (h : smTx t) : spec_TxCells k e t = some (txCells e t) := by
  have hl := h.1
  have e1 := loop_app (b := spec_TxCells_b0 k e t) (k := k) (f := fun x : TChange => [putCell e x]) (p := t.Puts) (z := []) (B := 1) (by omega) hk (fun _ _ => Nat.le_refl _) (fun i hi l hl2 => by
      simp only [List.length_nil] at hl2
      have c1 : decide ((i : Int) < ((List.length t.Puts : Nat) : Int)) = true := by simp; omega
      have c2 : (0 : Int) ≤ (i : Int) ∧ (i : Int) < ((List.length t.Puts : Nat) : Int) := by omega
      have hn := h.2 _ (List.getElem_mem hi)
      simp only [spec_TxCells_b0, if_pos c1, if_pos c2, gt_nat hi, spec_putCell_eq hk hn, some_bind]
      rw [if_pos (okLen_iff.2 (by simp; omega)), w64s (by omega)])
    (fun l => by simp only [spec_TxCells_b0]; rw [if_neg (by simp)])
  rw [spec_TxCells, spec_in_eq, some_bind, spec_txOk_eq hk h, e1, spec_endOf_eq hk h]
  simp only [some_bind, fm_map, List.nil_append]
  rw [if_pos (c := okLen _ = true) (okLen_iff.2 (by simp; omega)), txCells]
  by_cases he : 0 ≤ e ∧ e ≤ 65535 <;> cases txOk t <;> simp [he]
theorem impl_txCells_eq {k : Nat} (hk : Big k) {e : Int} {t : TTx} (h : smTx t) : impl_TxCells k e t = some (txCells e t) := by
  have hl := h.1
  have e1 := loop_app (b := impl_TxCells_b0 k e t) (k := k) (f := fun x : TChange => [putCell e x]) (p := t.Puts) (z := []) (B := 1) (by omega) hk (fun _ _ => Nat.le_refl _) (fun i hi l hl2 => by
      simp only [List.length_nil] at hl2
      have c1 : decide ((i : Int) < ((List.length t.Puts : Nat) : Int)) = true := by simp; omega
      have c2 : (0 : Int) ≤ (i : Int) ∧ (i : Int) < ((List.length t.Puts : Nat) : Int) := by omega
      have hn := h.2 _ (List.getElem_mem hi)
      simp only [impl_TxCells_b0, if_pos c1, if_pos c2, gt_nat hi, impl_putCell_eq hk hn, some_bind]
      rw [if_pos (okLen_iff.2 (by simp; omega)), w64s (by omega)])
    (fun l => by simp only [impl_TxCells_b0]; rw [if_neg (by simp)])
  rw [impl_TxCells, impl_endOf_eq hk h, e1]
  simp only [some_bind, fm_map, List.nil_append]
  rw [if_pos (c := okLen _ = true) (okLen_iff.2 (by simp; omega)), txCells]
  by_cases hc : (0 ≤ e ∧ e ≤ 65535) ∧ txOk t = true
  · have : 3 ≤ (endOf e t).length := by rw [endOf, if_pos hc]; exact (endCell_len _ _ _).2
    rw [if_pos hc, if_neg (by simp; intro hh; rw [hh] at this; simp at this)]
  · have : endOf e t = [] := by rw [endOf, if_neg hc]
    rw [if_neg hc, if_pos (by simp [this])]

def dAt (d : TDisk) (s : Int) (cs : List (List Int)) : Nat → TDisk
  | 0 => d
  | i + 1 => writeD (dAt d s cs i) (2 + s + (i : Int)) (gt cs (i : Int))
theorem dAt_sm {M : Nat} {d : TDisk} (h : smD M d) {s : Int} {cs : List (List Int)} (hM : 32 ≤ M) : ∀ i, smD (M + i) (dAt d s cs i)
  | 0 => h
  | i + 1 => by rw [← Nat.add_assoc]; exact writeD_sm (dAt_sm h hM i) (by omega)
def appendD (d : TDisk) (s : Int) (e : Int) (t : TTx) : TDisk × Int := if (txCells e t).length = 0 ∨ s < 0 ∨ s > 64 - ((txCells e t).length : Int) then (d, -1) else (dAt d s (txCells e t) (txCells e t).length, s + ((txCells e t).length : Int))
theorem spec_appendD_eq {k : Nat} (hk : Big k) {d : TDisk} (hd : smD 1048576 d) {s : Int} {e : Int} {t : TTx} (h : smTx t) (hs : wfI s) : spec_Append k d s e t = some (appendD d s e t) := by
  have hl := txCells_len e t
  have hl2 := h.1
  rw [spec_Append, spec_copyDisk_eq hk hd (by omega), some_bind, spec_txCells_eq hk h, some_bind, appendD, w64 (n := 64 - ((List.length (txCells e t) : Nat) : Int)) (by omega) (by omega)]
  by_cases hc : (txCells e t).length = 0 ∨ s < 0 ∨ s > 64 - ((txCells e t).length : Int)
  · rw [if_pos hc, if_pos]
    rcases hc with hc | hc | hc
    · have : decide (((List.length (txCells e t) : Nat) : Int) = 0) = true := decide_eq_true (by omega)
      rw [this]; rfl
    · simp [hc]
    · simp [hc]
  · have e1 := loopM_run0 (b := spec_Append_b0 k s (txCells e t)) (k := k) (fun i => ((i : Int), (dAt d s (txCells e t) i).Cells, (dAt d s (txCells e t) i).Wet, (dAt d s (txCells e t) i).Fuse, (dAt d s (txCells e t) i).Dead)) (txCells e t).length
      (r := .out (((txCells e t).length : Int), (dAt d s (txCells e t) (txCells e t).length).Cells, (dAt d s (txCells e t) (txCells e t).length).Wet, (dAt d s (txCells e t) (txCells e t).length).Fuse, (dAt d s (txCells e t) (txCells e t).length).Dead)) (fun t h => by cases h)
      (fun j hj => by
        have c1 : decide ((j : Int) < ((List.length (txCells e t) : Nat) : Int)) = true := by simp; omega
        have c2 : (0 : Int) ≤ (j : Int) ∧ (j : Int) < ((List.length (txCells e t) : Nat) : Int) := by omega
        have hm := dAt_sm hd (s := s) (cs := txCells e t) (by omega) j
        have hb : (gt (txCells e t) (j : Int)).length ≤ 2097152 := by rw [gt_nat hj]; have := txCells_mem (e := e) (t := t) _ (List.getElem_mem hj); omega
        have e2 := spec_writeD_eq hk hm (s := 2 + s + (j : Int)) (by omega) hb
        have e3 : wrap64 (wrap64 (2 + s) + (j : Int)) = 2 + s + (j : Int) := by rw [w64 (n := 2 + s) (by omega) (by omega), w64 (by omega) (by omega)]
        have e4 : (⟨(dAt d s (txCells e t) j).Cells, (dAt d s (txCells e t) j).Wet, (dAt d s (txCells e t) j).Fuse, (dAt d s (txCells e t) j).Dead⟩ : TDisk) = dAt d s (txCells e t) j := rfl
        simp only [spec_Append_b0, if_pos c1, if_pos c2, e3, e4, e2, some_bind, w64s (n := j) (by omega), dAt])
      (by simp only [spec_Append_b0]; rw [if_neg (by simp)]) (by have : 9223372036854775808 ≤ k := hk; omega)
    rw [if_neg hc, if_neg]
    · have e1' : loopM (spec_Append_b0 k s (txCells e t)) k (0, d.Cells, d.Wet, d.Fuse, d.Dead) = _ := e1
      rw [e1', some_bind]
      simp only
      rw [w64 (by omega) (by omega)]
    · intro hh
      simp only [Bool.or_eq_true, decide_eq_true_eq] at hh
      omega
theorem impl_appendD_eq {k : Nat} (hk : Big k) {d : TDisk} (hd : smD 1048576 d) {s : Int} {e : Int} {t : TTx} (h : smTx t) (hs : wfI s) : impl_Append k d s e t = some (appendD d s e t) := by
  have hl := txCells_len e t
  have hl2 := h.1
  rw [impl_Append, impl_txCells_eq hk h, some_bind, impl_copyDisk_eq hk hd (by omega), some_bind, appendD, w64 (n := 64 - ((List.length (txCells e t) : Nat) : Int)) (by omega) (by omega)]
  by_cases hc : (txCells e t).length = 0 ∨ s < 0 ∨ s > 64 - ((txCells e t).length : Int)
  · rw [if_pos hc, if_pos]
    rcases hc with hc | hc | hc
    · have : decide (((List.length (txCells e t) : Nat) : Int) = 0) = true := decide_eq_true (by omega)
      rw [this]; rfl
    · simp [hc]
    · simp [hc]
  · have e1 := loopM_run0 (b := impl_Append_b0 k s (txCells e t)) (k := k) (fun i => ((i : Int), (dAt d s (txCells e t) i).Cells, (dAt d s (txCells e t) i).Wet, (dAt d s (txCells e t) i).Fuse, (dAt d s (txCells e t) i).Dead)) (txCells e t).length
      (r := .out (((txCells e t).length : Int), (dAt d s (txCells e t) (txCells e t).length).Cells, (dAt d s (txCells e t) (txCells e t).length).Wet, (dAt d s (txCells e t) (txCells e t).length).Fuse, (dAt d s (txCells e t) (txCells e t).length).Dead)) (fun t h => by cases h)
      (fun j hj => by
        have c1 : decide ((j : Int) < ((List.length (txCells e t) : Nat) : Int)) = true := by simp; omega
        have c2 : (0 : Int) ≤ (j : Int) ∧ (j : Int) < ((List.length (txCells e t) : Nat) : Int) := by omega
        have hm := dAt_sm hd (s := s) (cs := txCells e t) (by omega) j
        have hb : (gt (txCells e t) (j : Int)).length ≤ 2097152 := by rw [gt_nat hj]; have := txCells_mem (e := e) (t := t) _ (List.getElem_mem hj); omega
        have e2 := impl_writeD_eq hk hm (s := 2 + s + (j : Int)) (by omega) hb
        have e3 : wrap64 (wrap64 (2 + s) + (j : Int)) = 2 + s + (j : Int) := by rw [w64 (n := 2 + s) (by omega) (by omega), w64 (by omega) (by omega)]
        have e4 : (⟨(dAt d s (txCells e t) j).Cells, (dAt d s (txCells e t) j).Wet, (dAt d s (txCells e t) j).Fuse, (dAt d s (txCells e t) j).Dead⟩ : TDisk) = dAt d s (txCells e t) j := rfl
        simp only [impl_Append_b0, if_pos c1, if_pos c2, e3, e4, e2, some_bind, w64s (n := j) (by omega), dAt])
      (by simp only [impl_Append_b0]; rw [if_neg (by simp)]) (by have : 9223372036854775808 ≤ k := hk; omega)
    rw [if_neg hc, if_neg]
    · have e1' : loopM (impl_Append_b0 k s (txCells e t)) k (0, d.Cells, d.Wet, d.Fuse, d.Dead) = _ := e1
      rw [e1', some_bind]
      simp only
      rw [w64 (by omega) (by omega)]
    · intro hh
      simp only [Bool.or_eq_true, decide_eq_true_eq] at hh
      omega

theorem append_both {k : Nat} (hk : Big k) {d : TDisk} {s e : Int} {t : TTx} (h : smTDisk 1048576 d) (ht : smTTx 1048576 t) (w : wfTDisk d) (w1 : wfI s) (w2 : wfI e) (w3 : wfTTx t) : ∃ g, spec_Append k d s e t = some g ∧ impl_Append k d s e t = some g ∧ smTDisk 1114112 g.1 := by
  have hd := smD_of h
  have hs := smTx_of (by omega) ht
  refine ⟨_, spec_appendD_eq hk hd hs w1, impl_appendD_eq hk hd hs w1, ?_⟩
  unfold appendD
  split
  · exact smD_to (hd.mono (by omega))
  · rename_i hc
    exact smD_to ((dAt_sm hd (by omega) _).mono (by omega))
theorem laws_FnExactAppend_true {p0 : TDisk} {p1 : Int} {p2 : Int} {p3 : TTx} (h0 : wfTDisk p0) (h1 : wfI p1) (h2 : wfI p2) (h3 : wfTTx p3) : ∃ k, laws_FnExactAppend k p0 p1 p2 p3 = some true := by
  refine ⟨9223372036854775808, ?_⟩
  generalize hK : 9223372036854775808 = k
  have hk : Big k := by rw [Big, hK]; exact Nat.le_refl _
  clear hK
  have hN : (1048576 : Nat) ≤ 1114112 := by omega
  have hM : (1114112 : Nat) ≤ 1114112 := Nat.le_refl _
  rw [laws_FnExactAppend]
  obtain ⟨r0, e0, l0, g0, s0⟩ := sz_Disk hk p0 h0 (m := 1048576) (by omega) (by omega)
  rw [e0, Option.bind_some]
  by_cases z0 : r0 < 0
  · simp [z0]
  rw [if_neg (by simpa using z0)]
  have hs0 := s0 (by omega)
  obtain ⟨r3, e3, l3, g3, s3⟩ := sz_Tx hk p3 h3 (m := r0) (by omega) (by omega)
  rw [e3, Option.bind_some]
  by_cases z3 : r3 < 0
  · simp [z3]
  rw [if_neg (by simpa using z3)]
  have hs3 := s3 (by omega)
  obtain ⟨g, eS, eI, hg⟩ := append_both hk hs0 hs3 h0 h1 h2 h3
  have t0 := to_Disk hk hN p0 hs0
  have q0 := eq_Disk hk hN p0 p0 hs0
  have b0_0 := bd_CellS hN p0.Cells (hs0.1)
  have b0_1 := bd_WetS hN p0.Wet (hs0.2.1)
  have k0 := mark_Disk hk hN p0 hs0 (m := 1) (by omega) (by omega)
  have zp0 : ¬ (1 + (sumL cn_Cell p0.Cells : Int) + (sumL cn_Wet p0.Wet : Int) < 0) := by omega
  have t3 := to_Tx hk hN p3 hs3
  have q3 := eq_Tx hk hN p3 p3 hs3
  have b3_0 := bd_ChangeS hN p3.Puts (hs3.2.2.2)
  have k3 := mark_Tx hk hN p3 hs3 (m := 1 + (sumL cn_Cell p0.Cells : Nat) + (sumL cn_Wet p0.Wet : Nat)) (by omega) (by omega)
  have zp3 : ¬ (1 + (sumL cn_Cell p0.Cells : Int) + (sumL cn_Wet p0.Wet : Int) + (sumL cn_Change p3.Puts : Int) < 0) := by omega
  have qr0 := eq_Disk hk hM g.1 g.1 (hg)
  have br0_0 := bd_CellS hM g.1.Cells ((hg).1)
  have br0_1 := bd_WetS hM g.1.Wet ((hg).2.1)
  have kr0 := mark_Disk hk hM g.1 (hg) (m := 1) (by omega) (by omega)
  have hr0 := held_Disk hk hM g.1 (hg) (m := 1) (by omega) (by omega)
  have zr0 : ¬ (1 + (sumL cn_Cell g.1.Cells : Int) + (sumL cn_Wet g.1.Wet : Int) < 0) := by omega
  simp [eS, eI, t0, q0, k0, zp0, t3, q3, k3, zp3, qr0, kr0, hr0, zr0, markL_length]

end Go.Proofs.Sx
