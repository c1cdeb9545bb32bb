/- FnExactCrash: the plain law. -/
import Derived.Test.YtpdebdoecadikaaZX
import Derived.Test.YtpdebdoecadikaaLP
namespace Go.Proofs.Sx
open Go.RowKit
set_option maxRecDepth 20000
set_option linter.unusedVariables false
set_option linter.unusedSimpArgs false
theorem impl_in_eq (x a b : Int) : impl_in x a b = some (decide (a ≤ x ∧ x ≤ b)) := by simp [impl_in, Bool.decide_and]

theorem spec_in_eq (x a b : Int) : spec_l1In x a b = some (decide (a ≤ x ∧ x ≤ b)) := by simp [spec_l1In, Bool.decide_and, ge_iff_le]


def pad (l : List Int) (n : Int) : List Int := if n ≤ 64 then l ++ List.replicate (n.toNat - l.length) 0 else l
theorem pad_len {l : List Int} {n : Int} (h0 : (l.length : Int) ≤ n) (h : n ≤ 64) : (pad l n).length = n.toNat := by
  unfold pad; rw [if_pos h]; simp; omega
theorem pad_trace {ρ : Type} {b : List Int → Option (Nx (List Int) ρ)} {l : List Int} {n : Int} {k : Nat} (hk : Big k) (hn : n ≤ 64)
    (hb : ∀ m : List Int, (m.length : Int) < n → b m = some (.next (m ++ [0]))) (he : ∀ m : List Int, ¬ (m.length : Int) < n → b m = some (.out m)) :
    loopM b k l = some (.out (l ++ List.replicate (n.toNat - l.length) 0)) := by
  have key := loopM_run0 (b := b) (k := k) (fun j => l ++ List.replicate j (0 : Int)) (n.toNat - l.length) (r := .out (l ++ List.replicate (n.toNat - l.length) 0)) (fun t h => by cases h) ?_ ?_ (by have : 9223372036854775808 ≤ k := hk; omega)
  · simpa using key
  · intro j hj
    rw [hb _ (by simp; omega), List.replicate_succ', List.append_assoc]
  · exact he _ (by simp; omega)
def smD (M : Nat) (p : TDisk) : Prop := p.Cells.length ≤ M ∧ (∀ y ∈ p.Cells, y.B.length ≤ M) ∧ p.Wet.length ≤ M ∧ ∀ y ∈ p.Wet, y.B.length ≤ M
theorem smD.mono {M N : Nat} {p : TDisk} (h : smD M p) (hn : M ≤ N) : smD N p := ⟨Nat.le_trans h.1 hn, fun y hy => Nat.le_trans (h.2.1 y hy) hn, Nat.le_trans h.2.2.1 hn, fun y hy => Nat.le_trans (h.2.2.2 y hy) hn⟩
theorem spec_copyDisk_eq {k M : Nat} (hk : Big k) {p : TDisk} (h : smD M p) (hM : M ≤ 2097152) : spec_l18Copy k p = some p := by
  obtain ⟨h1, h2, h3, h4⟩ := h
  have e := loop_app2 (b := spec_l18Copy_b0 p) (k := k) (f := fun x : TCell => [x]) (p := p.Cells) (z := []) (B := 1) (by omega) hk (fun _ _ => Nat.le_refl _) (fun i hi l hl2 => by
      simp only [List.length_nil] at hl2
      have c1 : decide ((i : Int) < ((List.length p.Cells : Nat) : Int)) = true := by simp; omega
      have c2 : (0 : Int) ≤ (i : Int) ∧ (i : Int) < ((List.length p.Cells : Nat) : Int) := by omega
      have hn := h2 _ (List.getElem_mem hi)
      simp only [spec_l18Copy_b0, if_pos c1, if_pos c2, gt_nat hi, List.nil_append]
      rw [if_pos (okLen_iff.2 (by simp; omega)), if_pos (okLen_iff.2 (by simp; omega)), w64s (by omega)])
    (fun l => by simp only [spec_l18Copy_b0]; rw [if_neg (by simp)])
  have e2 := loop_app2 (b := spec_l18Copy_b1 p) (k := k) (f := fun x : TWet => [x]) (p := p.Wet) (z := []) (B := 1) (by omega) hk (fun _ _ => Nat.le_refl _) (fun i hi l hl2 => by
      simp only [List.length_nil] at hl2
      have c1 : decide ((i : Int) < ((List.length p.Wet : Nat) : Int)) = true := by simp; omega
      have c2 : (0 : Int) ≤ (i : Int) ∧ (i : Int) < ((List.length p.Wet : Nat) : Int) := by omega
      have hn := h4 _ (List.getElem_mem hi)
      simp only [spec_l18Copy_b1, if_pos c1, if_pos c2, gt_nat hi, List.nil_append]
      rw [if_pos (okLen_iff.2 (by simp; omega)), if_pos (okLen_iff.2 (by simp; omega)), w64s (by omega)])
    (fun l => by simp only [spec_l18Copy_b1]; rw [if_neg (by simp)])
  rw [spec_l18Copy, e, some_bind]
  simp only
  rw [e2, some_bind]
  simp only [List.nil_append, fm_single]
theorem impl_copyDisk_eq {k M : Nat} (hk : Big k) {p : TDisk} (h : smD M p) (hM : M ≤ 2097152) : impl_copyDisk k p = some p := by
  obtain ⟨h1, h2, h3, h4⟩ := h
  have e := loop_app2 (b := impl_copyDisk_b0 p) (k := k) (f := fun x : TCell => [x]) (p := p.Cells) (z := []) (B := 1) (by omega) hk (fun _ _ => Nat.le_refl _) (fun i hi l hl2 => by
      simp only [List.length_nil] at hl2
      have c1 : decide ((i : Int) < ((List.length p.Cells : Nat) : Int)) = true := by simp; omega
      have c2 : (0 : Int) ≤ (i : Int) ∧ (i : Int) < ((List.length p.Cells : Nat) : Int) := by omega
      have hn := h2 _ (List.getElem_mem hi)
      simp only [impl_copyDisk_b0, if_pos c1, if_pos c2, gt_nat hi, slices_Clone_byte_byte]
      rw [if_pos (okLen_iff.2 (by omega)), some_bind, if_pos (okLen_iff.2 (by simp; omega)), w64s (by omega)])
    (fun l => by simp only [impl_copyDisk_b0]; rw [if_neg (by simp)])
  have e2 := loop_app2 (b := impl_copyDisk_b1 p) (k := k) (f := fun x : TWet => [x]) (p := p.Wet) (z := []) (B := 1) (by omega) hk (fun _ _ => Nat.le_refl _) (fun i hi l hl2 => by
      simp only [List.length_nil] at hl2
      have c1 : decide ((i : Int) < ((List.length p.Wet : Nat) : Int)) = true := by simp; omega
      have c2 : (0 : Int) ≤ (i : Int) ∧ (i : Int) < ((List.length p.Wet : Nat) : Int) := by omega
      have hn := h4 _ (List.getElem_mem hi)
      simp only [impl_copyDisk_b1, if_pos c1, if_pos c2, gt_nat hi, slices_Clone_byte_byte]
      rw [if_pos (okLen_iff.2 (by omega)), some_bind, if_pos (okLen_iff.2 (by simp; omega)), w64s (by omega)])
    (fun l => by simp only [impl_copyDisk_b1]; rw [if_neg (by simp)])
  rw [impl_copyDisk, e, some_bind]
  simp only
  rw [e2, some_bind]
  simp only [List.nil_append, fm_single]
def burn (p : TDisk) : Bool × TDisk := if p.Dead = true then (false, p) else if p.Fuse = 0 then (false, ⟨p.Cells, p.Wet, p.Fuse, true⟩) else if p.Fuse > 0 then (true, ⟨p.Cells, p.Wet, wrap64 (p.Fuse - 1), p.Dead⟩) else (true, p)
def writeD (p : TDisk) (s : Int) (b : List Int) : TDisk := if (burn p).1 = true ∧ (0 ≤ s ∧ s ≤ 113) ∧ b.length ≤ 32 then ⟨p.Cells, p.Wet ++ [⟨s, pad b 32⟩], (burn p).2.Fuse, (burn p).2.Dead⟩ else ⟨p.Cells, p.Wet, (burn p).2.Fuse, (burn p).2.Dead⟩
theorem writeD_sm {M : Nat} {p : TDisk} (h : smD M p) {s : Int} {b : List Int} (hM : 32 ≤ M) : smD (M + 1) (writeD p s b) := by
  obtain ⟨h1, h2, h3, h4⟩ := h
  unfold writeD
  split
  · rename_i hc
    refine ⟨by simp only; omega, fun y hy => by have := h2 y hy; omega, by simp only [List.length_append, List.length_cons, List.length_nil]; omega, fun y hy => ?_⟩
    simp only [List.mem_append, List.mem_cons, List.not_mem_nil, or_false] at hy
    rcases hy with hy | rfl
    · have := h4 y hy; omega
    · have := pad_len (l := b) (n := 32) (by omega) (by omega); simp only [this]; omega
  · exact ⟨by simp only; omega, fun y hy => by have := h2 y hy; omega, by simp only; omega, fun y hy => by have := h4 y hy; omega⟩
theorem smD_of {N : Nat} {p : TDisk} (h : smTDisk N p) : smD N p := ⟨h.1.1, fun y hy => (h.1.2 y hy).2.1, h.2.1.1, fun y hy => (h.2.1.2 y hy).2.1⟩
theorem smD_to {N : Nat} {p : TDisk} (h : smD N p) : smTDisk N p := ⟨⟨h.1, fun y hy => ⟨trivial, h.2.1 y hy, fun _ _ => trivial⟩⟩, ⟨h.2.2.1, fun y hy => ⟨trivial, h.2.2.2 y hy, fun _ _ => trivial⟩⟩, trivial, trivial⟩

def noCell : TCell := ⟨false, []⟩
def growC (l : List TCell) (s : Int) : List TCell := l ++ List.replicate (s.toNat + 1 - l.length) noCell
def storeC (l : List TCell) (s : Int) (c : TCell) : List TCell := if 0 ≤ s ∧ s ≤ 113 then (growC l s).set s.toNat c else l
theorem growC_len (l : List TCell) (s : Int) : (growC l s).length = max l.length (s.toNat + 1) := by simp [growC]; omega
theorem growC_mem {l : List TCell} {s : Int} : ∀ y ∈ growC l s, y ∈ l ∨ y = noCell := by
  intro y hy
  rcases List.mem_append.1 hy with h | h
  · exact .inl h
  · exact .inr (List.eq_of_mem_replicate h)
theorem storeC_len (l : List TCell) (s : Int) (c : TCell) : (storeC l s c).length ≤ max l.length 114 := by
  unfold storeC
  split
  · rw [List.length_set, growC_len]; omega
  · omega
theorem storeC_mem {l : List TCell} {s : Int} {c : TCell} : ∀ y ∈ storeC l s c, y ∈ l ∨ y = noCell ∨ y = c := by
  intro y hy
  unfold storeC at hy
  split at hy
  · rcases List.mem_or_eq_of_mem_set hy with h | h
    · rcases growC_mem y h with h | h
      · exact .inl h
      · exact .inr (.inl h)
    · exact .inr (.inr h)
  · exact .inl hy
theorem room_trace {ρ : Type} {b : List TCell → Option (Nx (List TCell) ρ)} {l : List TCell} {s : Int} {k : Nat} (hk : Big k) (hs : 0 ≤ s ∧ s ≤ 113) (hl : l.length ≤ 2097152)
    (hb : ∀ m : List TCell, b m = (if (decide (((List.length m : Nat) : Int) ≤ s)) = true then (if okLen (List.length m + List.length ([(⟨false, ([] : (List Int))⟩ : TCell)] : (List TCell))) = true then some (.next (m ++ ([(⟨false, ([] : (List Int))⟩ : TCell)] : (List TCell)))) else none) else some (.out m))) :
    loopM b k l = some (.out (growC l s)) := by
  have key := loopM_run0 (b := b) (k := k) (fun j => l ++ List.replicate j noCell) (s.toNat + 1 - l.length) (r := .out (growC l s)) (fun t h => by cases h) ?_ ?_ (by have : 9223372036854775808 ≤ k := hk; omega)
  · simpa using key
  · intro j hj
    rw [hb, if_pos (by simp; omega), if_pos (okLen_iff.2 (by simp; omega)), List.replicate_succ', List.append_assoc]; rfl
  · rw [hb, if_neg (by simp; omega)]; rfl
theorem spec_room_eq {k : Nat} (hk : Big k) {p : TDisk} {s : Int} (hs : 0 ≤ s ∧ s ≤ 113) (hl : p.Cells.length ≤ 2097152) : spec_l18Room k p s = some ⟨growC p.Cells s, p.Wet, p.Fuse, p.Dead⟩ := by
  rw [spec_l18Room, room_trace (b := spec_l18Room_b0 s) hk hs hl (fun _ => rfl)]; rfl
theorem impl_store_eq {k : Nat} (hk : Big k) {p : TDisk} {s : Int} {c : TCell} (hl : p.Cells.length ≤ 2097152) : impl_Disk_store k p s c = some ⟨storeC p.Cells s c, p.Wet, p.Fuse, p.Dead⟩ := by
  rw [impl_Disk_store, impl_in_eq, some_bind, storeC]
  by_cases hs : 0 ≤ s ∧ s ≤ 113
  · rw [if_neg (by simp [hs]), room_trace (b := impl_Disk_store_b0 s) hk hs hl (fun _ => rfl), some_bind, if_pos hs]
    simp only
    rw [if_pos (by rw [growC_len]; omega)]; rfl
  · rw [if_pos (by simp [hs]), if_neg hs]
def flushC (l : List TCell) (ws : List TWet) : List TCell := ws.foldl (fun l w => storeC l w.At ⟨false, w.B⟩) l
theorem flushC_len (ws : List TWet) : ∀ l : List TCell, (flushC l ws).length ≤ max l.length 114 := by
  induction ws with
  | nil => intro l; simp [flushC]; omega
  | cons w ws ih =>
    intro l
    have h1 := ih (storeC l w.At ⟨false, w.B⟩)
    have h2 := storeC_len l w.At ⟨false, w.B⟩
    simp only [flushC, List.foldl_cons] at *
    omega
theorem flushC_mem (ws : List TWet) : ∀ l : List TCell, ∀ y ∈ flushC l ws, y ∈ l ∨ y = noCell ∨ ∃ w ∈ ws, y = ⟨false, w.B⟩ := by
  induction ws with
  | nil => intro l y hy; exact .inl hy
  | cons w ws ih =>
    intro l y hy
    have hy' : y ∈ flushC (storeC l w.At ⟨false, w.B⟩) ws := hy
    rcases ih _ y hy' with h | h | ⟨v, hv, h⟩
    · rcases storeC_mem y h with h | h | h
      · exact .inl h
      · exact .inr (.inl h)
      · exact .inr (.inr ⟨w, List.mem_cons_self .., h⟩)
    · exact .inr (.inl h)
    · exact .inr (.inr ⟨v, List.mem_cons_of_mem _ hv, h⟩)
theorem flushC_succ {l : List TCell} {ws : List TWet} {i : Nat} (h : i < ws.length) : flushC l (ws.take (i + 1)) = storeC (flushC l (ws.take i)) ws[i].At ⟨false, ws[i].B⟩ := by
  rw [List.take_add_one, List.getElem?_eq_getElem h, Option.toList_some, flushC, List.foldl_append]; rfl
def flushD (p : TDisk) : TDisk := if (burn p).1 = true then ⟨flushC p.Cells p.Wet, [], (burn p).2.Fuse, (burn p).2.Dead⟩ else ⟨p.Cells, p.Wet, (burn p).2.Fuse, (burn p).2.Dead⟩
theorem flushD_sm {M : Nat} {p : TDisk} (h : smD M p) (hM : 114 ≤ M) : smD M (flushD p) := by
  obtain ⟨h1, h2, h3, h4⟩ := h
  unfold flushD
  split
  · refine ⟨by have := flushC_len p.Wet p.Cells; simp only; omega, fun y hy => ?_, by simp, by simp⟩
    rcases flushC_mem p.Wet p.Cells y hy with h | rfl | ⟨w, hw, rfl⟩
    · exact h2 y h
    · simp [noCell]
    · exact h4 w hw
  · exact ⟨h1, h2, h3, h4⟩
def crash1 (l : List TCell) (x : TWet × Int) : List TCell := if x.2 = 1 then storeC l x.1.At ⟨false, x.1.B⟩ else if x.2 = 2 then storeC l x.1.At ⟨true, []⟩ else l
def crashC (l : List TCell) (xs : List (TWet × Int)) : List TCell := xs.foldl crash1 l
theorem crash1_len (l : List TCell) (x : TWet × Int) : (crash1 l x).length ≤ max l.length 114 := by
  unfold crash1
  split
  · exact storeC_len _ _ _
  · split
    · exact storeC_len _ _ _
    · omega
theorem crash1_mem {l : List TCell} {x : TWet × Int} : ∀ y ∈ crash1 l x, y ∈ l ∨ y = noCell ∨ y = ⟨true, []⟩ ∨ y = ⟨false, x.1.B⟩ := by
  intro y hy
  unfold crash1 at hy
  split at hy
  · rcases storeC_mem y hy with h | h | h
    · exact .inl h
    · exact .inr (.inl h)
    · exact .inr (.inr (.inr h))
  · split at hy
    · rcases storeC_mem y hy with h | h | h
      · exact .inl h
      · exact .inr (.inl h)
      · exact .inr (.inr (.inl h))
    · exact .inl hy
theorem crashC_len (xs : List (TWet × Int)) : ∀ l : List TCell, (crashC l xs).length ≤ max l.length 114 := by
  induction xs with
  | nil => intro l; simp [crashC]; omega
  | cons w ws ih =>
    intro l
    have h1 := ih (crash1 l w)
    have h2 := crash1_len l w
    simp only [crashC, List.foldl_cons] at *
    omega
theorem crashC_mem (xs : List (TWet × Int)) : ∀ l : List TCell, ∀ y ∈ crashC l xs, y ∈ l ∨ y = noCell ∨ y = ⟨true, []⟩ ∨ ∃ x ∈ xs, y = ⟨false, x.1.B⟩ := by
  induction xs with
  | nil => intro l y hy; exact .inl hy
  | cons w ws ih =>
    intro l y hy
    have hy' : y ∈ crashC (crash1 l w) ws := hy
    rcases ih _ y hy' with h | h | h | ⟨v, hv, h⟩
    · rcases crash1_mem y h with h | h | h | h
      · exact .inl h
      · exact .inr (.inl h)
      · exact .inr (.inr (.inl h))
      · exact .inr (.inr (.inr ⟨w, List.mem_cons_self .., h⟩))
    · exact .inr (.inl h)
    · exact .inr (.inr (.inl h))
    · exact .inr (.inr (.inr ⟨v, List.mem_cons_of_mem _ hv, h⟩))
theorem crashC_succ {l : List TCell} {ws : List TWet} {hw : List Int} {i : Nat} (h : i < ws.length) (h2 : i < hw.length) : crashC l ((ws.zip hw).take (i + 1)) = crash1 (crashC l ((ws.zip hw).take i)) (ws[i], hw[i]) := by
  have h3 : i < (ws.zip hw).length := by simp; omega
  rw [List.take_add_one, List.getElem?_eq_getElem h3, Option.toList_some, crashC, List.foldl_append, List.getElem_zip]; rfl
def crashD (p : TDisk) (hw : List Int) (f : Int) : TDisk := ⟨crashC p.Cells (p.Wet.zip hw), [], if f < -1 then -1 else f, false⟩
theorem crashD_sm {M : Nat} {p : TDisk} {hw : List Int} {f : Int} (h : smD M p) (hM : 114 ≤ M) : smD M (crashD p hw f) := by
  obtain ⟨h1, h2, h3, h4⟩ := h
  refine ⟨by have := crashC_len (p.Wet.zip hw) p.Cells; simp only [crashD]; omega, fun y hy => ?_, by simp [crashD], by simp [crashD]⟩
  rcases crashC_mem (p.Wet.zip hw) p.Cells y hy with h | rfl | rfl | ⟨w, hw, rfl⟩
  · exact h2 y h
  · simp [noCell]
  · simp
  · exact h4 w.1 (List.of_mem_zip hw).1
theorem spec_crashD_eq {k M : Nat} (hk : Big k) {p : TDisk} {hw : List Int} {f : Int} (h : smD M p) (hM : M ≤ 2097000) (hl : hw.length ≤ 2097152) : spec_Crash k p hw f = some (crashD p hw f) := by
  obtain ⟨h1, h2, h3, h4⟩ := h
  rw [spec_Crash, spec_copyDisk_eq hk ⟨h1, h2, h3, h4⟩ (by omega), some_bind, crashD]
  obtain ⟨o, e, hQ⟩ := loopM_ends (b := spec_Crash_b0 k hw p) (fun s => ∃ i : Nat, i ≤ p.Wet.length ∧ i ≤ hw.length ∧ s.1 = (i : Int) ∧ s.2.1 = crashC p.Cells ((p.Wet.zip hw).take i) ∧ s.2.2.2.2 ≤ (i : Int)) (fun s => p.Wet.length - s.1.toNat)
      (fun o => ∃ s, o = .out s ∧ s.2.1 = crashC p.Cells (p.Wet.zip hw)) (fun s hs => by
        obtain ⟨j, c, ff, dd, r⟩ := s
        obtain ⟨i, hi, hi2, rfl, rfl, hr⟩ := hs
        simp only at hr
        simp only [spec_Crash_b0]
        by_cases hlt : i < p.Wet.length ∧ i < hw.length
        · obtain ⟨hlt, hlt2⟩ := hlt
          have hcl := crashC_len ((p.Wet.zip hw).take i) p.Cells
          have hmu : p.Wet.length - (((i + 1 : Nat) : Int)).toNat < p.Wet.length - ((i : Int)).toNat := by omega
          rw [if_pos (by simp; omega), if_pos (by omega), if_pos hr, gt_nat hlt, spec_in_eq, some_bind, w64s (n := i) (by omega), gt_nat hlt2]
          have c3 : (0 : Int) ≤ (i : Int) ∧ (i : Int) < ((List.length hw : Nat) : Int) := by omega
          simp only [if_pos c3]
          by_cases hs : 0 ≤ p.Wet[i].At ∧ p.Wet[i].At ≤ 113
          · rw [if_neg (by simpa using hs)]
            by_cases e1 : hw[i] = 1
            · rw [if_pos (by simpa using e1), spec_room_eq hk hs (by simp only; omega), some_bind, if_pos (by omega), if_pos hr]
              simp only
              rw [if_pos (by rw [growC_len]; omega)]
              refine ⟨_, rfl, ⟨i + 1, hlt, hlt2, rfl, ?_, by simp only; omega⟩, hmu⟩
              simp only
              rw [crashC_succ hlt hlt2, crash1, if_pos e1, storeC, if_pos hs]
            · rw [if_neg (by simpa using e1)]
              by_cases e2 : hw[i] = 2
              · rw [if_pos (by simpa using e2), spec_room_eq hk hs (by simp only; omega), some_bind]
                simp only
                rw [if_pos (by rw [growC_len]; omega)]
                refine ⟨_, rfl, ⟨i + 1, hlt, hlt2, rfl, ?_, by simp only; omega⟩, hmu⟩
                simp only
                rw [crashC_succ hlt hlt2, crash1, if_neg e1, if_pos e2, storeC, if_pos hs]
              · rw [if_neg (by simpa using e2)]
                refine ⟨_, rfl, ⟨i + 1, hlt, hlt2, rfl, ?_, by simp only; omega⟩, hmu⟩
                simp only
                rw [crashC_succ hlt hlt2, crash1, if_neg e1, if_neg e2]
          · rw [if_pos (by simp [hs])]
            refine ⟨_, rfl, ⟨i + 1, hlt, hlt2, rfl, ?_, by simp only; omega⟩, hmu⟩
            simp only
            rw [crashC_succ hlt hlt2, crash1, storeC, storeC, if_neg hs, if_neg hs]
            split
            · rfl
            · split <;> rfl
        · rw [if_neg (by simp; omega)]
          exact ⟨_, rfl, _, rfl, by simp only; rw [List.take_of_length_le (by simp; omega)]⟩)
      k (0, p.Cells, p.Fuse, p.Dead, 0) ⟨0, Nat.zero_le _, Nat.zero_le _, rfl, rfl, Int.le_refl _⟩ (by have : 9223372036854775808 ≤ k := hk; simp; omega)
  obtain ⟨s, rfl, q1⟩ := hQ
  obtain ⟨j, c, ff, dd, r⟩ := s
  simp only at q1
  rw [e, some_bind, q1, spec_Most]
  by_cases hf : f < -1
  · rw [if_pos hf, if_neg (by simp; omega)]; rfl
  · rw [if_neg hf]
    by_cases hf2 : f > -1
    · rw [if_pos (by simpa using hf2)]; rfl
    · rw [if_neg (by simpa using hf2)]
      have : f = -1 := by omega
      subst this; rfl
theorem impl_crashD_eq {k M : Nat} (hk : Big k) {p : TDisk} {hw : List Int} {f : Int} (h : smD M p) (hM : M ≤ 2097000) (hl : hw.length ≤ 2097152) : impl_Crash k p hw f = some (crashD p hw f) := by
  obtain ⟨h1, h2, h3, h4⟩ := h
  rw [impl_Crash, impl_copyDisk_eq hk ⟨h1, h2, h3, h4⟩ (by omega), some_bind, crashD]
  obtain ⟨o, e, hQ⟩ := loopM_ends (b := impl_Crash_b0 k hw p) (fun s => ∃ i : Nat, i ≤ p.Wet.length ∧ i ≤ hw.length ∧ s.2.1 = (i : Int) ∧ s.2.2.1 = crashC p.Cells ((p.Wet.zip hw).take i) ∧ s.1 ≤ (i : Int)) (fun s => p.Wet.length - s.2.1.toNat)
      (fun o => ∃ s, o = .out s ∧ s.2.2.1 = crashC p.Cells (p.Wet.zip hw)) (fun s hs => by
        obtain ⟨r, j, c, ff, dd⟩ := s
        obtain ⟨i, hi, hi2, rfl, rfl, hr⟩ := hs
        simp only at hr
        simp only [impl_Crash_b0]
        by_cases hlt : i < p.Wet.length
        · have hcl := crashC_len ((p.Wet.zip hw).take i) p.Cells
          have hmu : p.Wet.length - (((i + 1 : Nat) : Int)).toNat < p.Wet.length - ((i : Int)).toNat := by omega
          rw [if_pos (by simp; omega), if_pos (by omega), if_pos hr, gt_nat hlt, w64s (n := i) (by omega)]
          by_cases hlt2 : i < hw.length
          · rw [if_neg (by simp; omega), if_pos (by omega), gt_nat hlt2]
            by_cases e1 : hw[i] = 1
            · rw [if_pos (by simpa using e1), impl_store_eq hk (by simp only; omega), some_bind]
              refine ⟨_, rfl, ⟨i + 1, hlt, hlt2, rfl, ?_, by simp only; omega⟩, hmu⟩
              simp only
              rw [crashC_succ hlt hlt2, crash1, if_pos e1]
            · rw [if_neg (by simpa using e1)]
              by_cases e2 : hw[i] = 2
              · rw [if_pos (by simpa using e2), impl_store_eq hk (by simp only; omega), some_bind]
                refine ⟨_, rfl, ⟨i + 1, hlt, hlt2, rfl, ?_, by simp only; omega⟩, hmu⟩
                simp only
                rw [crashC_succ hlt hlt2, crash1, if_neg e1, if_pos e2]
              · rw [if_neg (by simpa using e2)]
                refine ⟨_, rfl, ⟨i + 1, hlt, hlt2, rfl, ?_, by simp only; omega⟩, hmu⟩
                simp only
                rw [crashC_succ hlt hlt2, crash1, if_neg e1, if_neg e2]
          · rw [if_pos (by simp; omega)]
            exact ⟨_, rfl, _, rfl, by simp only; rw [List.take_of_length_le (by simp; omega)]⟩
        · rw [if_neg (by simp; omega)]
          exact ⟨_, rfl, _, rfl, by simp only; rw [List.take_of_length_le (by simp; omega)]⟩)
      k (0, 0, p.Cells, p.Fuse, p.Dead) ⟨0, Nat.zero_le _, Nat.zero_le _, rfl, rfl, Int.le_refl _⟩ (by have : 9223372036854775808 ≤ k := hk; simp; omega)
  obtain ⟨s, rfl, q1⟩ := hQ
  obtain ⟨r, j, c, ff, dd⟩ := s
  simp only at q1
  rw [e, some_bind, q1]

theorem crash_both {k : Nat} (hk : Big k) {p : TDisk} {hw : List Int} {f : Int} (h : smTDisk 1048576 p) (hl : smL 1048576 (smT 1048576) hw) (w : wfTDisk p) (w1 : wfL wfI hw) (w2 : wfI f) : ∃ g, spec_Crash k p hw f = some g ∧ impl_Crash k p hw f = some g ∧ smTDisk 1114112 g := by
  have hs := smD_of h
  have := hl.1
  exact ⟨_, spec_crashD_eq hk hs (by omega) (by omega), impl_crashD_eq hk hs (by omega) (by omega), smD_to ((crashD_sm hs (by omega)).mono (by omega))⟩
theorem laws_FnExactCrash_true {p0 : TDisk} {p1 : (List Int)} {p2 : Int} (h0 : wfTDisk p0) (h1 : (wfL wfI) p1) (h2 : wfI p2) : ∃ k, laws_FnExactCrash k p0 p1 p2 = some true := by
  refine ⟨9223372036854775808, ?_⟩
  generalize hK : 9223372036854775808 = k
  have hk : Big k := by rw [Big, hK]; exact Nat.le_refl _
  clear hK
  have hN : (1048576 : Nat) ≤ 1114112 := by omega
  have hM : (1114112 : Nat) ≤ 1114112 := Nat.le_refl _
  rw [laws_FnExactCrash]
  by_cases z1 : ((List.length p1 : Nat) : Int) > 1048576
  · simp [z1]
  rw [if_neg (by simpa using z1)]
  have hs1 : (smL 1048576 (smT 1048576)) p1 := ⟨by omega, fun _ _ => trivial⟩
  obtain ⟨r0, e0, l0, g0, s0⟩ := sz_Disk hk p0 h0 (m := 1048576) (by omega) (by omega)
  rw [e0, Option.bind_some]
  by_cases z0 : r0 < 0
  · simp [z0]
  rw [if_neg (by simpa using z0)]
  have hs0 := s0 (by omega)
  obtain ⟨g, eS, eI, hg⟩ := crash_both hk hs0 hs1 h0 h1 h2
  have t0 := to_Disk hk hN p0 hs0
  have q0 := eq_Disk hk hN p0 p0 hs0
  have b0_0 := bd_CellS hN p0.Cells (hs0.1)
  have b0_1 := bd_WetS hN p0.Wet (hs0.2.1)
  have k0 := mark_Disk hk hN p0 hs0 (m := 1) (by omega) (by omega)
  have zp0 : ¬ (1 + (sumL cn_Cell p0.Cells : Int) + (sumL cn_Wet p0.Wet : Int) < 0) := by omega
  have t1 := to_IntS hk hN p1 hs1
  have q1 := eq_IntS hk hN p1 p1 hs1
  have b1_0 := bd_IntS hN p1 (hs1)
  have k1 := mark_IntS hk hN p1 hs1 (m := 1 + (sumL cn_Cell p0.Cells : Nat) + (sumL cn_Wet p0.Wet : Nat)) (by omega) (by omega)
  have zp1 : ¬ (1 + (sumL cn_Cell p0.Cells : Int) + (sumL cn_Wet p0.Wet : Int) + (sumL cn_Int p1 : Int) < 0) := by omega
  have qr0 := eq_Disk hk hM g g (hg)
  have br0_0 := bd_CellS hM g.Cells ((hg).1)
  have br0_1 := bd_WetS hM g.Wet ((hg).2.1)
  have kr0 := mark_Disk hk hM g (hg) (m := 1) (by omega) (by omega)
  have hr0 := held_Disk hk hM g (hg) (m := 1) (by omega) (by omega)
  have zr0 : ¬ (1 + (sumL cn_Cell g.Cells : Int) + (sumL cn_Wet g.Wet : Int) < 0) := by omega
  simp [eS, eI, t0, q0, k0, zp0, t1, q1, k1, zp1, qr0, kr0, hr0, zr0, markL_length]

end Go.Proofs.Sx
