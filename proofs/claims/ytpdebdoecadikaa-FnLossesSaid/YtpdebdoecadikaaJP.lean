/- FnLosses: the plain law. -/
import Derived.Test.YtpdebdoecadikaaJX
import Derived.Test.YtpdebdoecadikaaLP
namespace Go.Proofs.Sx
open Go.RowKit
set_option maxRecDepth 20000
set_option linter.unusedVariables false
set_option linter.unusedSimpArgs false
def okI (b : List Int) (i : Int) : Prop := 0 ≤ i ∧ i ≤ (b.length : Int)
theorem and255 (x : Int) : 0 ≤ bits2 (· &&& ·) x 255 ∧ bits2 (· &&& ·) x 255 ≤ 255 := by
  show 0 ≤ wrap64 ((BitVec.ofInt 64 x &&& BitVec.ofInt 64 255).toNat : Int) ∧ wrap64 ((BitVec.ofInt 64 x &&& BitVec.ofInt 64 255).toNat : Int) ≤ 255
  have h : (BitVec.ofInt 64 x &&& BitVec.ofInt 64 255).toNat ≤ 255 := by
    rw [BitVec.toNat_and]
    exact Nat.and_le_right
  rw [w64 (by omega) (by omega)]; omega
theorem byte_ok {b : List Int} {i h : Int} (hi : okI b i) (hl : b.length ≤ 1048576) : ∃ v i' h', spec_l1Byte ⟨b, i, h⟩ = some (v, ⟨b, i', h'⟩) ∧ okI b i' ∧ 0 ≤ v ∧ v ≤ 255 := by
  obtain ⟨h0, h1⟩ := hi
  rw [spec_l1Byte]
  by_cases hc : i < ((List.length b : Nat) : Int)
  · rw [if_pos (by simpa using hc), if_pos ⟨h0, hc⟩]
    exact ⟨_, _, _, rfl, by simp only [okI]; rw [w64 (by omega) (by omega)]; omega, and255 _⟩
  · rw [if_neg (by simpa using hc)]
    exact ⟨_, _, _, rfl, ⟨h0, h1⟩, and255 _⟩
theorem below_ok {b : List Int} {i h : Int} (hi : okI b i) (hl : b.length ≤ 1048576) (n : Int) : ∃ v i' h', spec_l1Below ⟨b, i, h⟩ n = some (v, ⟨b, i', h'⟩) ∧ okI b i' ∧ 0 ≤ v ∧ (0 < n → v < n) ∧ (n ≤ 0 → v = 0) := by
  rw [spec_l1Below]
  by_cases h0 : n ≤ 0
  · rw [if_pos (by simpa using h0)]
    exact ⟨_, _, _, rfl, hi, Int.le_refl _, fun h => by omega, fun _ => rfl⟩
  · rw [if_neg (by simpa using h0)]
    by_cases h256 : n ≤ 256
    · obtain ⟨v, i1, h1, e1, o1, v0, v1⟩ := byte_ok (h := h) hi hl
      rw [if_pos (by simpa using h256), e1, some_bind, if_pos (by omega)]
      refine ⟨_, _, _, rfl, o1, ?_, fun _ => ?_, fun h => by omega⟩
      · simp only; rw [tmod_pos v0]; exact Int.emod_nonneg _ (by omega)
      · simp only; rw [tmod_pos v0]; exact Int.emod_lt_of_pos _ (by omega)
    · obtain ⟨v, i1, h1, e1, o1, v0, v1⟩ := byte_ok (h := h) hi hl
      rw [if_neg (by simpa using h256), e1, some_bind]
      obtain ⟨u, i2, h2, e2, o2, u0, u1⟩ := byte_ok (h := h1) o1 hl
      simp only [e2, some_bind]
      obtain ⟨t, i3, h3, e3, o3, t0, t1⟩ := byte_ok (h := h2) o2 hl
      simp only [e3, some_bind]
      rw [if_pos (by omega), w64 (n := v * 65536) (by omega) (by omega), w64 (n := u * 256) (by omega) (by omega), w64 (n := v * 65536 + u * 256) (by omega) (by omega), w64 (by omega) (by omega)]
      refine ⟨_, _, _, rfl, o3, ?_, fun _ => ?_, fun h => by omega⟩
      · rw [tmod_pos (by omega)]; exact Int.emod_nonneg _ (by omega)
      · rw [tmod_pos (by omega)]; exact Int.emod_lt_of_pos _ (by omega)
theorem once_ok {b : List Int} {i h : Int} (hi : okI b i) (hl : b.length ≤ 1048576) (n : Int) : ∃ v i' h', spec_l1Once ⟨b, i, h⟩ n = some (v, ⟨b, i', h'⟩) ∧ okI b i' := by
  obtain ⟨v, i1, h1, e1, o1, _⟩ := below_ok (h := h) hi hl n
  exact ⟨_, _, _, by rw [spec_l1Once, e1, some_bind], o1⟩
theorem int_ok {b : List Int} {i h : Int} (hi : okI b i) (hl : b.length ≤ 1048576) {l : List Int} (hn : 0 < l.length) : ∃ v i' h', spec_l1Int ⟨b, i, h⟩ l = some (v, ⟨b, i', h'⟩) ∧ okI b i' ∧ v ∈ l := by
  obtain ⟨v, i1, h1, e1, o1, v0, v1, _⟩ := below_ok (h := h) hi hl ((List.length l : Nat) : Int)
  have hv := v1 (by omega)
  refine ⟨_, _, _, by rw [spec_l1Int, e1, some_bind, if_pos ⟨v0, hv⟩], o1, ?_⟩
  obtain ⟨q, e⟩ := gt_eq v0 hv
  rw [e]; exact List.getElem_mem q
theorem bytes_ok {k : Nat} (hk : Big k) {b : List Int} {i h : Int} (hi : okI b i) (hl : b.length ≤ 1048576) {n : Int} (hn : n ≤ 4096) : ∃ v i' h', spec_l1Bytes k ⟨b, i, h⟩ n = some (v, ⟨b, i', h'⟩) ∧ okI b i' ∧ v.length = n.toNat ∧ ∀ x ∈ v, wfU8 x := by
  obtain ⟨o, e, hQ⟩ := loopM_ends (b := spec_l1Bytes_b0 ⟨b, i, h⟩ n) (fun s => (s.1.length : Int) = s.2.1 ∧ (s.2.1 ≤ n ∨ s.2.1 = 0) ∧ okI b s.2.2.1 ∧ ∀ x ∈ s.1, wfU8 x) (fun s => (n - s.2.1).toNat) (fun o => ∃ v j i' h', o = .out (v, j, i', h') ∧ okI b i' ∧ v.length = n.toNat ∧ ∀ x ∈ v, wfU8 x) (fun s hs => by
      obtain ⟨v, j, i1, h1⟩ := s
      obtain ⟨e1, e2, o1, w1⟩ := hs
      simp only at e1 e2 o1 w1
      simp only [spec_l1Bytes_b0]
      by_cases hj : j < n
      · obtain ⟨u, i2, h2, f1, f2, f3, f4⟩ := byte_ok (h := h1) o1 hl
        rw [if_pos (by simpa using hj), f1, some_bind, if_pos (okLen_iff.2 (by simp; omega)), w64 (by omega) (by omega)]
        refine ⟨_, rfl, ⟨by simp; omega, .inl (by simp only; omega), f2, fun x hx => ?_⟩, by simp only; omega⟩
        simp only [List.mem_append, List.mem_cons, List.not_mem_nil, or_false] at hx
        rcases hx with hx | rfl
        · exact w1 x hx
        · rw [u8w]; constructor <;> omega
      · rw [if_neg (by simpa using hj)]
        exact ⟨_, rfl, _, _, _, _, rfl, o1, by omega, w1⟩) k ([], 0, i, h) ⟨rfl, .inr rfl, hi, by simp⟩ (by have : 9223372036854775808 ≤ k := hk; simp; omega)
  obtain ⟨v, j, i', h', rfl, q1, q2, q3⟩ := hQ
  exact ⟨v, i', h', by rw [spec_l1Bytes, e, some_bind], q1, q2, q3⟩
theorem new_ok {k : Nat} (hk : Big k) {b : List Int} (hl : b.length ≤ 1048576) : ∃ h, spec_l1New k b = some ⟨b, 0, h⟩ := by
  obtain ⟨o, e, hQ⟩ := loopM_ends (b := spec_l1New_b0 b) (fun s => 0 ≤ s.2 ∧ s.2 ≤ (b.length : Int)) (fun s => ((b.length : Int) - s.2).toNat) (fun o => ∃ s, o = .out s) (fun s hs => by
      obtain ⟨h, i⟩ := s
      simp only at hs
      simp only [spec_l1New_b0]
      by_cases hc : i < ((List.length b : Nat) : Int) ∧ i < 4000
      · rw [if_pos (by simpa using hc), if_pos (by omega)]
        exact ⟨_, rfl, ⟨by simp only; rw [w64 (by omega) (by omega)]; omega, by simp only; rw [w64 (by omega) (by omega)]; omega⟩, by simp only; rw [w64 (by omega) (by omega)]; omega⟩
      · rw [if_neg (by simpa using hc)]
        exact ⟨_, rfl, _, rfl⟩) k ((wrap64 (141373 + ((List.length b : Nat) : Int))), 0) ⟨Int.le_refl _, by omega⟩ (by have : 9223372036854775808 ≤ k := hk; simp; omega)
  obtain ⟨s, rfl⟩ := hQ
  exact ⟨s.1, by rw [spec_l1New, e, some_bind]⟩

theorem impl_in_eq (x a b : Int) : impl_in x a b = some (decide (a ≤ x ∧ x ≤ b)) := by simp [impl_in, Bool.decide_and]

theorem spec_in_eq (x a b : Int) : spec_l1In x a b = some (decide (a ≤ x ∧ x ≤ b)) := by simp [spec_l1In, Bool.decide_and, ge_iff_le]


def pad (l : List Int) (n : Int) : List Int := if n ≤ 64 then l ++ List.replicate (n.toNat - l.length) 0 else l
theorem pad_len {l : List Int} {n : Int} (h0 : (l.length : Int) ≤ n) (h : n ≤ 64) : (pad l n).length = n.toNat := by
  unfold pad; rw [if_pos h]; simp; omega
theorem pad_trace {ρ : Type} {b : List Int → Option (Nx (List Int) ρ)} {l : List Int} {n : Int} {k : Nat} (hk : Big k) (hn : n ≤ 64)
    (hb : ∀ m : List Int, (m.length : Int) < n → b m = some (.next (m ++ [0]))) (he : ∀ m : List Int, ¬ (m.length : Int) < n → b m = some (.out m)) :
    loopM b k l = some (.out (l ++ List.replicate (n.toNat - l.length) 0)) := by
  have key := loopM_run0 (b := b) (k := k) (fun j => l ++ List.replicate j (0 : Int)) (n.toNat - l.length) (r := .out (l ++ List.replicate (n.toNat - l.length) 0)) (fun t h => by cases h) ?_ ?_ (by have : 9223372036854775808 ≤ k := hk; omega)
  · simpa using key
  · intro j hj
    rw [hb _ (by simp; omega), List.replicate_succ', List.append_assoc]
  · exact he _ (by simp; omega)
theorem spec_pad_eq {k : Nat} (hk : Big k) {l : List Int} {n : Int} (hl : l.length ≤ 2097152) : spec_Pad k l n = some (pad l n) := by
  unfold spec_Pad pad
  rw [if_pos (okLen_iff.2 (by simp; omega)), List.nil_append]
  by_cases hn : n ≤ 64
  · rw [pad_trace hk hn]
    · simp [hn]
    · intro m hm
      simp only [spec_Pad_b0]
      rw [if_pos (by simp [hm, hn]), if_pos (okLen_iff.2 (by simp; omega))]
    · intro m hm
      simp only [spec_Pad_b0]
      rw [if_neg (by simp [hm])]
  · have : loopM (spec_Pad_b0 n) k l = some (.out l) :=
      loopM_run0 (b := spec_Pad_b0 n) (fun _ => l) 0 (fun t h => by cases h) (fun j hj => by omega) (by simp only [spec_Pad_b0]; rw [if_neg (by simp [hn])]) (by have : 9223372036854775808 ≤ k := hk; omega)
    rw [this]; simp [hn]
def smD (M : Nat) (p : TDisk) : Prop := p.Cells.length ≤ M ∧ (∀ y ∈ p.Cells, y.B.length ≤ M) ∧ p.Wet.length ≤ M ∧ ∀ y ∈ p.Wet, y.B.length ≤ M
theorem smD.mono {M N : Nat} {p : TDisk} (h : smD M p) (hn : M ≤ N) : smD N p := ⟨Nat.le_trans h.1 hn, fun y hy => Nat.le_trans (h.2.1 y hy) hn, Nat.le_trans h.2.2.1 hn, fun y hy => Nat.le_trans (h.2.2.2 y hy) hn⟩
theorem spec_copyDisk_eq {k M : Nat} (hk : Big k) {p : TDisk} (h : smD M p) (hM : M ≤ 2097152) : spec_l18Copy k p = some p := by
  obtain ⟨h1, h2, h3, h4⟩ := h
  have e := loop_app2 (b := spec_l18Copy_b0 p) (k := k) (f := fun x : TCell => [x]) (p := p.Cells) (z := []) (B := 1) (by omega) hk (fun _ _ => Nat.le_refl _) (fun i hi l hl2 => by
      simp only [List.length_nil] at hl2
      have c1 : decide ((i : Int) < ((List.length p.Cells : Nat) : Int)) = true := by simp; omega
      have c2 : (0 : Int) ≤ (i : Int) ∧ (i : Int) < ((List.length p.Cells : Nat) : Int) := by omega
      have hn := h2 _ (List.getElem_mem hi)
      simp only [spec_l18Copy_b0, if_pos c1, if_pos c2, gt_nat hi, List.nil_append]
      rw [if_pos (okLen_iff.2 (by simp; omega)), if_pos (okLen_iff.2 (by simp; omega)), w64s (by omega)])
    (fun l => by simp only [spec_l18Copy_b0]; rw [if_neg (by simp)])
  have e2 := loop_app2 (b := spec_l18Copy_b1 p) (k := k) (f := fun x : TWet => [x]) (p := p.Wet) (z := []) (B := 1) (by omega) hk (fun _ _ => Nat.le_refl _) (fun i hi l hl2 => by
      simp only [List.length_nil] at hl2
      have c1 : decide ((i : Int) < ((List.length p.Wet : Nat) : Int)) = true := by simp; omega
      have c2 : (0 : Int) ≤ (i : Int) ∧ (i : Int) < ((List.length p.Wet : Nat) : Int) := by omega
      have hn := h4 _ (List.getElem_mem hi)
      simp only [spec_l18Copy_b1, if_pos c1, if_pos c2, gt_nat hi, List.nil_append]
      rw [if_pos (okLen_iff.2 (by simp; omega)), if_pos (okLen_iff.2 (by simp; omega)), w64s (by omega)])
    (fun l => by simp only [spec_l18Copy_b1]; rw [if_neg (by simp)])
  rw [spec_l18Copy, e, some_bind]
  simp only
  rw [e2, some_bind]
  simp only [List.nil_append, fm_single]
theorem impl_copyDisk_eq {k M : Nat} (hk : Big k) {p : TDisk} (h : smD M p) (hM : M ≤ 2097152) : impl_copyDisk k p = some p := by
  obtain ⟨h1, h2, h3, h4⟩ := h
  have e := loop_app2 (b := impl_copyDisk_b0 p) (k := k) (f := fun x : TCell => [x]) (p := p.Cells) (z := []) (B := 1) (by omega) hk (fun _ _ => Nat.le_refl _) (fun i hi l hl2 => by
      simp only [List.length_nil] at hl2
      have c1 : decide ((i : Int) < ((List.length p.Cells : Nat) : Int)) = true := by simp; omega
      have c2 : (0 : Int) ≤ (i : Int) ∧ (i : Int) < ((List.length p.Cells : Nat) : Int) := by omega
      have hn := h2 _ (List.getElem_mem hi)
      simp only [impl_copyDisk_b0, if_pos c1, if_pos c2, gt_nat hi, slices_Clone_byte_byte]
      rw [if_pos (okLen_iff.2 (by omega)), some_bind, if_pos (okLen_iff.2 (by simp; omega)), w64s (by omega)])
    (fun l => by simp only [impl_copyDisk_b0]; rw [if_neg (by simp)])
  have e2 := loop_app2 (b := impl_copyDisk_b1 p) (k := k) (f := fun x : TWet => [x]) (p := p.Wet) (z := []) (B := 1) (by omega) hk (fun _ _ => Nat.le_refl _) (fun i hi l hl2 => by
      simp only [List.length_nil] at hl2
      have c1 : decide ((i : Int) < ((List.length p.Wet : Nat) : Int)) = true := by simp; omega
      have c2 : (0 : Int) ≤ (i : Int) ∧ (i : Int) < ((List.length p.Wet : Nat) : Int) := by omega
      have hn := h4 _ (List.getElem_mem hi)
      simp only [impl_copyDisk_b1, if_pos c1, if_pos c2, gt_nat hi, slices_Clone_byte_byte]
      rw [if_pos (okLen_iff.2 (by omega)), some_bind, if_pos (okLen_iff.2 (by simp; omega)), w64s (by omega)])
    (fun l => by simp only [impl_copyDisk_b1]; rw [if_neg (by simp)])
  rw [impl_copyDisk, e, some_bind]
  simp only
  rw [e2, some_bind]
  simp only [List.nil_append, fm_single]
def burn (p : TDisk) : Bool × TDisk := if p.Dead = true then (false, p) else if p.Fuse = 0 then (false, ⟨p.Cells, p.Wet, p.Fuse, true⟩) else if p.Fuse > 0 then (true, ⟨p.Cells, p.Wet, wrap64 (p.Fuse - 1), p.Dead⟩) else (true, p)
theorem spec_burn_eq (p : TDisk) : spec_l18Burn p = some (burn p) := by
  simp only [spec_l18Burn, burn, decide_eq_true_eq]
  split
  · rfl
  · split
    · rfl
    · split <;> rfl
def writeD (p : TDisk) (s : Int) (b : List Int) : TDisk := if (burn p).1 = true ∧ (0 ≤ s ∧ s ≤ 113) ∧ b.length ≤ 32 then ⟨p.Cells, p.Wet ++ [⟨s, pad b 32⟩], (burn p).2.Fuse, (burn p).2.Dead⟩ else ⟨p.Cells, p.Wet, (burn p).2.Fuse, (burn p).2.Dead⟩
theorem writeD_sm {M : Nat} {p : TDisk} (h : smD M p) {s : Int} {b : List Int} (hM : 32 ≤ M) : smD (M + 1) (writeD p s b) := by
  obtain ⟨h1, h2, h3, h4⟩ := h
  unfold writeD
  split
  · rename_i hc
    refine ⟨by simp only; omega, fun y hy => by have := h2 y hy; omega, by simp only [List.length_append, List.length_cons, List.length_nil]; omega, fun y hy => ?_⟩
    simp only [List.mem_append, List.mem_cons, List.not_mem_nil, or_false] at hy
    rcases hy with hy | rfl
    · have := h4 y hy; omega
    · have := pad_len (l := b) (n := 32) (by omega) (by omega); simp only [this]; omega
  · exact ⟨by simp only; omega, fun y hy => by have := h2 y hy; omega, by simp only; omega, fun y hy => by have := h4 y hy; omega⟩
theorem spec_writeD_eq {k M : Nat} (hk : Big k) {p : TDisk} (h : smD M p) (hM : M ≤ 2097152) {s : Int} {b : List Int} (hb : b.length ≤ 2097152) : spec_Write k p s b = some (writeD p s b) := by
  have h3 := h.2.2.1
  rw [spec_Write, spec_copyDisk_eq hk h hM, some_bind, spec_burn_eq, some_bind, spec_in_eq, writeD]
  rw [spec_pad_eq hk (by omega)]
  simp only [some_bind]
  rw [if_pos (c := okLen _ = true) (okLen_iff.2 (by simp; omega))]
  cases (burn p).1 <;> by_cases hs : 0 ≤ s ∧ s ≤ 113 <;> by_cases hl : b.length ≤ 32
  all_goals (have hl2 : ((List.length b : Nat) : Int) ≤ 32 ↔ b.length ≤ 32 := by omega)
  all_goals simp [hs, hl, hl2]
def noCell : TCell := ⟨false, []⟩
def growC (l : List TCell) (s : Int) : List TCell := l ++ List.replicate (s.toNat + 1 - l.length) noCell
def storeC (l : List TCell) (s : Int) (c : TCell) : List TCell := if 0 ≤ s ∧ s ≤ 113 then (growC l s).set s.toNat c else l
theorem growC_len (l : List TCell) (s : Int) : (growC l s).length = max l.length (s.toNat + 1) := by simp [growC]; omega
theorem growC_mem {l : List TCell} {s : Int} : ∀ y ∈ growC l s, y ∈ l ∨ y = noCell := by
  intro y hy
  rcases List.mem_append.1 hy with h | h
  · exact .inl h
  · exact .inr (List.eq_of_mem_replicate h)
theorem storeC_len (l : List TCell) (s : Int) (c : TCell) : (storeC l s c).length ≤ max l.length 114 := by
  unfold storeC
  split
  · rw [List.length_set, growC_len]; omega
  · omega
theorem storeC_mem {l : List TCell} {s : Int} {c : TCell} : ∀ y ∈ storeC l s c, y ∈ l ∨ y = noCell ∨ y = c := by
  intro y hy
  unfold storeC at hy
  split at hy
  · rcases List.mem_or_eq_of_mem_set hy with h | h
    · rcases growC_mem y h with h | h
      · exact .inl h
      · exact .inr (.inl h)
    · exact .inr (.inr h)
  · exact .inl hy
theorem room_trace {ρ : Type} {b : List TCell → Option (Nx (List TCell) ρ)} {l : List TCell} {s : Int} {k : Nat} (hk : Big k) (hs : 0 ≤ s ∧ s ≤ 113) (hl : l.length ≤ 2097152)
    (hb : ∀ m : List TCell, b m = (if (decide (((List.length m : Nat) : Int) ≤ s)) = true then (if okLen (List.length m + List.length ([(⟨false, ([] : (List Int))⟩ : TCell)] : (List TCell))) = true then some (.next (m ++ ([(⟨false, ([] : (List Int))⟩ : TCell)] : (List TCell)))) else none) else some (.out m))) :
    loopM b k l = some (.out (growC l s)) := by
  have key := loopM_run0 (b := b) (k := k) (fun j => l ++ List.replicate j noCell) (s.toNat + 1 - l.length) (r := .out (growC l s)) (fun t h => by cases h) ?_ ?_ (by have : 9223372036854775808 ≤ k := hk; omega)
  · simpa using key
  · intro j hj
    rw [hb, if_pos (by simp; omega), if_pos (okLen_iff.2 (by simp; omega)), List.replicate_succ', List.append_assoc]; rfl
  · rw [hb, if_neg (by simp; omega)]; rfl
theorem spec_room_eq {k : Nat} (hk : Big k) {p : TDisk} {s : Int} (hs : 0 ≤ s ∧ s ≤ 113) (hl : p.Cells.length ≤ 2097152) : spec_l18Room k p s = some ⟨growC p.Cells s, p.Wet, p.Fuse, p.Dead⟩ := by
  rw [spec_l18Room, room_trace (b := spec_l18Room_b0 s) hk hs hl (fun _ => rfl)]; rfl
theorem impl_store_eq {k : Nat} (hk : Big k) {p : TDisk} {s : Int} {c : TCell} (hl : p.Cells.length ≤ 2097152) : impl_Disk_store k p s c = some ⟨storeC p.Cells s c, p.Wet, p.Fuse, p.Dead⟩ := by
  rw [impl_Disk_store, impl_in_eq, some_bind, storeC]
  by_cases hs : 0 ≤ s ∧ s ≤ 113
  · rw [if_neg (by simp [hs]), room_trace (b := impl_Disk_store_b0 s) hk hs hl (fun _ => rfl), some_bind, if_pos hs]
    simp only
    rw [if_pos (by rw [growC_len]; omega)]; rfl
  · rw [if_pos (by simp [hs]), if_neg hs]
def flushC (l : List TCell) (ws : List TWet) : List TCell := ws.foldl (fun l w => storeC l w.At ⟨false, w.B⟩) l
theorem flushC_len (ws : List TWet) : ∀ l : List TCell, (flushC l ws).length ≤ max l.length 114 := by
  induction ws with
  | nil => intro l; simp [flushC]; omega
  | cons w ws ih =>
    intro l
    have h1 := ih (storeC l w.At ⟨false, w.B⟩)
    have h2 := storeC_len l w.At ⟨false, w.B⟩
    simp only [flushC, List.foldl_cons] at *
    omega
theorem flushC_mem (ws : List TWet) : ∀ l : List TCell, ∀ y ∈ flushC l ws, y ∈ l ∨ y = noCell ∨ ∃ w ∈ ws, y = ⟨false, w.B⟩ := by
  induction ws with
  | nil => intro l y hy; exact .inl hy
  | cons w ws ih =>
    intro l y hy
    have hy' : y ∈ flushC (storeC l w.At ⟨false, w.B⟩) ws := hy
    rcases ih _ y hy' with h | h | ⟨v, hv, h⟩
    · rcases storeC_mem y h with h | h | h
      · exact .inl h
      · exact .inr (.inl h)
      · exact .inr (.inr ⟨w, List.mem_cons_self .., h⟩)
    · exact .inr (.inl h)
    · exact .inr (.inr ⟨v, List.mem_cons_of_mem _ hv, h⟩)
theorem flushC_succ {l : List TCell} {ws : List TWet} {i : Nat} (h : i < ws.length) : flushC l (ws.take (i + 1)) = storeC (flushC l (ws.take i)) ws[i].At ⟨false, ws[i].B⟩ := by
  rw [List.take_add_one, List.getElem?_eq_getElem h, Option.toList_some, flushC, List.foldl_append]; rfl
def flushD (p : TDisk) : TDisk := if (burn p).1 = true then ⟨flushC p.Cells p.Wet, [], (burn p).2.Fuse, (burn p).2.Dead⟩ else ⟨p.Cells, p.Wet, (burn p).2.Fuse, (burn p).2.Dead⟩
theorem flushD_sm {M : Nat} {p : TDisk} (h : smD M p) (hM : 114 ≤ M) : smD M (flushD p) := by
  obtain ⟨h1, h2, h3, h4⟩ := h
  unfold flushD
  split
  · refine ⟨by have := flushC_len p.Wet p.Cells; simp only; omega, fun y hy => ?_, by simp, by simp⟩
    rcases flushC_mem p.Wet p.Cells y hy with h | rfl | ⟨w, hw, rfl⟩
    · exact h2 y h
    · simp [noCell]
    · exact h4 w hw
  · exact ⟨h1, h2, h3, h4⟩
theorem spec_flushD_eq {k M : Nat} (hk : Big k) {p : TDisk} (h : smD M p) (hM : M ≤ 2097000) : spec_Flush k p = some (flushD p) := by
  obtain ⟨h1, h2, h3, h4⟩ := h
  rw [spec_Flush, spec_copyDisk_eq hk ⟨h1, h2, h3, h4⟩ (by omega), some_bind, spec_burn_eq, some_bind, flushD]
  by_cases hb : (burn p).1 = true
  · rw [if_neg (by simp [hb]), if_pos hb]
    obtain ⟨o, e, hQ⟩ := loopM_ends (b := spec_Flush_b0 k p) (fun s => ∃ i : Nat, i ≤ p.Wet.length ∧ s.1 = (i : Int) ∧ s.2.1 = flushC p.Cells (p.Wet.take i) ∧ s.2.2.1 = (burn p).2.Fuse ∧ s.2.2.2.1 = (burn p).2.Dead ∧ s.2.2.2.2 ≤ (i : Int)) (fun s => p.Wet.length - s.1.toNat)
      (fun o => ∃ s, o = .out s ∧ s.2.1 = flushC p.Cells p.Wet ∧ s.2.2.1 = (burn p).2.Fuse ∧ s.2.2.2.1 = (burn p).2.Dead) (fun s hs => by
        obtain ⟨j, c, f, dd, r⟩ := s
        obtain ⟨i, hi, rfl, rfl, rfl, rfl, hr⟩ := hs
        simp only at hr
        simp only [spec_Flush_b0]
        rcases Nat.lt_or_ge i p.Wet.length with hlt | hge
        · have hcl := flushC_len (p.Wet.take i) p.Cells
          rw [if_pos (by simp; omega), if_pos (by omega), if_pos hr, gt_nat hlt, spec_in_eq, some_bind]
          by_cases hs : 0 ≤ p.Wet[i].At ∧ p.Wet[i].At ≤ 113
          · rw [if_pos (by simpa using hs), spec_room_eq hk hs (by simp only; omega), some_bind, if_pos (by omega), if_pos hr]
            simp only
            rw [if_pos (by rw [growC_len]; omega)]
            refine ⟨_, rfl, ⟨i + 1, hlt, by simp only; rw [w64s (by omega)], ?_, rfl, rfl, by simp only; omega⟩, by simp only; rw [w64s (by omega)]; omega⟩
            simp only
            rw [flushC_succ hlt, storeC, if_pos hs]
          · rw [if_neg (by simpa using hs)]
            refine ⟨_, rfl, ⟨i + 1, hlt, by simp only; rw [w64s (by omega)], ?_, rfl, rfl, by simp only; omega⟩, by simp only; rw [w64s (by omega)]; omega⟩
            simp only
            rw [flushC_succ hlt, storeC, if_neg hs]
        · rw [if_neg (by simp; omega)]
          exact ⟨_, rfl, _, rfl, by simp only; rw [List.take_of_length_le hge], rfl, rfl⟩)
      k (0, p.Cells, (burn p).2.Fuse, (burn p).2.Dead, 0) ⟨0, Nat.zero_le _, rfl, rfl, rfl, rfl, Int.le_refl _⟩ (by have : 9223372036854775808 ≤ k := hk; simp; omega)
    obtain ⟨s, rfl, q1, q2, q3⟩ := hQ
    obtain ⟨j, c, f, dd, r⟩ := s
    simp only at q1 q2 q3
    rw [e, some_bind, q1, q2, q3]
  · rw [if_pos (by simp [hb]), if_neg hb]
def okDisk (m : Nat) (d : TDisk) : Prop := d.Cells.length ≤ 114 ∧ (∀ c ∈ d.Cells, c.B.length ≤ 32 ∧ ∀ x ∈ c.B, wfU8 x) ∧ d.Wet.length ≤ m ∧ ∀ w ∈ d.Wet, (0 ≤ w.At ∧ w.At ≤ 113) ∧ w.B.length = 32 ∧ ∀ x ∈ w.B, wfU8 x
theorem okDisk.sm {m : Nat} {d : TDisk} (h : okDisk m d) : smD (m + 114) d := ⟨by have := h.1; omega, fun c hc => by have := (h.2.1 c hc).1; omega, by have := h.2.2.1; omega, fun w hw => by have := (h.2.2.2 w hw).2.1; omega⟩
theorem padw {b : List Int} {n : Int} (h : ∀ x ∈ b, wfU8 x) : ∀ x ∈ pad b n, wfU8 x := by
  intro x hx
  unfold pad at hx
  split at hx
  · rcases List.mem_append.1 hx with h1 | h1
    · exact h x h1
    · rw [List.eq_of_mem_replicate h1]; constructor <;> omega
  · exact h x hx
theorem okDisk.write {m : Nat} {d : TDisk} (h : okDisk m d) {s : Int} {b : List Int} (hb : ∀ x ∈ b, wfU8 x) : okDisk (m + 1) (writeD d s b) := by
  obtain ⟨h1, h2, h3, h4⟩ := h
  unfold writeD
  split
  · rename_i hc
    refine ⟨h1, h2, by simp only [List.length_append, List.length_cons, List.length_nil]; omega, fun w hw => ?_⟩
    simp only [List.mem_append, List.mem_cons, List.not_mem_nil, or_false] at hw
    rcases hw with hw | rfl
    · exact h4 w hw
    · exact ⟨hc.2.1, by rw [pad_len (by omega) (by omega)]; rfl, fun x hx => padw (n := 32) hb x hx⟩
  · exact ⟨h1, h2, by simp only; omega, h4⟩
theorem okDisk.mono {m n : Nat} {d : TDisk} (h : okDisk m d) (hn : m ≤ n) : okDisk n d := ⟨h.1, h.2.1, Nat.le_trans h.2.2.1 hn, h.2.2.2⟩
theorem okDisk.flush {m : Nat} {d : TDisk} (h : okDisk m d) : okDisk m (flushD d) := by
  obtain ⟨h1, h2, h3, h4⟩ := h
  unfold flushD
  split
  · refine ⟨by have := flushC_len d.Wet d.Cells; simp only; omega, fun y hy => ?_, by simp, by simp⟩
    rcases flushC_mem d.Wet d.Cells y hy with h | rfl | ⟨w, hw, rfl⟩
    · exact h2 y h
    · simp [noCell]
    · exact ⟨by have := (h4 w hw).2.1; simp only; omega, (h4 w hw).2.2⟩
  · exact ⟨h1, h2, h3, h4⟩
theorem drawDisk_loop {k : Nat} (hk : Big k) {b : List Int} (hl : b.length ≤ 1048576) {bd : (Int × Int × Int × (List TCell) × (List TWet) × Int × Bool) → Option (Nx (Int × Int × Int × (List TCell) × (List TWet) × Int × Bool) (TDisk × TCur))}
    (hb : ∀ c i h cells wet f dd, bd (c, i, h, cells, wet, f, dd) = (if (decide (c > 0)) = true then ((spec_l1Once (⟨b, i, h⟩ : TCur) 4).bind fun t76 => (if t76.1 = true then ((spec_Flush k (⟨cells, wet, f, dd⟩ : TDisk)).bind fun t78 => some (.next ((wrap64 (c - 1)), t76.2.i, t76.2.h, t78.Cells, t78.Wet, t78.Fuse, t78.Dead))) else ((spec_l1Below (⟨b, t76.2.i, t76.2.h⟩ : TCur) 8).bind fun t85 => ((spec_l1Int (⟨b, t85.2.i, t85.2.h⟩ : TCur) ([0, 3, 32, 32] : (List Int))).bind fun t89 => ((spec_l1Bytes k (⟨b, t89.2.i, t89.2.h⟩ : TCur) t89.1).bind fun t91 => ((spec_Write k (⟨cells, wet, f, dd⟩ : TDisk) t85.1 t91.1).bind fun t95 => some (.next ((wrap64 (c - 1)), t91.2.i, t91.2.h, t95.Cells, t95.Wet, t95.Fuse, t95.Dead)))))))) else some (.out (c, i, h, cells, wet, f, dd))))
    {c i h f : Int} {dd : Bool} (hc : 0 ≤ c ∧ c ≤ 15) (hi : okI b i) : ∃ c' i' h' cells' wet' f' dd', loopM bd k (c, i, h, [], [], f, dd) = some (.out (c', i', h', cells', wet', f', dd')) ∧ okI b i' ∧ okDisk 15 ⟨cells', wet', f', dd'⟩ := by
  obtain ⟨o, e, hQ⟩ := loopM_ends (b := bd) (fun s => (0 ≤ s.1 ∧ s.1 ≤ 15) ∧ okI b s.2.1 ∧ okDisk (15 - s.1.toNat) ⟨s.2.2.2.1, s.2.2.2.2.1, s.2.2.2.2.2.1, s.2.2.2.2.2.2⟩) (fun s => s.1.toNat) (fun o => ∃ c' i' h' cells' wet' f' dd', o = .out (c', i', h', cells', wet', f', dd') ∧ okI b i' ∧ okDisk 15 ⟨cells', wet', f', dd'⟩) (fun s hs => by
      obtain ⟨c, i, h, cells, wet, f, dd⟩ := s
      obtain ⟨hc, hi, hd⟩ := hs
      simp only at hc hi hd
      rw [hb]
      by_cases h0 : c > 0
      · obtain ⟨q, i1, h1, e1, o1⟩ := once_ok (h := h) hi hl 4
        rw [if_pos (by simpa using h0), e1, some_bind]
        simp only
        cases q
        · rw [if_neg (by simp)]
          obtain ⟨s, i2, h2, e2, o2, s0, s1, _⟩ := below_ok (h := h1) o1 hl 8
          simp only [e2, some_bind]
          obtain ⟨n, i3, h3, e3, o3, hn⟩ := int_ok (h := h2) o2 hl (l := [0, 3, 32, 32]) (by simp)
          simp only [e3, some_bind]
          have hn2 : n ≤ 32 := by simp at hn; omega
          obtain ⟨v, i4, h4, e4, o4, v1, v2⟩ := bytes_ok hk (h := h3) o3 hl (n := n) (by omega)
          simp only [e4, some_bind]
          rw [spec_writeD_eq hk hd.sm (by omega) (by omega), some_bind]
          refine ⟨_, rfl, ⟨by simp only; rw [w64 (by omega) (by omega)]; omega, o4, ?_⟩, by simp only; rw [w64 (by omega) (by omega)]; omega⟩
          simp only
          rw [w64 (by omega) (by omega)]
          exact (hd.write v2).mono (by omega)
        · rw [if_pos rfl, spec_flushD_eq hk hd.sm (by omega), some_bind]
          refine ⟨_, rfl, ⟨by simp only; rw [w64 (by omega) (by omega)]; omega, o1, ?_⟩, by simp only; rw [w64 (by omega) (by omega)]; omega⟩
          simp only
          rw [w64 (by omega) (by omega)]
          exact hd.flush.mono (by omega)
      · rw [if_neg (by simpa using h0)]
        exact ⟨_, rfl, _, _, _, _, _, _, _, rfl, hi, hd.mono (by omega)⟩) k (c, i, h, [], [], f, dd) ⟨hc, hi, by simp [okDisk]⟩ (by have : 9223372036854775808 ≤ k := hk; simp; omega)
  obtain ⟨c', i', h', cells', wet', f', dd', rfl, q1, q2⟩ := hQ
  exact ⟨_, _, _, _, _, _, _, e, q1, q2⟩
theorem drawDisk_ok {k : Nat} (hk : Big k) {b : List Int} {i h : Int} (hi : okI b i) (hl : b.length ≤ 1048576) : ∃ d i' h', spec_l18Draw k ⟨b, i, h⟩ = some (d, ⟨b, i', h'⟩) ∧ okI b i' ∧ okDisk 15 d := by
  rw [spec_l18Draw, spec_DiskNew, some_bind]
  obtain ⟨q, i1, h1, e1, o1⟩ := once_ok (h := h) hi hl 3
  rw [e1, some_bind]
  simp only
  cases q
  · rw [if_neg (by simp)]
    obtain ⟨s, i2, h2, e2, o2, s0, s1, _⟩ := below_ok (h := h1) o1 hl 16
    have s3 := s1 (by omega)
    simp only [e2, some_bind]
    obtain ⟨c', i', h', cells', wet', f', dd', e3, o3, hd⟩ := drawDisk_loop hk hl (bd := spec_l18Draw_b1 k ⟨b, i, h⟩) (fun _ _ _ _ _ _ _ => rfl) (c := s) (i := i2) (h := h2) (f := -1) (dd := false) ⟨s0, by omega⟩ o2
    rw [e3]
    exact ⟨_, _, _, rfl, o3, hd⟩
  · rw [if_pos rfl]
    obtain ⟨u, i4, h4, e4, o4, _⟩ := below_ok (h := h1) o1 hl 12
    simp only [e4, some_bind]
    obtain ⟨s, i2, h2, e2, o2, s0, s1, _⟩ := below_ok (h := h4) o4 hl 16
    have s3 := s1 (by omega)
    simp only [e2, some_bind]
    obtain ⟨c', i', h', cells', wet', f', dd', e3, o3, hd⟩ := drawDisk_loop hk hl (bd := spec_l18Draw_b0 k ⟨b, i, h⟩) (fun _ _ _ _ _ _ _ => rfl) (c := s) (i := i2) (h := h2) (f := u) (dd := false) ⟨s0, by omega⟩ o2
    rw [e3]
    exact ⟨_, _, _, rfl, o3, hd⟩
theorem drawHow_ok {k : Nat} (hk : Big k) {b : List Int} {i h : Int} (hi : okI b i) (hl : b.length ≤ 1048576) {n : Int} (hn : n ≤ 4096) : ∃ v i' h', spec_l18How k ⟨b, i, h⟩ n = some (v, ⟨b, i', h'⟩) ∧ okI b i' ∧ v.length ≤ 4096 := by
  obtain ⟨s, i2, h2, e2, o2, s0, s1, s2⟩ := below_ok (h := h) hi hl n
  rw [spec_l18How, e2, some_bind]
  have hs : s ≤ 4096 := by
    rcases Int.lt_or_le 0 n with h | h
    · have := s1 h; omega
    · have := s2 h; omega
  obtain ⟨o, e, hQ⟩ := loopM_ends (b := spec_l18How_b0 ⟨b, i, h⟩) (fun t => (0 ≤ t.2.1 ∧ (t.1.length : Int) + t.2.1 ≤ 4096) ∧ okI b t.2.2.1) (fun t => t.2.1.toNat) (fun o => ∃ v j i' h', o = .out (v, j, i', h') ∧ okI b i' ∧ v.length ≤ 4096) (fun t ht => by
      obtain ⟨v, j, i3, h3⟩ := t
      obtain ⟨q1, q2⟩ := ht
      simp only at q1 q2
      simp only [spec_l18How_b0]
      by_cases hj : j > 0
      · obtain ⟨u, i4, h4, e4, o4, _⟩ := int_ok (h := h3) q2 hl (l := [0, 1, 1, 2, 3]) (by simp)
        rw [if_pos (by simpa using hj), e4, some_bind, if_pos (okLen_iff.2 (by simp; omega)), w64 (by omega) (by omega)]
        exact ⟨_, rfl, ⟨by simp; omega, o4⟩, by simp only; omega⟩
      · rw [if_neg (by simpa using hj)]
        exact ⟨_, rfl, _, _, _, _, rfl, q2, by omega⟩) k ([], s, i2, h2) ⟨by simp; omega, o2⟩ (by have : 9223372036854775808 ≤ k := hk; simp only; omega)
  obtain ⟨v, j, i', h', rfl, q1, q2⟩ := hQ
  simp only [e, some_bind]
  exact ⟨_, _, _, rfl, q1, q2⟩

def crash1 (l : List TCell) (x : TWet × Int) : List TCell := if x.2 = 1 then storeC l x.1.At ⟨false, x.1.B⟩ else if x.2 = 2 then storeC l x.1.At ⟨true, []⟩ else l
def crashC (l : List TCell) (xs : List (TWet × Int)) : List TCell := xs.foldl crash1 l
theorem crash1_len (l : List TCell) (x : TWet × Int) : (crash1 l x).length ≤ max l.length 114 := by
  unfold crash1
  split
  · exact storeC_len _ _ _
  · split
    · exact storeC_len _ _ _
    · omega
theorem crash1_mem {l : List TCell} {x : TWet × Int} : ∀ y ∈ crash1 l x, y ∈ l ∨ y = noCell ∨ y = ⟨true, []⟩ ∨ y = ⟨false, x.1.B⟩ := by
  intro y hy
  unfold crash1 at hy
  split at hy
  · rcases storeC_mem y hy with h | h | h
    · exact .inl h
    · exact .inr (.inl h)
    · exact .inr (.inr (.inr h))
  · split at hy
    · rcases storeC_mem y hy with h | h | h
      · exact .inl h
      · exact .inr (.inl h)
      · exact .inr (.inr (.inl h))
    · exact .inl hy
theorem crashC_len (xs : List (TWet × Int)) : ∀ l : List TCell, (crashC l xs).length ≤ max l.length 114 := by
  induction xs with
  | nil => intro l; simp [crashC]; omega
  | cons w ws ih =>
    intro l
    have h1 := ih (crash1 l w)
    have h2 := crash1_len l w
    simp only [crashC, List.foldl_cons] at *
    omega
theorem crashC_mem (xs : List (TWet × Int)) : ∀ l : List TCell, ∀ y ∈ crashC l xs, y ∈ l ∨ y = noCell ∨ y = ⟨true, []⟩ ∨ ∃ x ∈ xs, y = ⟨false, x.1.B⟩ := by
  induction xs with
  | nil => intro l y hy; exact .inl hy
  | cons w ws ih =>
    intro l y hy
    have hy' : y ∈ crashC (crash1 l w) ws := hy
    rcases ih _ y hy' with h | h | h | ⟨v, hv, h⟩
    · rcases crash1_mem y h with h | h | h | h
      · exact .inl h
      · exact .inr (.inl h)
      · exact .inr (.inr (.inl h))
      · exact .inr (.inr (.inr ⟨w, List.mem_cons_self .., h⟩))
    · exact .inr (.inl h)
    · exact .inr (.inr (.inl h))
    · exact .inr (.inr (.inr ⟨v, List.mem_cons_of_mem _ hv, h⟩))
theorem crashC_succ {l : List TCell} {ws : List TWet} {hw : List Int} {i : Nat} (h : i < ws.length) (h2 : i < hw.length) : crashC l ((ws.zip hw).take (i + 1)) = crash1 (crashC l ((ws.zip hw).take i)) (ws[i], hw[i]) := by
  have h3 : i < (ws.zip hw).length := by simp; omega
  rw [List.take_add_one, List.getElem?_eq_getElem h3, Option.toList_some, crashC, List.foldl_append, List.getElem_zip]; rfl
def crashD (p : TDisk) (hw : List Int) (f : Int) : TDisk := ⟨crashC p.Cells (p.Wet.zip hw), [], if f < -1 then -1 else f, false⟩
theorem crashD_sm {M : Nat} {p : TDisk} {hw : List Int} {f : Int} (h : smD M p) (hM : 114 ≤ M) : smD M (crashD p hw f) := by
  obtain ⟨h1, h2, h3, h4⟩ := h
  refine ⟨by have := crashC_len (p.Wet.zip hw) p.Cells; simp only [crashD]; omega, fun y hy => ?_, by simp [crashD], by simp [crashD]⟩
  rcases crashC_mem (p.Wet.zip hw) p.Cells y hy with h | rfl | rfl | ⟨w, hw, rfl⟩
  · exact h2 y h
  · simp [noCell]
  · simp
  · exact h4 w.1 (List.of_mem_zip hw).1
theorem spec_crashD_eq {k M : Nat} (hk : Big k) {p : TDisk} {hw : List Int} {f : Int} (h : smD M p) (hM : M ≤ 2097000) (hl : hw.length ≤ 2097152) : spec_Crash k p hw f = some (crashD p hw f) := by
  obtain ⟨h1, h2, h3, h4⟩ := h
  rw [spec_Crash, spec_copyDisk_eq hk ⟨h1, h2, h3, h4⟩ (by omega), some_bind, crashD]
  obtain ⟨o, e, hQ⟩ := loopM_ends (b := spec_Crash_b0 k hw p) (fun s => ∃ i : Nat, i ≤ p.Wet.length ∧ i ≤ hw.length ∧ s.1 = (i : Int) ∧ s.2.1 = crashC p.Cells ((p.Wet.zip hw).take i) ∧ s.2.2.2.2 ≤ (i : Int)) (fun s => p.Wet.length - s.1.toNat)
      (fun o => ∃ s, o = .out s ∧ s.2.1 = crashC p.Cells (p.Wet.zip hw)) (fun s hs => by
        obtain ⟨j, c, ff, dd, r⟩ := s
        obtain ⟨i, hi, hi2, rfl, rfl, hr⟩ := hs
        simp only at hr
        simp only [spec_Crash_b0]
        by_cases hlt : i < p.Wet.length ∧ i < hw.length
        · obtain ⟨hlt, hlt2⟩ := hlt
          have hcl := crashC_len ((p.Wet.zip hw).take i) p.Cells
          have hmu : p.Wet.length - (((i + 1 : Nat) : Int)).toNat < p.Wet.length - ((i : Int)).toNat := by omega
          rw [if_pos (by simp; omega), if_pos (by omega), if_pos hr, gt_nat hlt, spec_in_eq, some_bind, w64s (n := i) (by omega), gt_nat hlt2]
          have c3 : (0 : Int) ≤ (i : Int) ∧ (i : Int) < ((List.length hw : Nat) : Int) := by omega
          simp only [if_pos c3]
          by_cases hs : 0 ≤ p.Wet[i].At ∧ p.Wet[i].At ≤ 113
          · rw [if_neg (by simpa using hs)]
            by_cases e1 : hw[i] = 1
            · rw [if_pos (by simpa using e1), spec_room_eq hk hs (by simp only; omega), some_bind, if_pos (by omega), if_pos hr]
              simp only
              rw [if_pos (by rw [growC_len]; omega)]
              refine ⟨_, rfl, ⟨i + 1, hlt, hlt2, rfl, ?_, by simp only; omega⟩, hmu⟩
              simp only
              rw [crashC_succ hlt hlt2, crash1, if_pos e1, storeC, if_pos hs]
            · rw [if_neg (by simpa using e1)]
              by_cases e2 : hw[i] = 2
              · rw [if_pos (by simpa using e2), spec_room_eq hk hs (by simp only; omega), some_bind]
                simp only
                rw [if_pos (by rw [growC_len]; omega)]
                refine ⟨_, rfl, ⟨i + 1, hlt, hlt2, rfl, ?_, by simp only; omega⟩, hmu⟩
                simp only
                rw [crashC_succ hlt hlt2, crash1, if_neg e1, if_pos e2, storeC, if_pos hs]
              · rw [if_neg (by simpa using e2)]
                refine ⟨_, rfl, ⟨i + 1, hlt, hlt2, rfl, ?_, by simp only; omega⟩, hmu⟩
                simp only
                rw [crashC_succ hlt hlt2, crash1, if_neg e1, if_neg e2]
          · rw [if_pos (by simp [hs])]
            refine ⟨_, rfl, ⟨i + 1, hlt, hlt2, rfl, ?_, by simp only; omega⟩, hmu⟩
            simp only
            rw [crashC_succ hlt hlt2, crash1, storeC, storeC, if_neg hs, if_neg hs]
            split
            · rfl
            · split <;> rfl
        · rw [if_neg (by simp; omega)]
          exact ⟨_, rfl, _, rfl, by simp only; rw [List.take_of_length_le (by simp; omega)]⟩)
      k (0, p.Cells, p.Fuse, p.Dead, 0) ⟨0, Nat.zero_le _, Nat.zero_le _, rfl, rfl, Int.le_refl _⟩ (by have : 9223372036854775808 ≤ k := hk; simp; omega)
  obtain ⟨s, rfl, q1⟩ := hQ
  obtain ⟨j, c, ff, dd, r⟩ := s
  simp only at q1
  rw [e, some_bind, q1, spec_Most]
  by_cases hf : f < -1
  · rw [if_pos hf, if_neg (by simp; omega)]; rfl
  · rw [if_neg hf]
    by_cases hf2 : f > -1
    · rw [if_pos (by simpa using hf2)]; rfl
    · rw [if_neg (by simpa using hf2)]
      have : f = -1 := by omega
      subst this; rfl
theorem impl_crashD_eq {k M : Nat} (hk : Big k) {p : TDisk} {hw : List Int} {f : Int} (h : smD M p) (hM : M ≤ 2097000) (hl : hw.length ≤ 2097152) : impl_Crash k p hw f = some (crashD p hw f) := by
  obtain ⟨h1, h2, h3, h4⟩ := h
  rw [impl_Crash, impl_copyDisk_eq hk ⟨h1, h2, h3, h4⟩ (by omega), some_bind, crashD]
  obtain ⟨o, e, hQ⟩ := loopM_ends (b := impl_Crash_b0 k hw p) (fun s => ∃ i : Nat, i ≤ p.Wet.length ∧ i ≤ hw.length ∧ s.2.1 = (i : Int) ∧ s.2.2.1 = crashC p.Cells ((p.Wet.zip hw).take i) ∧ s.1 ≤ (i : Int)) (fun s => p.Wet.length - s.2.1.toNat)
      (fun o => ∃ s, o = .out s ∧ s.2.2.1 = crashC p.Cells (p.Wet.zip hw)) (fun s hs => by
        obtain ⟨r, j, c, ff, dd⟩ := s
        obtain ⟨i, hi, hi2, rfl, rfl, hr⟩ := hs
        simp only at hr
        simp only [impl_Crash_b0]
        by_cases hlt : i < p.Wet.length
        · have hcl := crashC_len ((p.Wet.zip hw).take i) p.Cells
          have hmu : p.Wet.length - (((i + 1 : Nat) : Int)).toNat < p.Wet.length - ((i : Int)).toNat := by omega
          rw [if_pos (by simp; omega), if_pos (by omega), if_pos hr, gt_nat hlt, w64s (n := i) (by omega)]
          by_cases hlt2 : i < hw.length
          · rw [if_neg (by simp; omega), if_pos (by omega), gt_nat hlt2]
            by_cases e1 : hw[i] = 1
            · rw [if_pos (by simpa using e1), impl_store_eq hk (by simp only; omega), some_bind]
              refine ⟨_, rfl, ⟨i + 1, hlt, hlt2, rfl, ?_, by simp only; omega⟩, hmu⟩
              simp only
              rw [crashC_succ hlt hlt2, crash1, if_pos e1]
            · rw [if_neg (by simpa using e1)]
              by_cases e2 : hw[i] = 2
              · rw [if_pos (by simpa using e2), impl_store_eq hk (by simp only; omega), some_bind]
                refine ⟨_, rfl, ⟨i + 1, hlt, hlt2, rfl, ?_, by simp only; omega⟩, hmu⟩
                simp only
                rw [crashC_succ hlt hlt2, crash1, if_neg e1, if_pos e2]
              · rw [if_neg (by simpa using e2)]
                refine ⟨_, rfl, ⟨i + 1, hlt, hlt2, rfl, ?_, by simp only; omega⟩, hmu⟩
                simp only
                rw [crashC_succ hlt hlt2, crash1, if_neg e1, if_neg e2]
          · rw [if_pos (by simp; omega)]
            exact ⟨_, rfl, _, rfl, by simp only; rw [List.take_of_length_le (by simp; omega)]⟩
        · rw [if_neg (by simp; omega)]
          exact ⟨_, rfl, _, rfl, by simp only; rw [List.take_of_length_le (by simp; omega)]⟩)
      k (0, 0, p.Cells, p.Fuse, p.Dead) ⟨0, Nat.zero_le _, Nat.zero_le _, rfl, rfl, Int.le_refl _⟩ (by have : 9223372036854775808 ≤ k := hk; simp; omega)
  obtain ⟨s, rfl, q1⟩ := hQ
  obtain ⟨r, j, c, ff, dd⟩ := s
  simp only at q1
  rw [e, some_bind, q1]

def readC (l : List TCell) (n : Int) : List Int × Bool := if (0 ≤ n ∧ n < (l.length : Int)) ∧ (gt l n).Bad = false ∧ (gt l n).B ≠ [] then ((gt l n).B, true) else ([], false)
theorem readC_out {l : List TCell} {n : Int} (h : ¬ (0 ≤ n ∧ n < (l.length : Int))) : readC l n = ([], false) := by rw [readC, if_neg fun hh => h hh.1]
theorem readC_cell {l : List TCell} {n : Nat} {c : TCell} (h : l[n]? = some c) : readC l (n : Int) = if c.Bad = false ∧ c.B ≠ [] then (c.B, true) else ([], false) := by
  have hn : n < l.length := (List.getElem?_eq_some_iff.1 h).1
  rw [readC, gt_eq_of h]
  by_cases hc : c.Bad = false ∧ c.B ≠ []
  · rw [if_pos ⟨by omega, hc⟩, if_pos hc]
  · rw [if_neg fun hh => hc hh.2, if_neg hc]
theorem readC_none {l : List TCell} {n : Nat} (h : l[n]? = none) : readC l (n : Int) = ([], false) := readC_out (by have := List.getElem?_eq_none_iff.1 h; omega)
theorem readC_grow (l : List TCell) (s : Int) (n : Nat) : readC (growC l s) (n : Int) = readC l (n : Int) := by
  rcases Nat.lt_or_ge n l.length with h | h
  · have e : (growC l s)[n]? = l[n]? := by rw [growC, List.getElem?_append_left h]
    cases hc : l[n]? with
    | none => rw [readC_none (by rw [e, hc]), readC_none hc]
    | some c => rw [readC_cell (by rw [e, hc]), readC_cell hc]
  · rw [readC_none (l := l) (List.getElem?_eq_none h)]
    cases hc : (growC l s)[n]? with
    | none => exact readC_none hc
    | some c =>
      rw [readC_cell hc]
      have : c = noCell := by
        rw [growC, List.getElem?_append_right h] at hc
        exact List.eq_of_mem_replicate (List.mem_of_getElem? hc)
      subst this; rfl
theorem readC_store (l : List TCell) (s : Int) (c : TCell) (n : Nat) : readC (storeC l s c) (n : Int) = if s = (n : Int) ∧ n ≤ 113 then (if c.Bad = false ∧ c.B ≠ [] then (c.B, true) else ([], false)) else readC l (n : Int) := by
  unfold storeC
  by_cases hs : 0 ≤ s ∧ s ≤ 113
  · rw [if_pos hs]
    have hg := growC_len l s
    by_cases hn : s = (n : Int)
    · subst hn
      rw [if_pos ⟨rfl, by omega⟩, Int.toNat_natCast]
      exact readC_cell (List.getElem?_set_self (by rw [hg]; simp; omega))
    · rw [if_neg fun h => hn h.1, ← readC_grow l s n]
      have hne : s.toNat ≠ n := by omega
      cases hc : (growC l s)[n]? with
      | none => rw [readC_none hc, readC_none (by rw [List.getElem?_set_ne hne, hc])]
      | some d => rw [readC_cell hc, readC_cell (by rw [List.getElem?_set_ne hne, hc])]
  · rw [if_neg hs, if_neg]
    rintro ⟨rfl, h⟩; exact hs ⟨by omega, by omega⟩
theorem readC_crash (n : Nat) (xs : List (TWet × Int)) : ∀ l : List TCell, readC (crashC l xs) (n : Int) = readC l (n : Int) ∨ ∃ x ∈ xs, x.1.At = (n : Int) ∧ (readC (crashC l xs) (n : Int) = ([], false) ∨ readC (crashC l xs) (n : Int) = (x.1.B, true)) := by
  induction xs with
  | nil => intro l; exact .inl rfl
  | cons x xs ih =>
    intro l
    have e : crashC l (x :: xs) = crashC (crash1 l x) xs := rfl
    rw [e]
    rcases ih (crash1 l x) with h | ⟨y, hy, h1, h2⟩
    · rw [h]
      have hst : ∀ c : TCell, (c = ⟨false, x.1.B⟩ ∨ c = ⟨true, []⟩) → readC (storeC l x.1.At c) (n : Int) = readC l (n : Int) ∨ ∃ z ∈ x :: xs, z.1.At = (n : Int) ∧ (readC (storeC l x.1.At c) (n : Int) = ([], false) ∨ readC (storeC l x.1.At c) (n : Int) = (z.1.B, true)) := by
        intro c hc
        rw [readC_store]
        by_cases hn : x.1.At = (n : Int) ∧ n ≤ 113
        · rw [if_pos hn]
          refine .inr ⟨x, List.mem_cons_self .., hn.1, ?_⟩
          rcases hc with rfl | rfl
          · by_cases hb : x.1.B = []
            · exact .inl (by simp [hb])
            · exact .inr (by simp [hb])
          · exact .inl (by simp)
        · rw [if_neg hn]; exact .inl rfl
      unfold crash1
      split
      · exact hst _ (.inl rfl)
      · split
        · exact hst _ (.inr rfl)
        · exact .inl rfl
    · exact .inr ⟨y, List.mem_cons_of_mem _ hy, h1, h2⟩
theorem impl_read_dry {k : Nat} (hk : Big k) {d : TDisk} (hd : d.Wet = []) (hc : d.Cells.length ≤ 2097152) (hb : ∀ c ∈ d.Cells, c.B.length ≤ 2097152) (n : Int) : impl_Read k d n = some (readC d.Cells n) := by
  have e : loopM (impl_Read_b0 d n) k (wrap64 (((List.length d.Wet : Nat) : Int) - 1)) = some (.out (-1)) := by
    have e0 : wrap64 (((List.length ([] : List TWet) : Nat) : Int) - 1) = -1 := by rw [List.length_nil]; exact w64 (n := -1) (by decide) (by decide)
    rw [hd, e0]
    exact loopM_run0 (b := impl_Read_b0 d n) (k := k) (r := .out (-1)) (fun _ => -1) 0 (fun t h => by cases h) (fun j hj => absurd hj (Nat.not_lt_zero j)) (by simp only [impl_Read_b0]; rw [if_neg (by decide)]) (by have : 9223372036854775808 ≤ k := hk; omega)
  rw [impl_Read, e, some_bind]
  simp only
  by_cases hin : 0 ≤ n ∧ n < ((List.length d.Cells : Nat) : Int)
  · have e2 : (decide (n < 0) || decide (n ≥ ((List.length d.Cells : Nat) : Int))) = false := by simp; omega
    obtain ⟨hlt, eg⟩ := gt_eq hin.1 hin.2
    have hbl : (gt d.Cells n).B.length ≤ 2097152 := by rw [eg]; exact hb _ (List.getElem_mem hlt)
    have hok : okLen (List.length (gt d.Cells n).B) = true := okLen_iff.2 (by omega)
    simp only [e2, Bool.false_eq_true, if_false, if_pos hin, some_bind, slices_Clone_byte_byte, hok, if_true, readC]
    cases hbad : (gt d.Cells n).Bad
    · by_cases hz : (gt d.Cells n).B = []
      · simp [hz]
      · simp [hin, hz]
    · simp
  · have e2 : (decide (n < 0) || decide (n ≥ ((List.length d.Cells : Nat) : Int))) = true := by simp; omega
    simp only [e2, if_true, some_bind]
    rw [readC_out hin]
theorem readC_len {l : List TCell} {M : Nat} (h : ∀ c ∈ l, c.B.length ≤ M) (n : Int) : (readC l n).1.length ≤ M := by
  unfold readC
  split
  · rename_i hc
    obtain ⟨hlt, eg⟩ := gt_eq hc.1.1 hc.1.2
    rw [eg]; exact h _ (List.getElem_mem hlt)
  · simp

theorem lsame_eq {k : Nat} (hk : Big k) {p q : List Int} (hl : p.length ≤ 2097152) : laws_same k p q = some (decide (p = q)) := by
  rw [laws_same]
  by_cases he : p.length = q.length
  · rw [if_neg (by simp [he])]
    rw [loop_all (c := fun i => decide (p[i]? = q[i]?)) (n := p.length) (r := false) (by omega) hk]
    · by_cases hpq : p = q
      · subst hpq; simp
      · rw [if_neg, decide_eq_false hpq]
        · rfl
        · intro hh
          exact hpq (List.ext_getElem? fun i => by
            by_cases hi : i < p.length
            · simpa using hh i hi
            · rw [List.getElem?_eq_none (by omega), List.getElem?_eq_none (by omega)])
    · intro i hi
      have c1 : decide ((i : Int) < ((List.length p : Nat) : Int)) = true := by simp; omega
      have c2 : (0 : Int) ≤ (i : Int) ∧ (i : Int) < ((List.length p : Nat) : Int) := by omega
      have c3 : (0 : Int) ≤ (i : Int) ∧ (i : Int) < ((List.length q : Nat) : Int) := by omega
      have hq : i < q.length := by omega
      simp only [laws_same_b0, if_pos c1, if_pos c2, if_pos c3, gt_nat hi, gt_nat hq, w64s (n := i) (by omega), List.getElem?_eq_getElem hi, List.getElem?_eq_getElem hq, Option.some.injEq]
      by_cases hv : p[i] = q[i] <;> simp [hv]
    · have c1 : ¬ decide (((List.length p : Nat) : Int) < ((List.length p : Nat) : Int)) = true := by simp
      simp only [laws_same_b0, if_neg c1]
  · rw [if_pos (by simp; omega), decide_eq_false]
    rintro rfl; exact he rfl
theorem sameDisk_refl {k : Nat} (hk : Big k) {p : TDisk} (h1 : p.Cells.length ≤ 2097152) (h2 : ∀ y ∈ p.Cells, y.B.length ≤ 2097152) (h3 : p.Wet.length ≤ 2097152) (h4 : ∀ y ∈ p.Wet, y.B.length ≤ 2097152) : laws_sameDisk k p p = some true := by
  rw [laws_sameDisk, if_neg (by simp)]
  have e1 := loopM_run0 (b := laws_sameDisk_b0 k p p) (k := k) (fun i => (i : Int)) p.Cells.length (r := .out (p.Cells.length : Int)) (fun t h => by cases h) (fun j hj => by
      have c1 : decide ((j : Int) < ((List.length p.Cells : Nat) : Int)) = true := by simp; omega
      have c2 : (0 : Int) ≤ (j : Int) ∧ (j : Int) < ((List.length p.Cells : Nat) : Int) := by omega
      have hb := h2 _ (List.getElem_mem hj)
      simp only [laws_sameDisk_b0, if_pos c1, if_pos c2, gt_nat hj, lsame_eq hk (p := p.Cells[j].B) (q := p.Cells[j].B) hb, w64s (n := j) (by omega)]
      simp) (by simp only [laws_sameDisk_b0]; rw [if_neg (by simp)]) (by have : 9223372036854775808 ≤ k := hk; omega)
  have e2 := loopM_run0 (b := laws_sameDisk_b1 k p p) (k := k) (fun i => (i : Int)) p.Wet.length (r := .out (p.Wet.length : Int)) (fun t h => by cases h) (fun j hj => by
      have c1 : decide ((j : Int) < ((List.length p.Wet : Nat) : Int)) = true := by simp; omega
      have c2 : (0 : Int) ≤ (j : Int) ∧ (j : Int) < ((List.length p.Wet : Nat) : Int) := by omega
      have hb := h4 _ (List.getElem_mem hj)
      simp only [laws_sameDisk_b1, if_pos c1, if_pos c2, gt_nat hj, lsame_eq hk (p := p.Wet[j].B) (q := p.Wet[j].B) hb, w64s (n := j) (by omega)]
      simp) (by simp only [laws_sameDisk_b1]; rw [if_neg (by simp)]) (by have : 9223372036854775808 ≤ k := hk; omega)
  have e1' : loopM (laws_sameDisk_b0 k p p) k 0 = _ := e1
  have e2' : loopM (laws_sameDisk_b1 k p p) k 0 = _ := e2
  rw [e1', some_bind]
  simp only
  rw [e2', some_bind]

theorem laws_FnLosses_true {p0 : List Int} (h0 : wfL wfU8 p0) : ∃ k, laws_FnLosses k p0 = some true := by
  refine ⟨9223372036854775808, ?_⟩
  generalize hK : 9223372036854775808 = k
  have hk : Big k := by rw [Big, hK]; exact Nat.le_refl _
  clear hK
  rw [laws_FnLosses, laws_big, some_bind]
  by_cases hl : ((List.length p0 : Nat) : Int) > 1048576
  · rw [if_pos (by simpa using hl)]
  rw [if_neg (by simpa using hl)]
  have hl' : p0.length ≤ 1048576 := by omega
  obtain ⟨hh, en⟩ := new_ok hk hl'
  obtain ⟨d, i1, h1, e1, o1, hd⟩ := drawDisk_ok hk (i := 0) (h := hh) ⟨Int.le_refl _, by omega⟩ hl'
  obtain ⟨hw, i2, h2, e2, o2, hwl⟩ := drawHow_ok hk (h := h1) o1 hl' (n := 12) (by omega)
  obtain ⟨v, i3, h3, e3, _, _⟩ := below_ok (h := h2) o2 hl' 4
  have eD : spec_DrawCrash k p0 = some (d, hw, wrap64 (v - 2)) := by
    rw [spec_DrawCrash, en, some_bind]
    simp only [e1, some_bind, e2, e3]
  rw [eD, some_bind]
  dsimp only
  rw [impl_crashD_eq hk hd.sm (by omega) (by omega), some_bind, spec_crashD_eq hk hd.sm (by omega) (by omega), some_bind]
  generalize hx : crashD d hw (-1) = x
  have hxs : smD 129 x := by rw [← hx]; exact crashD_sm hd.sm (by omega)
  have hxw : x.Wet = [] := by rw [← hx]; rfl
  have hxc : x.Cells = crashC d.Cells (d.Wet.zip hw) := by rw [← hx]; rfl
  rw [sameDisk_refl hk (by have := hxs.1; omega) (fun y hy => by have := hxs.2.1 y hy; omega) (by have := hxs.2.2.1; omega) (fun y hy => by have := hxs.2.2.2 y hy; omega), some_bind, if_neg (by simp)]
  have key := loopM_run0 (b := laws_FnLosses_b2 k (d, hw, wrap64 (v - 2)) x) (k := k) (fun i => (i : Int)) 8 (r := .out ((8 : Nat) : Int)) (fun t h => by cases h) (fun n hn => by
    have hc1 : ∀ c ∈ x.Cells, c.B.length ≤ 2097152 := fun c hc => by have := hxs.2.1 c hc; omega
    have hc2 : ∀ c ∈ d.Cells, c.B.length ≤ 2097152 := fun c hc => by have := (hd.2.1 c hc).1; omega
    have cn : decide ((n : Int) < 8) = true := by simp; omega
    have r1 := impl_read_dry hk (d := x) hxw (by have := hxs.1; omega) hc1 (n : Int)
    have r2 := impl_read_dry hk (d := ⟨d.Cells, [], 0, false⟩) rfl (by have := hd.1; simp only; omega) hc2 (n : Int)
    simp only [laws_FnLosses_b2, cn, if_true, r1, r2, some_bind]
    have ha := readC_len hc1 (n : Int)
    generalize hA : readC x.Cells (n : Int) = a at ha
    generalize hO : readC d.Cells (n : Int) = old
    rw [lsame_eq hk ha]
    simp only [some_bind]
    -- good ahead of the loop
    obtain ⟨g0, hg0⟩ : ∃ g0, g0 = (!a.2 || (old.2 && decide (a.1 = old.1))) := ⟨_, rfl⟩
    have eg : ((if (!a.2) = true then some true else (((if old.2 = true then some (decide (a.1 = old.1)) else some false)).bind fun c165 => some c165))) = some g0 := by
      rw [hg0]; cases a.2 <;> cases old.2 <;> rfl
    simp only [eg, some_bind]
    obtain ⟨o, e, hQ⟩ := loopM_ends (b := laws_FnLosses_b3 k (d, hw, wrap64 (v - 2)) (n : Int) a) (fun s => ∃ i : Nat, i ≤ d.Wet.length ∧ s.2.2 = (i : Int) ∧ (g0 = true → s.1 = true) ∧ (∀ j : Nat, j < i → (hj : j < d.Wet.length) → d.Wet[j].At = (n : Int) → s.2.1 = true ∧ (a.1 = d.Wet[j].B → s.1 = true))) (fun s => d.Wet.length - s.2.2.toNat)
      (fun o => ∃ s, o = .out s ∧ (g0 = true → s.1 = true) ∧ (∀ w ∈ d.Wet, w.At = (n : Int) → s.2.1 = true ∧ (a.1 = w.B → s.1 = true))) (fun s hs => by
        obtain ⟨good, wet, j⟩ := s
        obtain ⟨i, hi, rfl, q1, q2⟩ := hs
        simp only at q1 q2
        simp only [laws_FnLosses_b3]
        rcases Nat.lt_or_ge i d.Wet.length with hlt | hge
        · have hb := (hd.2.2.2 _ (List.getElem_mem hlt)).2.1
          have hw15 := hd.2.2.1
          have hmu : d.Wet.length - (((i + 1 : Nat) : Int)).toNat < d.Wet.length - ((i : Int)).toNat := by omega
          have ci : (0 : Int) ≤ (i : Int) ∧ (i : Int) < ((List.length d.Wet : Nat) : Int) := by omega
          rw [if_pos (by simp; omega), if_pos ci, gt_nat hlt, w64s (n := i) (by omega)]
          by_cases hat : d.Wet[i].At = (n : Int)
          · rw [if_pos (by simpa using hat), if_pos ci, lsame_eq hk ha, some_bind]
            cases good
            · rw [if_neg (by simp), some_bind]
              refine ⟨_, rfl, ⟨i + 1, hlt, rfl, (fun hg => by have := q1 hg; cases this), fun j hj hjl hja => ?_⟩, hmu⟩
              refine ⟨rfl, fun he => ?_⟩
              by_cases hji : j = i
              · subst hji; simpa using he
              · have := (q2 j (by omega) hjl hja).2 he; cases this
            · rw [if_pos rfl, some_bind]
              exact ⟨_, rfl, ⟨i + 1, hlt, rfl, fun _ => rfl, fun j hj hjl hja => ⟨rfl, fun _ => rfl⟩⟩, hmu⟩
          · rw [if_neg (by simpa using hat)]
            refine ⟨_, rfl, ⟨i + 1, hlt, rfl, q1, fun j hj hjl hja => ?_⟩, hmu⟩
            by_cases hji : j = i
            · subst hji; exact absurd hja hat
            · exact q2 j (by omega) hjl hja
        · rw [if_neg (by simp; omega)]
          refine ⟨_, rfl, _, rfl, q1, fun w hw ha => ?_⟩
          obtain ⟨j, hj, rfl⟩ := List.getElem_of_mem hw
          exact q2 j (by omega) hj ha) k (g0, false, 0) ⟨0, Nat.zero_le _, rfl, fun h => h, fun j hj => by omega⟩ (by have : 9223372036854775808 ≤ k := hk; have := hd.2.2.1; simp only; omega)
    obtain ⟨s, rfl, q1, q2⟩ := hQ
    obtain ⟨good, wet, j⟩ := s
    simp only at q1 q2
    rw [e, some_bind]
    simp only
    have hmain : good = true ∧ (wet = true ∨ (a.2 = old.2 ∧ a.1 = old.1)) := by
      rcases readC_crash n (d.Wet.zip hw) d.Cells with hr | ⟨z, hz, hzn, hr⟩
      · rw [← hxc, hA, hO] at hr
        subst hr
        exact ⟨q1 (by rw [hg0]; cases a.2 <;> simp), .inr ⟨rfl, rfl⟩⟩
      · rw [← hxc, hA] at hr
        have hmem := (List.of_mem_zip hz).1
        have h5 := q2 z.1 hmem hzn
        refine ⟨?_, .inl h5.1⟩
        rcases hr with hr | hr
        · exact q1 (by rw [hg0, hr]; rfl)
        · exact h5.2 (by rw [hr])
    obtain ⟨hg, hw2⟩ := hmain
    subst hg
    have ew : wrap64 ((n : Int) + 1) = ((n + 1 : Nat) : Int) := w64s (by omega)
    rcases hw2 with rfl | ⟨h6, h7⟩
    · simp [ew]
    · cases wet
      · simp [h6, h7, ew]
      · simp [ew]) (by simp only [laws_FnLosses_b2]; rw [if_neg (by decide)]) (by have : 9223372036854775808 ≤ k := hk; omega)
  have key' : loopM (laws_FnLosses_b2 k (d, hw, wrap64 (v - 2)) x) k 0 = _ := key
  rw [key', some_bind]

end Go.Proofs.Sx
