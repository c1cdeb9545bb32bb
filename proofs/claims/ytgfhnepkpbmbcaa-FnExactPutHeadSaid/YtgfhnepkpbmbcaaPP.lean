/- FnExactPutHead: the plain law. -/
import Derived.Test.YtgfhnepkpbmbcaaPX
import Derived.Test.YtgfhnepkpbmbcaaLP
namespace Go.Proofs.Sx
open Go.RowKit
set_option maxRecDepth 20000
set_option linter.unusedVariables false
set_option linter.unusedSimpArgs false
theorem impl_in_eq (x a b : Int) : impl_in x a b = some (decide (a ≤ x ∧ x ≤ b)) := by simp [impl_in, Bool.decide_and]

theorem spec_in_eq (x a b : Int) : spec_l1In x a b = some (decide (a ≤ x ∧ x ≤ b)) := by simp [spec_l1In, Bool.decide_and, ge_iff_le]


def pad (l : List Int) (n : Int) : List Int := if n ≤ 64 then l ++ List.replicate (n.toNat - l.length) 0 else l
theorem pad_len {l : List Int} {n : Int} (h0 : (l.length : Int) ≤ n) (h : n ≤ 64) : (pad l n).length = n.toNat := by
  unfold pad; rw [if_pos h]; simp; omega
theorem pad_trace {ρ : Type} {b : List Int → Option (Nx (List Int) ρ)} {l : List Int} {n : Int} {k : Nat} (hk : Big k) (hn : n ≤ 64)
    (hb : ∀ m : List Int, (m.length : Int) < n → b m = some (.next (m ++ [0]))) (he : ∀ m : List Int, ¬ (m.length : Int) < n → b m = some (.out m)) :
    loopM b k l = some (.out (l ++ List.replicate (n.toNat - l.length) 0)) := by
  have key := loopM_run0 (b := b) (k := k) (fun j => l ++ List.replicate j (0 : Int)) (n.toNat - l.length) (r := .out (l ++ List.replicate (n.toNat - l.length) 0)) (fun t h => by cases h) ?_ ?_ (by have : 9223372036854775808 ≤ k := hk; omega)
  · simpa using key
  · intro j hj
    rw [hb _ (by simp; omega), List.replicate_succ', List.append_assoc]
  · exact he _ (by simp; omega)
theorem spec_pad_eq {k : Nat} (hk : Big k) {l : List Int} {n : Int} (hl : l.length ≤ 2097152) : spec_Pad k l n = some (pad l n) := by
  unfold spec_Pad pad
  rw [if_pos (okLen_iff.2 (by simp; omega)), List.nil_append]
  by_cases hn : n ≤ 64
  · rw [pad_trace hk hn]
    · simp [hn]
    · intro m hm
      simp only [spec_Pad_b0]
      rw [if_pos (by simp [hm, hn]), if_pos (okLen_iff.2 (by simp; omega))]
    · intro m hm
      simp only [spec_Pad_b0]
      rw [if_neg (by simp [hm])]
  · have : loopM (spec_Pad_b0 n) k l = some (.out l) :=
      loopM_run0 (b := spec_Pad_b0 n) (fun _ => l) 0 (fun t h => by cases h) (fun j hj => by omega) (by simp only [spec_Pad_b0]; rw [if_neg (by simp [hn])]) (by have : 9223372036854775808 ≤ k := hk; omega)
    rw [this]; simp [hn]
theorem impl_pad_eq {k : Nat} (hk : Big k) {l : List Int} {n : Int} (hl : l.length ≤ 2097152) : impl_Pad k l n = some (pad l n) := by
  unfold impl_Pad pad
  simp only [slices_Clone_byte_byte]
  rw [if_pos (okLen_iff.2 (by omega)), some_bind]
  by_cases hn : n ≤ 64
  · rw [if_neg (by simp; omega), pad_trace hk hn]
    · simp [hn]
    · intro m hm
      simp only [impl_Pad_b0]
      rw [if_pos (by simp [hm]), if_pos (okLen_iff.2 (by simp; omega))]
    · intro m hm
      simp only [impl_Pad_b0]
      rw [if_neg (by simp [hm])]
  · rw [if_pos (by simp; omega)]; simp [hn]

def smD (M : Nat) (p : TDisk) : Prop := p.Cells.length ≤ M ∧ (∀ y ∈ p.Cells, y.B.length ≤ M) ∧ p.Wet.length ≤ M ∧ ∀ y ∈ p.Wet, y.B.length ≤ M
theorem smD.mono {M N : Nat} {p : TDisk} (h : smD M p) (hn : M ≤ N) : smD N p := ⟨Nat.le_trans h.1 hn, fun y hy => Nat.le_trans (h.2.1 y hy) hn, Nat.le_trans h.2.2.1 hn, fun y hy => Nat.le_trans (h.2.2.2 y hy) hn⟩
theorem spec_copyDisk_eq {k M : Nat} (hk : Big k) {p : TDisk} (h : smD M p) (hM : M ≤ 2097152) : spec_l18Copy k p = some p := by
  obtain ⟨h1, h2, h3, h4⟩ := h
  have e := loop_app2 (b := spec_l18Copy_b0 p) (k := k) (f := fun x : TCell => [x]) (p := p.Cells) (z := []) (B := 1) (by omega) hk (fun _ _ => Nat.le_refl _) (fun i hi l hl2 => by
      simp only [List.length_nil] at hl2
      have c1 : decide ((i : Int) < ((List.length p.Cells : Nat) : Int)) = true := by simp; omega
      have c2 : (0 : Int) ≤ (i : Int) ∧ (i : Int) < ((List.length p.Cells : Nat) : Int) := by omega
      have hn := h2 _ (List.getElem_mem hi)
      simp only [spec_l18Copy_b0, if_pos c1, if_pos c2, gt_nat hi, List.nil_append]
      rw [if_pos (okLen_iff.2 (by simp; omega)), if_pos (okLen_iff.2 (by simp; omega)), w64s (by omega)])
    (fun l => by simp only [spec_l18Copy_b0]; rw [if_neg (by simp)])
  have e2 := loop_app2 (b := spec_l18Copy_b1 p) (k := k) (f := fun x : TWet => [x]) (p := p.Wet) (z := []) (B := 1) (by omega) hk (fun _ _ => Nat.le_refl _) (fun i hi l hl2 => by
      simp only [List.length_nil] at hl2
      have c1 : decide ((i : Int) < ((List.length p.Wet : Nat) : Int)) = true := by simp; omega
      have c2 : (0 : Int) ≤ (i : Int) ∧ (i : Int) < ((List.length p.Wet : Nat) : Int) := by omega
      have hn := h4 _ (List.getElem_mem hi)
      simp only [spec_l18Copy_b1, if_pos c1, if_pos c2, gt_nat hi, List.nil_append]
      rw [if_pos (okLen_iff.2 (by simp; omega)), if_pos (okLen_iff.2 (by simp; omega)), w64s (by omega)])
    (fun l => by simp only [spec_l18Copy_b1]; rw [if_neg (by simp)])
  rw [spec_l18Copy, e, some_bind]
  simp only
  rw [e2, some_bind]
  simp only [List.nil_append, fm_single]
theorem impl_copyDisk_eq {k M : Nat} (hk : Big k) {p : TDisk} (h : smD M p) (hM : M ≤ 2097152) : impl_copyDisk k p = some p := by
  obtain ⟨h1, h2, h3, h4⟩ := h
  have e := loop_app2 (b := impl_copyDisk_b0 p) (k := k) (f := fun x : TCell => [x]) (p := p.Cells) (z := []) (B := 1) (by omega) hk (fun _ _ => Nat.le_refl _) (fun i hi l hl2 => by
      simp only [List.length_nil] at hl2
      have c1 : decide ((i : Int) < ((List.length p.Cells : Nat) : Int)) = true := by simp; omega
      have c2 : (0 : Int) ≤ (i : Int) ∧ (i : Int) < ((List.length p.Cells : Nat) : Int) := by omega
      have hn := h2 _ (List.getElem_mem hi)
      simp only [impl_copyDisk_b0, if_pos c1, if_pos c2, gt_nat hi, slices_Clone_byte_byte]
      rw [if_pos (okLen_iff.2 (by omega)), some_bind, if_pos (okLen_iff.2 (by simp; omega)), w64s (by omega)])
    (fun l => by simp only [impl_copyDisk_b0]; rw [if_neg (by simp)])
  have e2 := loop_app2 (b := impl_copyDisk_b1 p) (k := k) (f := fun x : TWet => [x]) (p := p.Wet) (z := []) (B := 1) (by omega) hk (fun _ _ => Nat.le_refl _) (fun i hi l hl2 => by
      simp only [List.length_nil] at hl2
      have c1 : decide ((i : Int) < ((List.length p.Wet : Nat) : Int)) = true := by simp; omega
      have c2 : (0 : Int) ≤ (i : Int) ∧ (i : Int) < ((List.length p.Wet : Nat) : Int) := by omega
      have hn := h4 _ (List.getElem_mem hi)
      simp only [impl_copyDisk_b1, if_pos c1, if_pos c2, gt_nat hi, slices_Clone_byte_byte]
      rw [if_pos (okLen_iff.2 (by omega)), some_bind, if_pos (okLen_iff.2 (by simp; omega)), w64s (by omega)])
    (fun l => by simp only [impl_copyDisk_b1]; rw [if_neg (by simp)])
  rw [impl_copyDisk, e, some_bind]
  simp only
  rw [e2, some_bind]
  simp only [List.nil_append, fm_single]
def burn (p : TDisk) : Bool × TDisk := if p.Dead = true then (false, p) else if p.Fuse = 0 then (false, ⟨p.Cells, p.Wet, p.Fuse, true⟩) else if p.Fuse > 0 then (true, ⟨p.Cells, p.Wet, wrap64 (p.Fuse - 1), p.Dead⟩) else (true, p)
theorem spec_burn_eq (p : TDisk) : spec_l18Burn p = some (burn p) := by
  simp only [spec_l18Burn, burn, decide_eq_true_eq]
  split
  · rfl
  · split
    · rfl
    · split <;> rfl
theorem impl_burn_eq (p : TDisk) : impl_Disk_burn p = some (burn p) := by
  simp only [impl_Disk_burn, burn, decide_eq_true_eq]
  split
  · rfl
  · split
    · rfl
    · split <;> rfl
def writeD (p : TDisk) (s : Int) (b : List Int) : TDisk := if (burn p).1 = true ∧ (0 ≤ s ∧ s ≤ 113) ∧ b.length ≤ 32 then ⟨p.Cells, p.Wet ++ [⟨s, pad b 32⟩], (burn p).2.Fuse, (burn p).2.Dead⟩ else ⟨p.Cells, p.Wet, (burn p).2.Fuse, (burn p).2.Dead⟩
theorem writeD_sm {M : Nat} {p : TDisk} (h : smD M p) {s : Int} {b : List Int} (hM : 32 ≤ M) : smD (M + 1) (writeD p s b) := by
  obtain ⟨h1, h2, h3, h4⟩ := h
  unfold writeD
  split
  · rename_i hc
    refine ⟨by simp only; omega, fun y hy => by have := h2 y hy; omega, by simp only [List.length_append, List.length_cons, List.length_nil]; omega, fun y hy => ?_⟩
    simp only [List.mem_append, List.mem_cons, List.not_mem_nil, or_false] at hy
    rcases hy with hy | rfl
    · have := h4 y hy; omega
    · have := pad_len (l := b) (n := 32) (by omega) (by omega); simp only [this]; omega
  · exact ⟨by simp only; omega, fun y hy => by have := h2 y hy; omega, by simp only; omega, fun y hy => by have := h4 y hy; omega⟩
theorem spec_writeD_eq {k M : Nat} (hk : Big k) {p : TDisk} (h : smD M p) (hM : M ≤ 2097152) {s : Int} {b : List Int} (hb : b.length ≤ 2097152) : spec_Write k p s b = some (writeD p s b) := by
  have h3 := h.2.2.1
  rw [spec_Write, spec_copyDisk_eq hk h hM, some_bind, spec_burn_eq, some_bind, spec_in_eq, writeD]
  rw [spec_pad_eq hk (by omega)]
  simp only [some_bind]
  rw [if_pos (c := okLen _ = true) (okLen_iff.2 (by simp; omega))]
  cases (burn p).1 <;> by_cases hs : 0 ≤ s ∧ s ≤ 113 <;> by_cases hl : b.length ≤ 32
  all_goals (have hl2 : ((List.length b : Nat) : Int) ≤ 32 ↔ b.length ≤ 32 := by omega)
  all_goals simp [hs, hl, hl2]
theorem impl_writeD_eq {k M : Nat} (hk : Big k) {p : TDisk} (h : smD M p) (hM : M ≤ 2097152) {s : Int} {b : List Int} (hb : b.length ≤ 2097152) : impl_Write k p s b = some (writeD p s b) := by
  have h3 := h.2.2.1
  rw [impl_Write, impl_copyDisk_eq hk h hM, some_bind, impl_burn_eq, some_bind, impl_in_eq, writeD]
  rw [impl_pad_eq hk (by omega)]
  simp only [some_bind]
  rw [if_pos (c := okLen _ = true) (okLen_iff.2 (by simp; omega))]
  cases (burn p).1 <;> by_cases hs : 0 ≤ s ∧ s ≤ 113 <;> by_cases hl : b.length ≤ 32
  all_goals (have hl2 : ((List.length b : Nat) : Int) ≤ 32 ↔ b.length ≤ 32 := by omega)
  all_goals simp [hs, hl, hl2]
theorem smD_of {N : Nat} {p : TDisk} (h : smTDisk N p) : smD N p := ⟨h.1.1, fun y hy => (h.1.2 y hy).2.1, h.2.1.1, fun y hy => (h.2.1.2 y hy).2.1⟩
theorem smD_to {N : Nat} {p : TDisk} (h : smD N p) : smTDisk N p := ⟨⟨h.1, fun y hy => ⟨trivial, h.2.1 y hy, fun _ _ => trivial⟩⟩, ⟨h.2.2.1, fun y hy => ⟨trivial, h.2.2.2 y hy, fun _ _ => trivial⟩⟩, trivial, trivial⟩

def headOk (p : THead) : Bool := decide (1 ≤ p.Epoch ∧ p.Epoch ≤ 60000) && decide (0 ≤ p.Seq ∧ p.Seq ≤ 65535) && decide (1 ≤ p.Size ∧ p.Size ≤ 48) && decide (0 ≤ p.Root ∧ p.Root ≤ wrap64 (p.Size - 1))
theorem spec_headOk_eq (p : THead) : spec_HeadOk p = some (headOk p) := by
  simp only [spec_HeadOk, spec_in_eq, some_bind, headOk]
  generalize decide (1 ≤ p.Epoch ∧ p.Epoch ≤ 60000) = a
  generalize decide (0 ≤ p.Seq ∧ p.Seq ≤ 65535) = b
  generalize decide (1 ≤ p.Size ∧ p.Size ≤ 48) = c
  generalize decide (0 ≤ p.Root ∧ p.Root ≤ wrap64 (p.Size - 1)) = d
  cases a <;> cases b <;> cases c <;> cases d <;> rfl
theorem impl_headOk_eq (p : THead) : impl_HeadOk p = some (headOk p) := by
  rw [← spec_headOk_eq]; rfl

def put2 (l : List Int) (x : Int) : List Int := if 0 ≤ x ∧ x ≤ 65535 then l ++ [x / 256, x % 256] else l
theorem put2_len (l : List Int) (x : Int) : (put2 l x).length ≤ l.length + 2 := by
  unfold put2; split <;> simp
theorem spec_put2_eq {l : List Int} {x : Int} (h : okLen (l.length + 2) = true) : spec_Put2 l x = some (put2 l x) := by
  have h1 : okLen l.length = true := okLen_le h (by omega)
  simp only [spec_Put2, spec_in_eq, some_bind, List.nil_append, List.length_nil, Nat.zero_add, h1, if_true, List.length_cons, h, put2]
  by_cases hx : 0 ≤ x ∧ x ≤ 65535
  · have e1 : Int.tdiv x 256 = x / 256 := tdiv_pos hx.1
    have e2 : Int.tmod x 256 = x % 256 := tmod_pos hx.1
    simp only [hx, decide_true, Bool.not_true, Bool.false_eq_true, if_false, if_true, and_self, e1, e2, u8w]
    rw [w64 (by omega) (by omega)]
    have e3 : x / 256 % 256 = x / 256 := by omega
    have e4 : x % 256 % 256 = x % 256 := by omega
    rw [e3, e4]
  · simp [hx]
theorem impl_put2_eq {l : List Int} {x : Int} (h : okLen (l.length + 2) = true) : impl_Put2 l x = some (put2 l x) := by
  have h1 : okLen l.length = true := okLen_le h (by omega)
  simp only [impl_Put2, slices_Clone_byte_byte, impl_in_eq, some_bind, h1, if_true, List.length_cons, List.length_nil, Nat.zero_add, h, put2]
  by_cases hx : 0 ≤ x ∧ x ≤ 65535
  · simp only [hx, decide_true, Bool.not_true, Bool.false_eq_true, if_false, if_true, and_self, u8w, sh8]
    rw [fdiv_pos (by omega)]
    have e3 : x / 256 % 256 = x / 256 := by omega
    rw [e3]
  · simp [hx]

def headCell (p : THead) : List Int := if headOk p = true then put2 (put2 [3] p.Epoch) p.Seq ++ [p.Root % 256, p.Size % 256] else []
theorem headCell_len (p : THead) : (headCell p).length ≤ 7 := by
  unfold headCell
  split
  · have h1 := put2_len (put2 [3] p.Epoch) p.Seq
    have h2 := put2_len [3] p.Epoch
    simp only [List.length_append, List.length_cons, List.length_nil] at *
    omega
  · simp
theorem spec_headCell_eq (p : THead) : spec_HeadCell p = some (headCell p) := by
  have h2 := put2_len [3] p.Epoch
  have h1 := put2_len (put2 [3] p.Epoch) p.Seq
  simp only [List.length_cons, List.length_nil] at h1 h2
  have k1 : okLen (([3] : List Int).length + 2) = true := rfl
  have k2 : okLen ((put2 [3] p.Epoch).length + 2) = true := okLen_iff.2 (by omega)
  have k3 : okLen ((put2 (put2 [3] p.Epoch) p.Seq).length + 2) = true := okLen_iff.2 (by omega)
  simp only [spec_HeadCell, spec_headOk_eq, some_bind, spec_put2_eq (x := p.Epoch) k1, spec_put2_eq (x := p.Seq) k2, headCell, u8w, List.length_cons, List.length_nil, Nat.zero_add, Nat.reduceAdd, k3, if_true]
  cases headOk p <;> rfl
theorem impl_headCell_eq (p : THead) : impl_HeadCell p = some (headCell p) := by
  have h2 := put2_len [3] p.Epoch
  have h1 := put2_len (put2 [3] p.Epoch) p.Seq
  simp only [List.length_cons, List.length_nil] at h1 h2
  have k1 : okLen (([3] : List Int).length + 2) = true := rfl
  have k2 : okLen ((put2 [3] p.Epoch).length + 2) = true := okLen_iff.2 (by omega)
  have k3 : okLen ((put2 (put2 [3] p.Epoch) p.Seq).length + 2) = true := okLen_iff.2 (by omega)
  simp only [impl_HeadCell, impl_headOk_eq, some_bind, impl_put2_eq (x := p.Epoch) k1, impl_put2_eq (x := p.Seq) k2, headCell, u8w, List.length_cons, List.length_nil, Nat.zero_add, Nat.reduceAdd, k3, if_true]
  cases headOk p <;> rfl

theorem putHead_both {k : Nat} (hk : Big k) {p : TDisk} {d : THead} (h : smTDisk 1048576 p) (hd : smTHead 1048576 d) (w : wfTDisk p) (w1 : wfTHead d) : ∃ g, spec_PutHead k p d = some g ∧ impl_PutHead k p d = some g ∧ smTDisk 1114112 g := by
  have hs := smD_of h
  have hl := headCell_len d
  rw [spec_PutHead, impl_PutHead, spec_headOk_eq, impl_headOk_eq, spec_copyDisk_eq hk hs (by omega), impl_copyDisk_eq hk hs (by omega), spec_headCell_eq, impl_headCell_eq]
  simp only [some_bind]
  cases headOk d
  · exact ⟨_, rfl, rfl, smD_to (hs.mono (by omega))⟩
  · refine ⟨writeD p (Int.tmod d.Epoch 2) (headCell d), ?_, ?_, smD_to ((writeD_sm hs (by omega)).mono (by omega))⟩
    · simp [spec_writeD_eq hk hs (s := Int.tmod d.Epoch 2) (b := headCell d) (by omega) (by omega)]
    · simp [impl_writeD_eq hk hs (s := Int.tmod d.Epoch 2) (b := headCell d) (by omega) (by omega)]
theorem laws_FnExactPutHead_true {p0 : TDisk} {p1 : THead} (h0 : wfTDisk p0) (h1 : wfTHead p1) : ∃ k, laws_FnExactPutHead k p0 p1 = some true := by
  refine ⟨9223372036854775808, ?_⟩
  generalize hK : 9223372036854775808 = k
  have hk : Big k := by rw [Big, hK]; exact Nat.le_refl _
  clear hK
  have hN : (1048576 : Nat) ≤ 1114112 := by omega
  have hM : (1114112 : Nat) ≤ 1114112 := Nat.le_refl _
  rw [laws_FnExactPutHead]
  obtain ⟨r0, e0, l0, g0, s0⟩ := sz_Disk hk p0 h0 (m := 1048576) (by omega) (by omega)
  rw [e0, Option.bind_some]
  by_cases z0 : r0 < 0
  · simp [z0]
  rw [if_neg (by simpa using z0)]
  have hs0 := s0 (by omega)
  have hs1 : (smTHead 1048576) p1 := ⟨trivial, trivial, trivial, trivial⟩
  obtain ⟨g, eS, eI, hg⟩ := putHead_both hk hs0 hs1 h0 h1
  have t0 := to_Disk hk hN p0 hs0
  have q0 := eq_Disk hk hN p0 p0 hs0
  have b0_0 := bd_CellS hN p0.Cells (hs0.1)
  have b0_1 := bd_WetS hN p0.Wet (hs0.2.1)
  have k0 := mark_Disk hk hN p0 hs0 (m := 1) (by omega) (by omega)
  have zp0 : ¬ (1 + (sumL cn_Cell p0.Cells : Int) + (sumL cn_Wet p0.Wet : Int) < 0) := by omega
  have t1 := to_Head hk hN p1 hs1
  have qr0 := eq_Disk hk hM g g (hg)
  have br0_0 := bd_CellS hM g.Cells ((hg).1)
  have br0_1 := bd_WetS hM g.Wet ((hg).2.1)
  have kr0 := mark_Disk hk hM g (hg) (m := 1) (by omega) (by omega)
  have hr0 := held_Disk hk hM g (hg) (m := 1) (by omega) (by omega)
  have zr0 : ¬ (1 + (sumL cn_Cell g.Cells : Int) + (sumL cn_Wet g.Wet : Int) < 0) := by omega
  simp [eS, eI, t0, q0, k0, zp0, t1, qr0, kr0, hr0, zr0, markL_length]

end Go.Proofs.Sx
