/- FnHeads: the plain law. -/
import Derived.Test.YtkhommmhkeohbaaQcX
import Derived.Test.YtkhommmhkeohbaaLP
namespace Go.Proofs.Sx
open Go.RowKit
set_option maxRecDepth 20000
set_option linter.unusedVariables false
set_option linter.unusedSimpArgs false
theorem impl_in_eq (x a b : Int) : impl_in x a b = some (decide (a ≤ x ∧ x ≤ b)) := by simp [impl_in, Bool.decide_and]

theorem spec_in_eq (x a b : Int) : spec_l1In x a b = some (decide (a ≤ x ∧ x ≤ b)) := by simp [spec_l1In, Bool.decide_and, ge_iff_le]


def headOk (p : THead) : Bool := decide (1 ≤ p.Epoch ∧ p.Epoch ≤ 60000) && decide (0 ≤ p.Seq ∧ p.Seq ≤ 65535) && decide (1 ≤ p.Size ∧ p.Size ≤ 48) && decide (0 ≤ p.Root ∧ p.Root ≤ wrap64 (p.Size - 1))
theorem spec_headOk_eq (p : THead) : spec_HeadOk p = some (headOk p) := by
  simp only [spec_HeadOk, spec_in_eq, some_bind, headOk]
  generalize decide (1 ≤ p.Epoch ∧ p.Epoch ≤ 60000) = a
  generalize decide (0 ≤ p.Seq ∧ p.Seq ≤ 65535) = b
  generalize decide (1 ≤ p.Size ∧ p.Size ≤ 48) = c
  generalize decide (0 ≤ p.Root ∧ p.Root ≤ wrap64 (p.Size - 1)) = d
  cases a <;> cases b <;> cases c <;> cases d <;> rfl
theorem impl_headOk_eq (p : THead) : impl_HeadOk p = some (headOk p) := by
  rw [← spec_headOk_eq]; rfl

def put2 (l : List Int) (x : Int) : List Int := if 0 ≤ x ∧ x ≤ 65535 then l ++ [x / 256, x % 256] else l
theorem put2_len (l : List Int) (x : Int) : (put2 l x).length ≤ l.length + 2 := by
  unfold put2; split <;> simp
theorem spec_put2_eq {l : List Int} {x : Int} (h : okLen (l.length + 2) = true) : spec_Put2 l x = some (put2 l x) := by
  have h1 : okLen l.length = true := okLen_le h (by omega)
  simp only [spec_Put2, spec_in_eq, some_bind, List.nil_append, List.length_nil, Nat.zero_add, h1, if_true, List.length_cons, h, put2]
  by_cases hx : 0 ≤ x ∧ x ≤ 65535
  · have e1 : Int.tdiv x 256 = x / 256 := tdiv_pos hx.1
    have e2 : Int.tmod x 256 = x % 256 := tmod_pos hx.1
    simp only [hx, decide_true, Bool.not_true, Bool.false_eq_true, if_false, if_true, and_self, e1, e2, u8w]
    rw [w64 (by omega) (by omega)]
    have e3 : x / 256 % 256 = x / 256 := by omega
    have e4 : x % 256 % 256 = x % 256 := by omega
    rw [e3, e4]
  · simp [hx]
theorem impl_put2_eq {l : List Int} {x : Int} (h : okLen (l.length + 2) = true) : impl_Put2 l x = some (put2 l x) := by
  have h1 : okLen l.length = true := okLen_le h (by omega)
  simp only [impl_Put2, slices_Clone_byte_byte, impl_in_eq, some_bind, h1, if_true, List.length_cons, List.length_nil, Nat.zero_add, h, put2]
  by_cases hx : 0 ≤ x ∧ x ≤ 65535
  · simp only [hx, decide_true, Bool.not_true, Bool.false_eq_true, if_false, if_true, and_self, u8w, sh8]
    rw [fdiv_pos (by omega)]
    have e3 : x / 256 % 256 = x / 256 := by omega
    rw [e3]
  · simp [hx]

def headCell (p : THead) : List Int := if headOk p = true then put2 (put2 [3] p.Epoch) p.Seq ++ [p.Root % 256, p.Size % 256] else []
theorem headCell_len (p : THead) : (headCell p).length ≤ 7 := by
  unfold headCell
  split
  · have h1 := put2_len (put2 [3] p.Epoch) p.Seq
    have h2 := put2_len [3] p.Epoch
    simp only [List.length_append, List.length_cons, List.length_nil] at *
    omega
  · simp
theorem spec_headCell_eq (p : THead) : spec_HeadCell p = some (headCell p) := by
  have h2 := put2_len [3] p.Epoch
  have h1 := put2_len (put2 [3] p.Epoch) p.Seq
  simp only [List.length_cons, List.length_nil] at h1 h2
  have k1 : okLen (([3] : List Int).length + 2) = true := rfl
  have k2 : okLen ((put2 [3] p.Epoch).length + 2) = true := okLen_iff.2 (by omega)
  have k3 : okLen ((put2 (put2 [3] p.Epoch) p.Seq).length + 2) = true := okLen_iff.2 (by omega)
  simp only [spec_HeadCell, spec_headOk_eq, some_bind, spec_put2_eq (x := p.Epoch) k1, spec_put2_eq (x := p.Seq) k2, headCell, u8w, List.length_cons, List.length_nil, Nat.zero_add, Nat.reduceAdd, k3, if_true]
  cases headOk p <;> rfl
theorem impl_headCell_eq (p : THead) : impl_HeadCell p = some (headCell p) := by
  have h2 := put2_len [3] p.Epoch
  have h1 := put2_len (put2 [3] p.Epoch) p.Seq
  simp only [List.length_cons, List.length_nil] at h1 h2
  have k1 : okLen (([3] : List Int).length + 2) = true := rfl
  have k2 : okLen ((put2 [3] p.Epoch).length + 2) = true := okLen_iff.2 (by omega)
  have k3 : okLen ((put2 (put2 [3] p.Epoch) p.Seq).length + 2) = true := okLen_iff.2 (by omega)
  simp only [impl_HeadCell, impl_headOk_eq, some_bind, impl_put2_eq (x := p.Epoch) k1, impl_put2_eq (x := p.Seq) k2, headCell, u8w, List.length_cons, List.length_nil, Nat.zero_add, Nat.reduceAdd, k3, if_true]
  cases headOk p <;> rfl

theorem gt_mem {α : Type} [Inhabited α] {l : List α} {i : Int} (h0 : 0 ≤ i) (h : i < (l.length : Int)) : gt l i ∈ l := by
  obtain ⟨hi, e⟩ := gt_eq h0 h
  rw [e]; exact List.getElem_mem hi
theorem or_bytes {a b : Int} (ha : 0 ≤ a) (ha2 : a ≤ 255) (hb : 0 ≤ b) (hb2 : b ≤ 255) : bits2 (· ||| ·) (wrap64 (a * 256)) b = 256 * a + b := by
  obtain ⟨x, rfl⟩ := Int.eq_ofNat_of_zero_le ha
  obtain ⟨y, rfl⟩ := Int.eq_ofNat_of_zero_le hb
  rw [w64 (by omega) (by omega)]
  unfold bits2
  have e1 : ((x : Int) * 256) = ((2 ^ 8 * x : Nat) : Int) := by omega
  rw [e1, BitVec.ofInt_natCast, BitVec.ofInt_natCast, BitVec.toNat_or, BitVec.toNat_ofNat, BitVec.toNat_ofNat, Nat.mod_eq_of_lt (by omega), Nat.mod_eq_of_lt (by omega), ← Nat.two_pow_add_eq_or_of_lt (by omega), w64 (by omega) (by omega)]
  omega
def get2 (l : List Int) (i : Int) : Int × Bool := if i < 0 ∨ i > (l.length : Int) - 2 then (0, false) else (256 * gt l i + gt l (i + 1), true)
theorem get2_facts {l : List Int} {i : Int} (hw : ∀ x ∈ l, wfU8 x) (hl : l.length ≤ 2097152) (h : ¬ (i < 0 ∨ i > (l.length : Int) - 2)) :
    wfU8 (gt l i) ∧ wfU8 (gt l (i + 1)) ∧ wrap64 (i + 1) = i + 1 ∧ (0 ≤ i ∧ i < (l.length : Int)) ∧ (0 ≤ i + 1 ∧ i + 1 < (l.length : Int)) := by
  refine ⟨hw _ (gt_mem (by omega) (by omega)), hw _ (gt_mem (by omega) (by omega)), w64 (by omega) (by omega), by omega, by omega⟩
theorem spec_get2_eq {l : List Int} {i : Int} (hw : ∀ x ∈ l, wfU8 x) (hl : l.length ≤ 2097152) : spec_Get2 l i = some (get2 l i) := by
  unfold spec_Get2 get2
  rw [w64 (n := (l.length : Int) - 2) (by omega) (by omega)]
  by_cases h : i < 0 ∨ i > (l.length : Int) - 2
  · simp [h]
  · obtain ⟨⟨a1, a2⟩, ⟨b1, b2⟩, e, h1, h2⟩ := get2_facts hw hl h
    rw [if_neg (by simpa using h), e, if_pos h1, if_pos h2, if_neg h]
    rw [i64w, i64w, w64 (n := gt l i) (by omega) (by omega), w64 (n := gt l (i + 1)) (by omega) (by omega), w64 (n := 256 * gt l i) (by omega) (by omega), w64 (by omega) (by omega)]
theorem impl_get2_eq {l : List Int} {i : Int} (hw : ∀ x ∈ l, wfU8 x) (hl : l.length ≤ 2097152) : impl_Get2 l i = some (get2 l i) := by
  unfold impl_Get2 get2
  rw [w64 (n := (l.length : Int) - 2) (by omega) (by omega)]
  by_cases h : i < 0 ∨ i > (l.length : Int) - 2
  · simp [h]
  · obtain ⟨⟨a1, a2⟩, ⟨b1, b2⟩, e, h1, h2⟩ := get2_facts hw hl h
    rw [if_neg (by simpa using h), e, if_pos h1, if_pos h2, if_neg h]
    rw [i64w, i64w, w64 (n := gt l i) (by omega) (by omega), w64 (n := gt l (i + 1)) (by omega) (by omega), sh8, or_bytes a1 a2 b1 b2]

def pad (l : List Int) (n : Int) : List Int := if n ≤ 64 then l ++ List.replicate (n.toNat - l.length) 0 else l
theorem pad_len {l : List Int} {n : Int} (h0 : (l.length : Int) ≤ n) (h : n ≤ 64) : (pad l n).length = n.toNat := by
  unfold pad; rw [if_pos h]; simp; omega
theorem pad_trace {ρ : Type} {b : List Int → Option (Nx (List Int) ρ)} {l : List Int} {n : Int} {k : Nat} (hk : Big k) (hn : n ≤ 64)
    (hb : ∀ m : List Int, (m.length : Int) < n → b m = some (.next (m ++ [0]))) (he : ∀ m : List Int, ¬ (m.length : Int) < n → b m = some (.out m)) :
    loopM b k l = some (.out (l ++ List.replicate (n.toNat - l.length) 0)) := by
  have key := loopM_run0 (b := b) (k := k) (fun j => l ++ List.replicate j (0 : Int)) (n.toNat - l.length) (r := .out (l ++ List.replicate (n.toNat - l.length) 0)) (fun t h => by cases h) ?_ ?_ (by have : 9223372036854775808 ≤ k := hk; omega)
  · simpa using key
  · intro j hj
    rw [hb _ (by simp; omega), List.replicate_succ', List.append_assoc]
  · exact he _ (by simp; omega)
theorem spec_pad_eq {k : Nat} (hk : Big k) {l : List Int} {n : Int} (hl : l.length ≤ 2097152) : spec_Pad k l n = some (pad l n) := by
  unfold spec_Pad pad
  rw [if_pos (okLen_iff.2 (by simp; omega)), List.nil_append]
  by_cases hn : n ≤ 64
  · rw [pad_trace hk hn]
    · simp [hn]
    · intro m hm
      simp only [spec_Pad_b0]
      rw [if_pos (by simp [hm, hn]), if_pos (okLen_iff.2 (by simp; omega))]
    · intro m hm
      simp only [spec_Pad_b0]
      rw [if_neg (by simp [hm])]
  · have : loopM (spec_Pad_b0 n) k l = some (.out l) :=
      loopM_run0 (b := spec_Pad_b0 n) (fun _ => l) 0 (fun t h => by cases h) (fun j hj => by omega) (by simp only [spec_Pad_b0]; rw [if_neg (by simp [hn])]) (by have : 9223372036854775808 ≤ k := hk; omega)
    rw [this]; simp [hn]
theorem impl_pad_eq {k : Nat} (hk : Big k) {l : List Int} {n : Int} (hl : l.length ≤ 2097152) : impl_Pad k l n = some (pad l n) := by
  unfold impl_Pad pad
  simp only [slices_Clone_byte_byte]
  rw [if_pos (okLen_iff.2 (by omega)), some_bind]
  by_cases hn : n ≤ 64
  · rw [if_neg (by simp; omega), pad_trace hk hn]
    · simp [hn]
    · intro m hm
      simp only [impl_Pad_b0]
      rw [if_pos (by simp [hm]), if_pos (okLen_iff.2 (by simp; omega))]
    · intro m hm
      simp only [impl_Pad_b0]
      rw [if_neg (by simp [hm])]
  · rw [if_pos (by simp; omega)]; simp [hn]

theorem same_eq {k : Nat} (hk : Big k) {N : Nat} (hN : N ≤ 1114112) (p q : (List Int)) (h : (smL N (smT N)) p) : spec_l6Same k p q = some (decide (p = q)) := by
  rw [spec_l6Same]
  have hl := h.1
  by_cases he : p.length = q.length
  · rw [if_neg (by simp [he])]
    rw [loop_all (c := fun i => decide (p[i]? = q[i]?)) (n := p.length) (r := false) (by omega) hk]
    · by_cases hpq : p = q
      · subst hpq; simp
      · rw [if_neg, decide_eq_false hpq]
        · rfl
        · intro hh
          exact hpq (List.ext_getElem? fun i => by
            by_cases hi : i < p.length
            · simpa using hh i hi
            · rw [List.getElem?_eq_none (by omega), List.getElem?_eq_none (by omega)])
    · intro i hi
      have c1 : decide ((i : Int) < ((List.length p : Nat) : Int)) = true := by simp; omega
      have c2 : (0 : Int) ≤ (i : Int) ∧ (i : Int) < ((List.length p : Nat) : Int) := by omega
      have c3 : (0 : Int) ≤ (i : Int) ∧ (i : Int) < ((List.length q : Nat) : Int) := by omega
      have hq : i < q.length := by omega
      simp only [spec_l6Same_b0, if_pos c1, if_pos c2, if_pos c3, gt_nat hi, gt_nat hq, w64s (n := i) (by omega), List.getElem?_eq_getElem hi, List.getElem?_eq_getElem hq, Option.some.injEq]
      by_cases hv : p[i] = q[i] <;> simp [hv]
    · have c1 : ¬ decide (((List.length p : Nat) : Int) < ((List.length p : Nat) : Int)) = true := by simp
      simp only [spec_l6Same_b0, if_neg c1]
  · rw [if_pos (by simp; omega), decide_eq_false]
    rintro rfl; exact he rfl

theorem headCell_wf (p : THead) : ∀ x ∈ headCell p, wfU8 x := by
  intro x hx
  have hp : ∀ (l : List Int) (y : Int), (∀ x ∈ l, wfU8 x) → ∀ x ∈ put2 l y, wfU8 x := by
    intro l y hl x hx
    unfold put2 at hx
    split at hx
    · simp only [List.mem_append, List.mem_cons, List.not_mem_nil, or_false] at hx
      rcases hx with h | h | h
      · exact hl x h
      · subst h; constructor <;> omega
      · subst h; constructor <;> omega
    · exact hl x hx
  unfold headCell at hx
  split at hx
  · simp only [List.mem_append, List.mem_cons, List.not_mem_nil, or_false] at hx
    rcases hx with h | h | h
    · refine hp _ _ (hp _ _ ?_) x h
      intro z hz; simp at hz; subst hz; constructor <;> omega
    · subst h; constructor <;> omega
    · subst h; constructor <;> omega
  · simp at hx
theorem pad_wf {l : List Int} {n : Int} (h : ∀ x ∈ l, wfU8 x) : ∀ x ∈ pad l n, wfU8 x := by
  intro x hx
  unfold pad at hx
  split at hx
  · rcases List.mem_append.1 hx with h1 | h1
    · exact h x h1
    · rw [List.eq_of_mem_replicate h1]; constructor <;> omega
  · exact h x hx
theorem getHead_eq {k : Nat} (hk : Big k) {l : List Int} (hw : ∀ x ∈ l, wfU8 x) (hl : l.length ≤ 1048576) : ∃ r, spec_GetHead k l = some r ∧ impl_GetHead k l = some r := by
  unfold spec_GetHead impl_GetHead
  by_cases h : ((List.length l : Nat) : Int) = 32
  · rw [if_neg (by simp [h]), if_neg (by simp [h]), spec_get2_eq hw (by omega), spec_get2_eq hw (by omega), impl_get2_eq hw (by omega), impl_get2_eq hw (by omega)]
    simp only [some_bind]
    rw [if_pos (by omega), if_pos (by omega), if_pos (by omega), if_pos (by omega), spec_headOk_eq, impl_headOk_eq]
    simp only [some_bind]
    generalize (⟨(get2 l 1).1, (get2 l 3).1, IntKind.i64.wrap (gt l 5), IntKind.i64.wrap (gt l 6)⟩ : THead) = hd
    cases headOk hd
    · exact ⟨_, rfl, rfl⟩
    · have h7 := headCell_len hd
      have hpl : (pad (headCell hd) 32).length = 32 := pad_len (by omega) (by omega)
      simp only [spec_headCell_eq, impl_headCell_eq, some_bind, spec_pad_eq hk (l := headCell hd) (n := 32) (by omega), impl_pad_eq hk (l := headCell hd) (n := 32) (by omega), bytes_Equal, Bool.not_true, Bool.false_eq_true, if_false,
        same_eq hk (N := 1048576) (by omega) (pad (headCell hd) 32) l ⟨by omega, fun _ _ => trivial⟩, str_eq (pad_wf (n := 32) (headCell_wf hd)) hw]
      split <;> exact ⟨_, rfl, rfl⟩
  · rw [if_pos (by simp [h]), if_pos (by simp [h])]
    exact ⟨_, rfl, rfl⟩

def smD (M : Nat) (p : TDisk) : Prop := p.Cells.length ≤ M ∧ (∀ y ∈ p.Cells, y.B.length ≤ M) ∧ p.Wet.length ≤ M ∧ ∀ y ∈ p.Wet, y.B.length ≤ M
theorem smD.mono {M N : Nat} {p : TDisk} (h : smD M p) (hn : M ≤ N) : smD N p := ⟨Nat.le_trans h.1 hn, fun y hy => Nat.le_trans (h.2.1 y hy) hn, Nat.le_trans h.2.2.1 hn, fun y hy => Nat.le_trans (h.2.2.2 y hy) hn⟩
theorem spec_copyDisk_eq {k M : Nat} (hk : Big k) {p : TDisk} (h : smD M p) (hM : M ≤ 2097152) : spec_l18Copy k p = some p := by
  obtain ⟨h1, h2, h3, h4⟩ := h
  have e := loop_app2 (b := spec_l18Copy_b0 p) (k := k) (f := fun x : TCell => [x]) (p := p.Cells) (z := []) (B := 1) (by omega) hk (fun _ _ => Nat.le_refl _) (fun i hi l hl2 => by
      simp only [List.length_nil] at hl2
      have c1 : decide ((i : Int) < ((List.length p.Cells : Nat) : Int)) = true := by simp; omega
      have c2 : (0 : Int) ≤ (i : Int) ∧ (i : Int) < ((List.length p.Cells : Nat) : Int) := by omega
      have hn := h2 _ (List.getElem_mem hi)
      simp only [spec_l18Copy_b0, if_pos c1, if_pos c2, gt_nat hi, List.nil_append]
      rw [if_pos (okLen_iff.2 (by simp; omega)), if_pos (okLen_iff.2 (by simp; omega)), w64s (by omega)])
    (fun l => by simp only [spec_l18Copy_b0]; rw [if_neg (by simp)])
  have e2 := loop_app2 (b := spec_l18Copy_b1 p) (k := k) (f := fun x : TWet => [x]) (p := p.Wet) (z := []) (B := 1) (by omega) hk (fun _ _ => Nat.le_refl _) (fun i hi l hl2 => by
      simp only [List.length_nil] at hl2
      have c1 : decide ((i : Int) < ((List.length p.Wet : Nat) : Int)) = true := by simp; omega
      have c2 : (0 : Int) ≤ (i : Int) ∧ (i : Int) < ((List.length p.Wet : Nat) : Int) := by omega
      have hn := h4 _ (List.getElem_mem hi)
      simp only [spec_l18Copy_b1, if_pos c1, if_pos c2, gt_nat hi, List.nil_append]
      rw [if_pos (okLen_iff.2 (by simp; omega)), if_pos (okLen_iff.2 (by simp; omega)), w64s (by omega)])
    (fun l => by simp only [spec_l18Copy_b1]; rw [if_neg (by simp)])
  rw [spec_l18Copy, e, some_bind]
  simp only
  rw [e2, some_bind]
  simp only [List.nil_append, fm_single]
theorem impl_copyDisk_eq {k M : Nat} (hk : Big k) {p : TDisk} (h : smD M p) (hM : M ≤ 2097152) : impl_copyDisk k p = some p := by
  obtain ⟨h1, h2, h3, h4⟩ := h
  have e := loop_app2 (b := impl_copyDisk_b0 p) (k := k) (f := fun x : TCell => [x]) (p := p.Cells) (z := []) (B := 1) (by omega) hk (fun _ _ => Nat.le_refl _) (fun i hi l hl2 => by
      simp only [List.length_nil] at hl2
      have c1 : decide ((i : Int) < ((List.length p.Cells : Nat) : Int)) = true := by simp; omega
      have c2 : (0 : Int) ≤ (i : Int) ∧ (i : Int) < ((List.length p.Cells : Nat) : Int) := by omega
      have hn := h2 _ (List.getElem_mem hi)
      simp only [impl_copyDisk_b0, if_pos c1, if_pos c2, gt_nat hi, slices_Clone_byte_byte]
      rw [if_pos (okLen_iff.2 (by omega)), some_bind, if_pos (okLen_iff.2 (by simp; omega)), w64s (by omega)])
    (fun l => by simp only [impl_copyDisk_b0]; rw [if_neg (by simp)])
  have e2 := loop_app2 (b := impl_copyDisk_b1 p) (k := k) (f := fun x : TWet => [x]) (p := p.Wet) (z := []) (B := 1) (by omega) hk (fun _ _ => Nat.le_refl _) (fun i hi l hl2 => by
      simp only [List.length_nil] at hl2
      have c1 : decide ((i : Int) < ((List.length p.Wet : Nat) : Int)) = true := by simp; omega
      have c2 : (0 : Int) ≤ (i : Int) ∧ (i : Int) < ((List.length p.Wet : Nat) : Int) := by omega
      have hn := h4 _ (List.getElem_mem hi)
      simp only [impl_copyDisk_b1, if_pos c1, if_pos c2, gt_nat hi, slices_Clone_byte_byte]
      rw [if_pos (okLen_iff.2 (by omega)), some_bind, if_pos (okLen_iff.2 (by simp; omega)), w64s (by omega)])
    (fun l => by simp only [impl_copyDisk_b1]; rw [if_neg (by simp)])
  rw [impl_copyDisk, e, some_bind]
  simp only
  rw [e2, some_bind]
  simp only [List.nil_append, fm_single]
def burn (p : TDisk) : Bool × TDisk := if p.Dead = true then (false, p) else if p.Fuse = 0 then (false, ⟨p.Cells, p.Wet, p.Fuse, true⟩) else if p.Fuse > 0 then (true, ⟨p.Cells, p.Wet, wrap64 (p.Fuse - 1), p.Dead⟩) else (true, p)
theorem spec_burn_eq (p : TDisk) : spec_l18Burn p = some (burn p) := by
  simp only [spec_l18Burn, burn, decide_eq_true_eq]
  split
  · rfl
  · split
    · rfl
    · split <;> rfl
theorem impl_burn_eq (p : TDisk) : impl_Disk_burn p = some (burn p) := by
  simp only [impl_Disk_burn, burn, decide_eq_true_eq]
  split
  · rfl
  · split
    · rfl
    · split <;> rfl
def writeD (p : TDisk) (s : Int) (b : List Int) : TDisk := if (burn p).1 = true ∧ (0 ≤ s ∧ s ≤ 113) ∧ b.length ≤ 32 then ⟨p.Cells, p.Wet ++ [⟨s, pad b 32⟩], (burn p).2.Fuse, (burn p).2.Dead⟩ else ⟨p.Cells, p.Wet, (burn p).2.Fuse, (burn p).2.Dead⟩
theorem writeD_sm {M : Nat} {p : TDisk} (h : smD M p) {s : Int} {b : List Int} (hM : 32 ≤ M) : smD (M + 1) (writeD p s b) := by
  obtain ⟨h1, h2, h3, h4⟩ := h
  unfold writeD
  split
  · rename_i hc
    refine ⟨by simp only; omega, fun y hy => by have := h2 y hy; omega, by simp only [List.length_append, List.length_cons, List.length_nil]; omega, fun y hy => ?_⟩
    simp only [List.mem_append, List.mem_cons, List.not_mem_nil, or_false] at hy
    rcases hy with hy | rfl
    · have := h4 y hy; omega
    · have := pad_len (l := b) (n := 32) (by omega) (by omega); simp only [this]; omega
  · exact ⟨by simp only; omega, fun y hy => by have := h2 y hy; omega, by simp only; omega, fun y hy => by have := h4 y hy; omega⟩
theorem spec_writeD_eq {k M : Nat} (hk : Big k) {p : TDisk} (h : smD M p) (hM : M ≤ 2097152) {s : Int} {b : List Int} (hb : b.length ≤ 2097152) : spec_Write k p s b = some (writeD p s b) := by
  have h3 := h.2.2.1
  rw [spec_Write, spec_copyDisk_eq hk h hM, some_bind, spec_burn_eq, some_bind, spec_in_eq, writeD]
  rw [spec_pad_eq hk (by omega)]
  simp only [some_bind]
  rw [if_pos (c := okLen _ = true) (okLen_iff.2 (by simp; omega))]
  cases (burn p).1 <;> by_cases hs : 0 ≤ s ∧ s ≤ 113 <;> by_cases hl : b.length ≤ 32
  all_goals (have hl2 : ((List.length b : Nat) : Int) ≤ 32 ↔ b.length ≤ 32 := by omega)
  all_goals simp [hs, hl, hl2]
theorem impl_writeD_eq {k M : Nat} (hk : Big k) {p : TDisk} (h : smD M p) (hM : M ≤ 2097152) {s : Int} {b : List Int} (hb : b.length ≤ 2097152) : impl_Write k p s b = some (writeD p s b) := by
  have h3 := h.2.2.1
  rw [impl_Write, impl_copyDisk_eq hk h hM, some_bind, impl_burn_eq, some_bind, impl_in_eq, writeD]
  rw [impl_pad_eq hk (by omega)]
  simp only [some_bind]
  rw [if_pos (c := okLen _ = true) (okLen_iff.2 (by simp; omega))]
  cases (burn p).1 <;> by_cases hs : 0 ≤ s ∧ s ≤ 113 <;> by_cases hl : b.length ≤ 32
  all_goals (have hl2 : ((List.length b : Nat) : Int) ≤ 32 ↔ b.length ≤ 32 := by omega)
  all_goals simp [hs, hl, hl2]
def noCell : TCell := ⟨false, []⟩
def growC (l : List TCell) (s : Int) : List TCell := l ++ List.replicate (s.toNat + 1 - l.length) noCell
def storeC (l : List TCell) (s : Int) (c : TCell) : List TCell := if 0 ≤ s ∧ s ≤ 113 then (growC l s).set s.toNat c else l
theorem growC_len (l : List TCell) (s : Int) : (growC l s).length = max l.length (s.toNat + 1) := by simp [growC]; omega
theorem growC_mem {l : List TCell} {s : Int} : ∀ y ∈ growC l s, y ∈ l ∨ y = noCell := by
  intro y hy
  rcases List.mem_append.1 hy with h | h
  · exact .inl h
  · exact .inr (List.eq_of_mem_replicate h)
theorem storeC_len (l : List TCell) (s : Int) (c : TCell) : (storeC l s c).length ≤ max l.length 114 := by
  unfold storeC
  split
  · rw [List.length_set, growC_len]; omega
  · omega
theorem storeC_mem {l : List TCell} {s : Int} {c : TCell} : ∀ y ∈ storeC l s c, y ∈ l ∨ y = noCell ∨ y = c := by
  intro y hy
  unfold storeC at hy
  split at hy
  · rcases List.mem_or_eq_of_mem_set hy with h | h
    · rcases growC_mem y h with h | h
      · exact .inl h
      · exact .inr (.inl h)
    · exact .inr (.inr h)
  · exact .inl hy
theorem room_trace {ρ : Type} {b : List TCell → Option (Nx (List TCell) ρ)} {l : List TCell} {s : Int} {k : Nat} (hk : Big k) (hs : 0 ≤ s ∧ s ≤ 113) (hl : l.length ≤ 2097152)
    (hb : ∀ m : List TCell, b m = (if (decide (((List.length m : Nat) : Int) ≤ s)) = true then (if okLen (List.length m + List.length ([(⟨false, ([] : (List Int))⟩ : TCell)] : (List TCell))) = true then some (.next (m ++ ([(⟨false, ([] : (List Int))⟩ : TCell)] : (List TCell)))) else none) else some (.out m))) :
    loopM b k l = some (.out (growC l s)) := by
  have key := loopM_run0 (b := b) (k := k) (fun j => l ++ List.replicate j noCell) (s.toNat + 1 - l.length) (r := .out (growC l s)) (fun t h => by cases h) ?_ ?_ (by have : 9223372036854775808 ≤ k := hk; omega)
  · simpa using key
  · intro j hj
    rw [hb, if_pos (by simp; omega), if_pos (okLen_iff.2 (by simp; omega)), List.replicate_succ', List.append_assoc]; rfl
  · rw [hb, if_neg (by simp; omega)]; rfl
theorem spec_room_eq {k : Nat} (hk : Big k) {p : TDisk} {s : Int} (hs : 0 ≤ s ∧ s ≤ 113) (hl : p.Cells.length ≤ 2097152) : spec_l18Room k p s = some ⟨growC p.Cells s, p.Wet, p.Fuse, p.Dead⟩ := by
  rw [spec_l18Room, room_trace (b := spec_l18Room_b0 s) hk hs hl (fun _ => rfl)]; rfl
theorem impl_store_eq {k : Nat} (hk : Big k) {p : TDisk} {s : Int} {c : TCell} (hl : p.Cells.length ≤ 2097152) : impl_Disk_store k p s c = some ⟨storeC p.Cells s c, p.Wet, p.Fuse, p.Dead⟩ := by
  rw [impl_Disk_store, impl_in_eq, some_bind, storeC]
  by_cases hs : 0 ≤ s ∧ s ≤ 113
  · rw [if_neg (by simp [hs]), room_trace (b := impl_Disk_store_b0 s) hk hs hl (fun _ => rfl), some_bind, if_pos hs]
    simp only
    rw [if_pos (by rw [growC_len]; omega)]; rfl
  · rw [if_pos (by simp [hs]), if_neg hs]
def flushC (l : List TCell) (ws : List TWet) : List TCell := ws.foldl (fun l w => storeC l w.At ⟨false, w.B⟩) l
theorem flushC_len (ws : List TWet) : ∀ l : List TCell, (flushC l ws).length ≤ max l.length 114 := by
  induction ws with
  | nil => intro l; simp [flushC]; omega
  | cons w ws ih =>
    intro l
    have h1 := ih (storeC l w.At ⟨false, w.B⟩)
    have h2 := storeC_len l w.At ⟨false, w.B⟩
    simp only [flushC, List.foldl_cons] at *
    omega
theorem flushC_mem (ws : List TWet) : ∀ l : List TCell, ∀ y ∈ flushC l ws, y ∈ l ∨ y = noCell ∨ ∃ w ∈ ws, y = ⟨false, w.B⟩ := by
  induction ws with
  | nil => intro l y hy; exact .inl hy
  | cons w ws ih =>
    intro l y hy
    have hy' : y ∈ flushC (storeC l w.At ⟨false, w.B⟩) ws := hy
    rcases ih _ y hy' with h | h | ⟨v, hv, h⟩
    · rcases storeC_mem y h with h | h | h
      · exact .inl h
      · exact .inr (.inl h)
      · exact .inr (.inr ⟨w, List.mem_cons_self .., h⟩)
    · exact .inr (.inl h)
    · exact .inr (.inr ⟨v, List.mem_cons_of_mem _ hv, h⟩)
theorem flushC_succ {l : List TCell} {ws : List TWet} {i : Nat} (h : i < ws.length) : flushC l (ws.take (i + 1)) = storeC (flushC l (ws.take i)) ws[i].At ⟨false, ws[i].B⟩ := by
  rw [List.take_add_one, List.getElem?_eq_getElem h, Option.toList_some, flushC, List.foldl_append]; rfl
def flushD (p : TDisk) : TDisk := if (burn p).1 = true then ⟨flushC p.Cells p.Wet, [], (burn p).2.Fuse, (burn p).2.Dead⟩ else ⟨p.Cells, p.Wet, (burn p).2.Fuse, (burn p).2.Dead⟩
theorem flushD_sm {M : Nat} {p : TDisk} (h : smD M p) (hM : 114 ≤ M) : smD M (flushD p) := by
  obtain ⟨h1, h2, h3, h4⟩ := h
  unfold flushD
  split
  · refine ⟨by have := flushC_len p.Wet p.Cells; simp only; omega, fun y hy => ?_, by simp, by simp⟩
    rcases flushC_mem p.Wet p.Cells y hy with h | rfl | ⟨w, hw, rfl⟩
    · exact h2 y h
    · simp [noCell]
    · exact h4 w hw
  · exact ⟨h1, h2, h3, h4⟩
theorem spec_flushD_eq {k M : Nat} (hk : Big k) {p : TDisk} (h : smD M p) (hM : M ≤ 2097000) : spec_Flush k p = some (flushD p) := by
  obtain ⟨h1, h2, h3, h4⟩ := h
  rw [spec_Flush, spec_copyDisk_eq hk ⟨h1, h2, h3, h4⟩ (by omega), some_bind, spec_burn_eq, some_bind, flushD]
  by_cases hb : (burn p).1 = true
  · rw [if_neg (by simp [hb]), if_pos hb]
    obtain ⟨o, e, hQ⟩ := loopM_ends (b := spec_Flush_b0 k p) (fun s => ∃ i : Nat, i ≤ p.Wet.length ∧ s.1 = (i : Int) ∧ s.2.1 = flushC p.Cells (p.Wet.take i) ∧ s.2.2.1 = (burn p).2.Fuse ∧ s.2.2.2.1 = (burn p).2.Dead ∧ s.2.2.2.2 ≤ (i : Int)) (fun s => p.Wet.length - s.1.toNat)
      (fun o => ∃ s, o = .out s ∧ s.2.1 = flushC p.Cells p.Wet ∧ s.2.2.1 = (burn p).2.Fuse ∧ s.2.2.2.1 = (burn p).2.Dead) (fun s hs => by
        obtain ⟨j, c, f, dd, r⟩ := s
        obtain ⟨i, hi, rfl, rfl, rfl, rfl, hr⟩ := hs
        simp only at hr
        simp only [spec_Flush_b0]
        rcases Nat.lt_or_ge i p.Wet.length with hlt | hge
        · have hcl := flushC_len (p.Wet.take i) p.Cells
          rw [if_pos (by simp; omega), if_pos (by omega), if_pos hr, gt_nat hlt, spec_in_eq, some_bind]
          by_cases hs : 0 ≤ p.Wet[i].At ∧ p.Wet[i].At ≤ 113
          · rw [if_pos (by simpa using hs), spec_room_eq hk hs (by simp only; omega), some_bind, if_pos (by omega), if_pos hr]
            simp only
            rw [if_pos (by rw [growC_len]; omega)]
            refine ⟨_, rfl, ⟨i + 1, hlt, by simp only; rw [w64s (by omega)], ?_, rfl, rfl, by simp only; omega⟩, by simp only; rw [w64s (by omega)]; omega⟩
            simp only
            rw [flushC_succ hlt, storeC, if_pos hs]
          · rw [if_neg (by simpa using hs)]
            refine ⟨_, rfl, ⟨i + 1, hlt, by simp only; rw [w64s (by omega)], ?_, rfl, rfl, by simp only; omega⟩, by simp only; rw [w64s (by omega)]; omega⟩
            simp only
            rw [flushC_succ hlt, storeC, if_neg hs]
        · rw [if_neg (by simp; omega)]
          exact ⟨_, rfl, _, rfl, by simp only; rw [List.take_of_length_le hge], rfl, rfl⟩)
      k (0, p.Cells, (burn p).2.Fuse, (burn p).2.Dead, 0) ⟨0, Nat.zero_le _, rfl, rfl, rfl, rfl, Int.le_refl _⟩ (by have : 9223372036854775808 ≤ k := hk; simp; omega)
    obtain ⟨s, rfl, q1, q2, q3⟩ := hQ
    obtain ⟨j, c, f, dd, r⟩ := s
    simp only at q1 q2 q3
    rw [e, some_bind, q1, q2, q3]
  · rw [if_pos (by simp [hb]), if_neg hb]
theorem impl_flushD_eq {k M : Nat} (hk : Big k) {p : TDisk} (h : smD M p) (hM : M ≤ 2097000) : impl_Flush k p = some (flushD p) := by
  obtain ⟨h1, h2, h3, h4⟩ := h
  rw [impl_Flush, impl_copyDisk_eq hk ⟨h1, h2, h3, h4⟩ (by omega), some_bind, impl_burn_eq, some_bind, flushD]
  by_cases hb : (burn p).1 = true
  · rw [if_pos hb, if_pos hb]
    obtain ⟨o, e, hQ⟩ := loopM_ends (b := impl_Flush_b0 k p) (fun s => ∃ i : Nat, i ≤ p.Wet.length ∧ s.1 = (i : Int) ∧ s.2.1 = flushC p.Cells (p.Wet.take i) ∧ s.2.2.1 = (burn p).2.Fuse ∧ s.2.2.2.1 = (burn p).2.Dead ∧ s.2.2.2.2 ≤ (i : Int)) (fun s => p.Wet.length - s.1.toNat)
      (fun o => ∃ s, o = .out s ∧ s.2.1 = flushC p.Cells p.Wet ∧ s.2.2.1 = (burn p).2.Fuse ∧ s.2.2.2.1 = (burn p).2.Dead) (fun s hs => by
        obtain ⟨j, c, f, dd, r⟩ := s
        obtain ⟨i, hi, rfl, rfl, rfl, rfl, hr⟩ := hs
        simp only at hr
        simp only [impl_Flush_b0]
        rcases Nat.lt_or_ge i p.Wet.length with hlt | hge
        · have hcl := flushC_len (p.Wet.take i) p.Cells
          rw [if_pos (by simp; omega), if_pos (by omega), if_pos hr, gt_nat hlt, impl_store_eq hk (by simp only; omega), some_bind]
          refine ⟨_, rfl, ⟨i + 1, hlt, by simp only; rw [w64s (by omega)], ?_, rfl, rfl, by simp only; omega⟩, by simp only; rw [w64s (by omega)]; omega⟩
          simp only
          rw [flushC_succ hlt]
        · rw [if_neg (by simp; omega)]
          exact ⟨_, rfl, _, rfl, by simp only; rw [List.take_of_length_le hge], rfl, rfl⟩)
      k (0, p.Cells, (burn p).2.Fuse, (burn p).2.Dead, 0) ⟨0, Nat.zero_le _, rfl, rfl, rfl, rfl, Int.le_refl _⟩ (by have : 9223372036854775808 ≤ k := hk; simp; omega)
    obtain ⟨s, rfl, q1, q2, q3⟩ := hQ
    obtain ⟨j, c, f, dd, r⟩ := s
    simp only at q1 q2 q3
    rw [e, some_bind, q1, q2, q3]
  · rw [if_neg hb, if_neg hb]

def crash1 (l : List TCell) (x : TWet × Int) : List TCell := if x.2 = 1 then storeC l x.1.At ⟨false, x.1.B⟩ else if x.2 = 2 then storeC l x.1.At ⟨true, []⟩ else l
def crashC (l : List TCell) (xs : List (TWet × Int)) : List TCell := xs.foldl crash1 l
theorem crash1_len (l : List TCell) (x : TWet × Int) : (crash1 l x).length ≤ max l.length 114 := by
  unfold crash1
  split
  · exact storeC_len _ _ _
  · split
    · exact storeC_len _ _ _
    · omega
theorem crash1_mem {l : List TCell} {x : TWet × Int} : ∀ y ∈ crash1 l x, y ∈ l ∨ y = noCell ∨ y = ⟨true, []⟩ ∨ y = ⟨false, x.1.B⟩ := by
  intro y hy
  unfold crash1 at hy
  split at hy
  · rcases storeC_mem y hy with h | h | h
    · exact .inl h
    · exact .inr (.inl h)
    · exact .inr (.inr (.inr h))
  · split at hy
    · rcases storeC_mem y hy with h | h | h
      · exact .inl h
      · exact .inr (.inl h)
      · exact .inr (.inr (.inl h))
    · exact .inl hy
theorem crashC_len (xs : List (TWet × Int)) : ∀ l : List TCell, (crashC l xs).length ≤ max l.length 114 := by
  induction xs with
  | nil => intro l; simp [crashC]; omega
  | cons w ws ih =>
    intro l
    have h1 := ih (crash1 l w)
    have h2 := crash1_len l w
    simp only [crashC, List.foldl_cons] at *
    omega
theorem crashC_mem (xs : List (TWet × Int)) : ∀ l : List TCell, ∀ y ∈ crashC l xs, y ∈ l ∨ y = noCell ∨ y = ⟨true, []⟩ ∨ ∃ x ∈ xs, y = ⟨false, x.1.B⟩ := by
  induction xs with
  | nil => intro l y hy; exact .inl hy
  | cons w ws ih =>
    intro l y hy
    have hy' : y ∈ crashC (crash1 l w) ws := hy
    rcases ih _ y hy' with h | h | h | ⟨v, hv, h⟩
    · rcases crash1_mem y h with h | h | h | h
      · exact .inl h
      · exact .inr (.inl h)
      · exact .inr (.inr (.inl h))
      · exact .inr (.inr (.inr ⟨w, List.mem_cons_self .., h⟩))
    · exact .inr (.inl h)
    · exact .inr (.inr (.inl h))
    · exact .inr (.inr (.inr ⟨v, List.mem_cons_of_mem _ hv, h⟩))
theorem crashC_succ {l : List TCell} {ws : List TWet} {hw : List Int} {i : Nat} (h : i < ws.length) (h2 : i < hw.length) : crashC l ((ws.zip hw).take (i + 1)) = crash1 (crashC l ((ws.zip hw).take i)) (ws[i], hw[i]) := by
  have h3 : i < (ws.zip hw).length := by simp; omega
  rw [List.take_add_one, List.getElem?_eq_getElem h3, Option.toList_some, crashC, List.foldl_append, List.getElem_zip]; rfl
def crashD (p : TDisk) (hw : List Int) (f : Int) : TDisk := ⟨crashC p.Cells (p.Wet.zip hw), [], if f < -1 then -1 else f, false⟩
theorem crashD_sm {M : Nat} {p : TDisk} {hw : List Int} {f : Int} (h : smD M p) (hM : 114 ≤ M) : smD M (crashD p hw f) := by
  obtain ⟨h1, h2, h3, h4⟩ := h
  refine ⟨by have := crashC_len (p.Wet.zip hw) p.Cells; simp only [crashD]; omega, fun y hy => ?_, by simp [crashD], by simp [crashD]⟩
  rcases crashC_mem (p.Wet.zip hw) p.Cells y hy with h | rfl | rfl | ⟨w, hw, rfl⟩
  · exact h2 y h
  · simp [noCell]
  · simp
  · exact h4 w.1 (List.of_mem_zip hw).1
theorem spec_crashD_eq {k M : Nat} (hk : Big k) {p : TDisk} {hw : List Int} {f : Int} (h : smD M p) (hM : M ≤ 2097000) (hl : hw.length ≤ 2097152) : spec_Crash k p hw f = some (crashD p hw f) := by
  obtain ⟨h1, h2, h3, h4⟩ := h
  rw [spec_Crash, spec_copyDisk_eq hk ⟨h1, h2, h3, h4⟩ (by omega), some_bind, crashD]
  obtain ⟨o, e, hQ⟩ := loopM_ends (b := spec_Crash_b0 k hw p) (fun s => ∃ i : Nat, i ≤ p.Wet.length ∧ i ≤ hw.length ∧ s.1 = (i : Int) ∧ s.2.1 = crashC p.Cells ((p.Wet.zip hw).take i) ∧ s.2.2.2.2 ≤ (i : Int)) (fun s => p.Wet.length - s.1.toNat)
      (fun o => ∃ s, o = .out s ∧ s.2.1 = crashC p.Cells (p.Wet.zip hw)) (fun s hs => by
        obtain ⟨j, c, ff, dd, r⟩ := s
        obtain ⟨i, hi, hi2, rfl, rfl, hr⟩ := hs
        simp only at hr
        simp only [spec_Crash_b0]
        by_cases hlt : i < p.Wet.length ∧ i < hw.length
        · obtain ⟨hlt, hlt2⟩ := hlt
          have hcl := crashC_len ((p.Wet.zip hw).take i) p.Cells
          have hmu : p.Wet.length - (((i + 1 : Nat) : Int)).toNat < p.Wet.length - ((i : Int)).toNat := by omega
          rw [if_pos (by simp; omega), if_pos (by omega), if_pos hr, gt_nat hlt, spec_in_eq, some_bind, w64s (n := i) (by omega), gt_nat hlt2]
          have c3 : (0 : Int) ≤ (i : Int) ∧ (i : Int) < ((List.length hw : Nat) : Int) := by omega
          simp only [if_pos c3]
          by_cases hs : 0 ≤ p.Wet[i].At ∧ p.Wet[i].At ≤ 113
          · rw [if_neg (by simpa using hs)]
            by_cases e1 : hw[i] = 1
            · rw [if_pos (by simpa using e1), spec_room_eq hk hs (by simp only; omega), some_bind, if_pos (by omega), if_pos hr]
              simp only
              rw [if_pos (by rw [growC_len]; omega)]
              refine ⟨_, rfl, ⟨i + 1, hlt, hlt2, rfl, ?_, by simp only; omega⟩, hmu⟩
              simp only
              rw [crashC_succ hlt hlt2, crash1, if_pos e1, storeC, if_pos hs]
            · rw [if_neg (by simpa using e1)]
              by_cases e2 : hw[i] = 2
              · rw [if_pos (by simpa using e2), spec_room_eq hk hs (by simp only; omega), some_bind]
                simp only
                rw [if_pos (by rw [growC_len]; omega)]
                refine ⟨_, rfl, ⟨i + 1, hlt, hlt2, rfl, ?_, by simp only; omega⟩, hmu⟩
                simp only
                rw [crashC_succ hlt hlt2, crash1, if_neg e1, if_pos e2, storeC, if_pos hs]
              · rw [if_neg (by simpa using e2)]
                refine ⟨_, rfl, ⟨i + 1, hlt, hlt2, rfl, ?_, by simp only; omega⟩, hmu⟩
                simp only
                rw [crashC_succ hlt hlt2, crash1, if_neg e1, if_neg e2]
          · rw [if_pos (by simp [hs])]
            refine ⟨_, rfl, ⟨i + 1, hlt, hlt2, rfl, ?_, by simp only; omega⟩, hmu⟩
            simp only
            rw [crashC_succ hlt hlt2, crash1, storeC, storeC, if_neg hs, if_neg hs]
            split
            · rfl
            · split <;> rfl
        · rw [if_neg (by simp; omega)]
          exact ⟨_, rfl, _, rfl, by simp only; rw [List.take_of_length_le (by simp; omega)]⟩)
      k (0, p.Cells, p.Fuse, p.Dead, 0) ⟨0, Nat.zero_le _, Nat.zero_le _, rfl, rfl, Int.le_refl _⟩ (by have : 9223372036854775808 ≤ k := hk; simp; omega)
  obtain ⟨s, rfl, q1⟩ := hQ
  obtain ⟨j, c, ff, dd, r⟩ := s
  simp only at q1
  rw [e, some_bind, q1, spec_Most]
  by_cases hf : f < -1
  · rw [if_pos hf, if_neg (by simp; omega)]; rfl
  · rw [if_neg hf]
    by_cases hf2 : f > -1
    · rw [if_pos (by simpa using hf2)]; rfl
    · rw [if_neg (by simpa using hf2)]
      have : f = -1 := by omega
      subst this; rfl
theorem impl_crashD_eq {k M : Nat} (hk : Big k) {p : TDisk} {hw : List Int} {f : Int} (h : smD M p) (hM : M ≤ 2097000) (hl : hw.length ≤ 2097152) : impl_Crash k p hw f = some (crashD p hw f) := by
  obtain ⟨h1, h2, h3, h4⟩ := h
  rw [impl_Crash, impl_copyDisk_eq hk ⟨h1, h2, h3, h4⟩ (by omega), some_bind, crashD]
  obtain ⟨o, e, hQ⟩ := loopM_ends (b := impl_Crash_b0 k hw p) (fun s => ∃ i : Nat, i ≤ p.Wet.length ∧ i ≤ hw.length ∧ s.2.1 = (i : Int) ∧ s.2.2.1 = crashC p.Cells ((p.Wet.zip hw).take i) ∧ s.1 ≤ (i : Int)) (fun s => p.Wet.length - s.2.1.toNat)
      (fun o => ∃ s, o = .out s ∧ s.2.2.1 = crashC p.Cells (p.Wet.zip hw)) (fun s hs => by
        obtain ⟨r, j, c, ff, dd⟩ := s
        obtain ⟨i, hi, hi2, rfl, rfl, hr⟩ := hs
        simp only at hr
        simp only [impl_Crash_b0]
        by_cases hlt : i < p.Wet.length
        · have hcl := crashC_len ((p.Wet.zip hw).take i) p.Cells
          have hmu : p.Wet.length - (((i + 1 : Nat) : Int)).toNat < p.Wet.length - ((i : Int)).toNat := by omega
          rw [if_pos (by simp; omega), if_pos (by omega), if_pos hr, gt_nat hlt, w64s (n := i) (by omega)]
          by_cases hlt2 : i < hw.length
          · rw [if_neg (by simp; omega), if_pos (by omega), gt_nat hlt2]
            by_cases e1 : hw[i] = 1
            · rw [if_pos (by simpa using e1), impl_store_eq hk (by simp only; omega), some_bind]
              refine ⟨_, rfl, ⟨i + 1, hlt, hlt2, rfl, ?_, by simp only; omega⟩, hmu⟩
              simp only
              rw [crashC_succ hlt hlt2, crash1, if_pos e1]
            · rw [if_neg (by simpa using e1)]
              by_cases e2 : hw[i] = 2
              · rw [if_pos (by simpa using e2), impl_store_eq hk (by simp only; omega), some_bind]
                refine ⟨_, rfl, ⟨i + 1, hlt, hlt2, rfl, ?_, by simp only; omega⟩, hmu⟩
                simp only
                rw [crashC_succ hlt hlt2, crash1, if_neg e1, if_pos e2]
              · rw [if_neg (by simpa using e2)]
                refine ⟨_, rfl, ⟨i + 1, hlt, hlt2, rfl, ?_, by simp only; omega⟩, hmu⟩
                simp only
                rw [crashC_succ hlt hlt2, crash1, if_neg e1, if_neg e2]
          · rw [if_pos (by simp; omega)]
            exact ⟨_, rfl, _, rfl, by simp only; rw [List.take_of_length_le (by simp; omega)]⟩
        · rw [if_neg (by simp; omega)]
          exact ⟨_, rfl, _, rfl, by simp only; rw [List.take_of_length_le (by simp; omega)]⟩)
      k (0, 0, p.Cells, p.Fuse, p.Dead) ⟨0, Nat.zero_le _, Nat.zero_le _, rfl, rfl, Int.le_refl _⟩ (by have : 9223372036854775808 ≤ k := hk; simp; omega)
  obtain ⟨s, rfl, q1⟩ := hQ
  obtain ⟨r, j, c, ff, dd⟩ := s
  simp only at q1
  rw [e, some_bind, q1]

def readC (l : List TCell) (n : Int) : List Int × Bool := if (0 ≤ n ∧ n < (l.length : Int)) ∧ (gt l n).Bad = false ∧ (gt l n).B ≠ [] then ((gt l n).B, true) else ([], false)
theorem readC_out {l : List TCell} {n : Int} (h : ¬ (0 ≤ n ∧ n < (l.length : Int))) : readC l n = ([], false) := by rw [readC, if_neg fun hh => h hh.1]
theorem readC_cell {l : List TCell} {n : Nat} {c : TCell} (h : l[n]? = some c) : readC l (n : Int) = if c.Bad = false ∧ c.B ≠ [] then (c.B, true) else ([], false) := by
  have hn : n < l.length := (List.getElem?_eq_some_iff.1 h).1
  rw [readC, gt_eq_of h]
  by_cases hc : c.Bad = false ∧ c.B ≠ []
  · rw [if_pos ⟨by omega, hc⟩, if_pos hc]
  · rw [if_neg fun hh => hc hh.2, if_neg hc]
theorem readC_none {l : List TCell} {n : Nat} (h : l[n]? = none) : readC l (n : Int) = ([], false) := readC_out (by have := List.getElem?_eq_none_iff.1 h; omega)
theorem readC_grow (l : List TCell) (s : Int) (n : Nat) : readC (growC l s) (n : Int) = readC l (n : Int) := by
  rcases Nat.lt_or_ge n l.length with h | h
  · have e : (growC l s)[n]? = l[n]? := by rw [growC, List.getElem?_append_left h]
    cases hc : l[n]? with
    | none => rw [readC_none (by rw [e, hc]), readC_none hc]
    | some c => rw [readC_cell (by rw [e, hc]), readC_cell hc]
  · rw [readC_none (l := l) (List.getElem?_eq_none h)]
    cases hc : (growC l s)[n]? with
    | none => exact readC_none hc
    | some c =>
      rw [readC_cell hc]
      have : c = noCell := by
        rw [growC, List.getElem?_append_right h] at hc
        exact List.eq_of_mem_replicate (List.mem_of_getElem? hc)
      subst this; rfl
theorem readC_store (l : List TCell) (s : Int) (c : TCell) (n : Nat) : readC (storeC l s c) (n : Int) = if s = (n : Int) ∧ n ≤ 113 then (if c.Bad = false ∧ c.B ≠ [] then (c.B, true) else ([], false)) else readC l (n : Int) := by
  unfold storeC
  by_cases hs : 0 ≤ s ∧ s ≤ 113
  · rw [if_pos hs]
    have hg := growC_len l s
    by_cases hn : s = (n : Int)
    · subst hn
      rw [if_pos ⟨rfl, by omega⟩, Int.toNat_natCast]
      exact readC_cell (List.getElem?_set_self (by rw [hg]; simp; omega))
    · rw [if_neg fun h => hn h.1, ← readC_grow l s n]
      have hne : s.toNat ≠ n := by omega
      cases hc : (growC l s)[n]? with
      | none => rw [readC_none hc, readC_none (by rw [List.getElem?_set_ne hne, hc])]
      | some d => rw [readC_cell hc, readC_cell (by rw [List.getElem?_set_ne hne, hc])]
  · rw [if_neg hs, if_neg]
    rintro ⟨rfl, h⟩; exact hs ⟨by omega, by omega⟩
theorem readC_crash (n : Nat) (xs : List (TWet × Int)) : ∀ l : List TCell, readC (crashC l xs) (n : Int) = readC l (n : Int) ∨ ∃ x ∈ xs, x.1.At = (n : Int) ∧ (readC (crashC l xs) (n : Int) = ([], false) ∨ readC (crashC l xs) (n : Int) = (x.1.B, true)) := by
  induction xs with
  | nil => intro l; exact .inl rfl
  | cons x xs ih =>
    intro l
    have e : crashC l (x :: xs) = crashC (crash1 l x) xs := rfl
    rw [e]
    rcases ih (crash1 l x) with h | ⟨y, hy, h1, h2⟩
    · rw [h]
      have hst : ∀ c : TCell, (c = ⟨false, x.1.B⟩ ∨ c = ⟨true, []⟩) → readC (storeC l x.1.At c) (n : Int) = readC l (n : Int) ∨ ∃ z ∈ x :: xs, z.1.At = (n : Int) ∧ (readC (storeC l x.1.At c) (n : Int) = ([], false) ∨ readC (storeC l x.1.At c) (n : Int) = (z.1.B, true)) := by
        intro c hc
        rw [readC_store]
        by_cases hn : x.1.At = (n : Int) ∧ n ≤ 113
        · rw [if_pos hn]
          refine .inr ⟨x, List.mem_cons_self .., hn.1, ?_⟩
          rcases hc with rfl | rfl
          · by_cases hb : x.1.B = []
            · exact .inl (by simp [hb])
            · exact .inr (by simp [hb])
          · exact .inl (by simp)
        · rw [if_neg hn]; exact .inl rfl
      unfold crash1
      split
      · exact hst _ (.inl rfl)
      · split
        · exact hst _ (.inr rfl)
        · exact .inl rfl
    · exact .inr ⟨y, List.mem_cons_of_mem _ hy, h1, h2⟩
theorem impl_read_dry {k : Nat} (hk : Big k) {d : TDisk} (hd : d.Wet = []) (hc : d.Cells.length ≤ 2097152) (hb : ∀ c ∈ d.Cells, c.B.length ≤ 2097152) (n : Int) : impl_Read k d n = some (readC d.Cells n) := by
  have e : loopM (impl_Read_b0 d n) k (wrap64 (((List.length d.Wet : Nat) : Int) - 1)) = some (.out (-1)) := by
    have e0 : wrap64 (((List.length ([] : List TWet) : Nat) : Int) - 1) = -1 := by rw [List.length_nil]; exact w64 (n := -1) (by decide) (by decide)
    rw [hd, e0]
    exact loopM_run0 (b := impl_Read_b0 d n) (k := k) (r := .out (-1)) (fun _ => -1) 0 (fun t h => by cases h) (fun j hj => absurd hj (Nat.not_lt_zero j)) (by simp only [impl_Read_b0]; rw [if_neg (by decide)]) (by have : 9223372036854775808 ≤ k := hk; omega)
  rw [impl_Read, e, some_bind]
  simp only
  by_cases hin : 0 ≤ n ∧ n < ((List.length d.Cells : Nat) : Int)
  · have e2 : (decide (n < 0) || decide (n ≥ ((List.length d.Cells : Nat) : Int))) = false := by simp; omega
    obtain ⟨hlt, eg⟩ := gt_eq hin.1 hin.2
    have hbl : (gt d.Cells n).B.length ≤ 2097152 := by rw [eg]; exact hb _ (List.getElem_mem hlt)
    have hok : okLen (List.length (gt d.Cells n).B) = true := okLen_iff.2 (by omega)
    simp only [e2, Bool.false_eq_true, if_false, if_pos hin, some_bind, slices_Clone_byte_byte, hok, if_true, readC]
    cases hbad : (gt d.Cells n).Bad
    · by_cases hz : (gt d.Cells n).B = []
      · simp [hz]
      · simp [hin, hz]
    · simp
  · have e2 : (decide (n < 0) || decide (n ≥ ((List.length d.Cells : Nat) : Int))) = true := by simp; omega
    simp only [e2, if_true, some_bind]
    rw [readC_out hin]
theorem readC_len {l : List TCell} {M : Nat} (h : ∀ c ∈ l, c.B.length ≤ M) (n : Int) : (readC l n).1.length ≤ M := by
  unfold readC
  split
  · rename_i hc
    obtain ⟨hlt, eg⟩ := gt_eq hc.1.1 hc.1.2
    rw [eg]; exact h _ (List.getElem_mem hlt)
  · simp

def readW (ws : List TWet) (n : Int) (r : List Int × Bool) : List Int × Bool := ws.foldl (fun r w => if w.At = n then (w.B, true) else r) r
theorem readW_snoc (ws : List TWet) (w : TWet) (n : Int) (r : List Int × Bool) : readW (ws ++ [w]) n r = if w.At = n then (w.B, true) else readW ws n r := by simp [readW]
theorem readW_take {ws : List TWet} {n : Int} {r : List Int × Bool} {j : Nat} (h : j < ws.length) : readW (ws.take (j + 1)) n r = if ws[j].At = n then (ws[j].B, true) else readW (ws.take j) n r := by
  rw [List.take_succ_eq_append_getElem h, readW_snoc]
theorem readW_none {ws : List TWet} {n : Int} {r : List Int × Bool} (h : ∀ w ∈ ws, w.At ≠ n) : readW ws n r = r := by
  induction ws generalizing r with
  | nil => rfl
  | cons w ws ih =>
    rw [readW, List.foldl_cons, if_neg (h w (by simp))]
    exact ih fun y hy => h y (by simp [hy])
theorem readW_len {ws : List TWet} {n : Int} {r : List Int × Bool} {M : Nat} (h : ∀ w ∈ ws, w.B.length ≤ M) (hr : r.1.length ≤ M) : (readW ws n r).1.length ≤ M := by
  induction ws generalizing r with
  | nil => exact hr
  | cons w ws ih =>
    rw [readW, List.foldl_cons]
    refine ih (fun y hy => h y (by simp [hy])) ?_
    split
    · exact h w (by simp)
    · exact hr
def readD (d : TDisk) (n : Int) : List Int × Bool := readW d.Wet n (readC d.Cells n)
theorem readD_len {d : TDisk} {M : Nat} (h : smD M d) (n : Int) : (readD d n).1.length ≤ M := readW_len h.2.2.2 (readC_len h.2.1 n)
theorem spec_read_body {d : TDisk} {M : Nat} (h : smD M d) (hM : M ≤ 2097152) (q : Int) : impl_Read_b0 d q = spec_Read_b0 d q := by
  funext i
  simp only [impl_Read_b0, spec_Read_b0, slices_Clone_byte_byte, List.nil_append, List.length_nil, Nat.zero_add]
  by_cases h1 : decide (i ≥ 0) = true
  · rw [if_pos h1, if_pos h1]
    by_cases h2 : (0 : Int) ≤ i ∧ i < ((List.length d.Wet : Nat) : Int)
    · rw [if_pos h2, if_pos h2, if_pos h2, if_pos h2]
      by_cases h3 : decide ((gt d.Wet i).At = q) = true
      · rw [if_pos h3, if_pos h3]
        by_cases h4 : okLen (List.length (gt d.Wet i).B) = true
        · rw [if_pos h4, if_pos h4]; rfl
        · rw [if_neg h4, if_neg h4]; rfl
      · rw [if_neg h3, if_neg h3]
    · rw [if_neg h2, if_neg h2]
  · rw [if_neg h1, if_neg h1]
theorem read_loop {k : Nat} (hk : Big k) {d : TDisk} {M : Nat} (h : smD M d) (hM : M ≤ 2097152) (n : Int) :
    ∃ o, loopM (impl_Read_b0 d n) k (wrap64 (((List.length d.Wet : Nat) : Int) - 1)) = some o ∧ match o with
      | .ret r => ∀ x, readW d.Wet n x = r
      | .out _ => ∀ x, readW d.Wet n x = x
      | .next _ => False := by
  have hl := h.2.2.1
  refine loopM_ends (b := impl_Read_b0 d n) (fun i => ∃ j : Nat, j ≤ d.Wet.length ∧ i = (j : Int) - 1 ∧ ∀ x, readW d.Wet n x = readW (d.Wet.take j) n x) (fun i => (i + 1).toNat) _ (fun i hi => ?_) k _ ⟨d.Wet.length, Nat.le_refl _, by rw [w64 (by omega) (by omega)], fun x => by rw [List.take_length]⟩ (by rw [w64 (by omega) (by omega)]; have : 9223372036854775808 ≤ k := hk; omega)
  obtain ⟨j, hj, rfl, he⟩ := hi
  simp only [impl_Read_b0]
  rcases j with _ | j
  · rw [if_neg (by simp)]
    exact ⟨_, rfl, fun x => by rw [he]; rfl⟩
  · have e1 : (((j + 1 : Nat) : Int)) - 1 = (j : Int) := by omega
    rw [e1]
    have h2 : (0 : Int) ≤ (j : Int) ∧ (j : Int) < ((List.length d.Wet : Nat) : Int) := by omega
    have hlt : j < d.Wet.length := by omega
    have hb := h.2.2.2 _ (List.getElem_mem hlt)
    rw [if_pos (by simp), if_pos h2, if_pos h2, gt_nat hlt, slices_Clone_byte_byte, if_pos (okLen_iff.2 (by omega)), some_bind]
    by_cases h3 : d.Wet[j].At = n
    · rw [if_pos (by simpa using h3)]
      exact ⟨_, rfl, fun x => by rw [he, readW_take hlt, if_pos h3]⟩
    · rw [if_neg (by simpa using h3)]
      refine ⟨_, rfl, ⟨j, by omega, by rw [w64 (by omega) (by omega)], fun x => by rw [he, readW_take hlt, if_neg h3]⟩, ?_⟩
      rw [w64 (by omega) (by omega)]; omega
theorem impl_readD_eq {k : Nat} (hk : Big k) {d : TDisk} {M : Nat} (h : smD M d) (hM : M ≤ 2097152) (n : Int) : impl_Read k d n = some (readD d n) := by
  obtain ⟨o, e, hQ⟩ := read_loop hk h hM n
  have ed := impl_read_dry hk (d := ⟨d.Cells, [], d.Fuse, d.Dead⟩) rfl (by have := h.1; simp only; omega) (fun c hc => by have := h.2.1 c hc; omega) n
  rw [impl_Read, e, some_bind]
  match o, hQ with
  | .ret r, hr => rw [readD, hr]
  | .out i, hr =>
    rw [readD, hr, ← ed, impl_Read]
    have e0 : loopM (impl_Read_b0 ⟨d.Cells, [], d.Fuse, d.Dead⟩ n) k (wrap64 (((List.length ([] : List TWet) : Nat) : Int) - 1)) = some (.out (-1)) := by
      have e0 : wrap64 (((List.length ([] : List TWet) : Nat) : Int) - 1) = -1 := by rw [List.length_nil]; exact w64 (n := -1) (by decide) (by decide)
      rw [e0]
      exact loopM_run0 (b := impl_Read_b0 _ n) (k := k) (r := .out (-1)) (fun _ => -1) 0 (fun t h => by cases h) (fun j hj => absurd hj (Nat.not_lt_zero j)) (by simp only [impl_Read_b0]; rw [if_neg (by decide)]) (by have : 9223372036854775808 ≤ k := hk; omega)
    rw [e0, some_bind]
theorem spec_readD_eq {k : Nat} (hk : Big k) {d : TDisk} {M : Nat} (h : smD M d) (hM : M ≤ 2097152) (n : Int) : spec_Read k d n = some (readD d n) := by
  obtain ⟨o, e, hQ⟩ := read_loop hk h hM n
  have hl := h.1
  rw [spec_Read, ← spec_read_body h hM, e, some_bind]
  match o, hQ with
  | .ret r, hr => rw [readD, hr]
  | .out i, hr =>
    simp only [some_bind, spec_in_eq]
    rw [w64 (n := (d.Cells.length : Int) - 1) (by omega) (by omega), readD, hr, readC]
    by_cases hin : 0 ≤ n ∧ n < (d.Cells.length : Int)
    · have e1 : decide (0 ≤ n ∧ n ≤ (d.Cells.length : Int) - 1) = true := by simp; omega
      obtain ⟨hlt, eg⟩ := gt_eq hin.1 hin.2
      have hbl : (gt d.Cells n).B.length ≤ 2097152 := by rw [eg]; have := h.2.1 _ (List.getElem_mem hlt); omega
      have hok : okLen (List.length (gt d.Cells n).B) = true := okLen_iff.2 (by omega)
      simp only [e1, Bool.not_true, Bool.false_eq_true, if_false, if_pos hin, if_true, some_bind, List.nil_append, List.length_nil, Nat.zero_add, hok]
      cases hbad : (gt d.Cells n).Bad
      · by_cases hz : (gt d.Cells n).B = []
        · simp [hz]
        · simp [hin, hz]
      · simp
    · have e1 : decide (0 ≤ n ∧ n ≤ (d.Cells.length : Int) - 1) = false := by simp; omega
      simp only [e1, Bool.not_false, if_true, some_bind]
      rw [if_neg fun hh => hin hh.1]
theorem readC_flush (ws : List TWet) (n : Nat) : ∀ l : List TCell, (∀ w ∈ ws, (0 ≤ w.At ∧ w.At ≤ 113) ∧ w.B ≠ []) → readC (flushC l ws) (n : Int) = readW ws (n : Int) (readC l (n : Int)) := by
  induction ws with
  | nil => intro l _; rfl
  | cons w ws ih =>
    intro l hw
    have h0 := hw w (by simp)
    rw [flushC, List.foldl_cons, readW, List.foldl_cons]
    have := ih (storeC l w.At ⟨false, w.B⟩) fun y hy => hw y (by simp [hy])
    rw [flushC, readW] at this
    rw [this, readC_store]
    by_cases ha : w.At = (n : Int)
    · rw [if_pos ⟨ha, by omega⟩, if_pos ha, if_pos ⟨rfl, h0.2⟩]
    · rw [if_neg fun h => ha h.1, if_neg ha]

def bytesD (d : TDisk) : Prop := (∀ c ∈ d.Cells, ∀ x ∈ c.B, wfU8 x) ∧ ∀ w ∈ d.Wet, ∀ x ∈ w.B, wfU8 x
theorem readW_wf {ws : List TWet} {n : Int} {r : List Int × Bool} (h : ∀ w ∈ ws, ∀ x ∈ w.B, wfU8 x) (hr : ∀ x ∈ r.1, wfU8 x) : ∀ x ∈ (readW ws n r).1, wfU8 x := by
  induction ws generalizing r with
  | nil => exact hr
  | cons w ws ih =>
    rw [readW, List.foldl_cons]
    refine ih (fun y hy => h y (by simp [hy])) ?_
    split
    · exact h w (by simp)
    · exact hr
theorem readC_wf {l : List TCell} (h : ∀ c ∈ l, ∀ x ∈ c.B, wfU8 x) (n : Int) : ∀ x ∈ (readC l n).1, wfU8 x := by
  unfold readC
  split
  · rename_i hc
    obtain ⟨hlt, eg⟩ := gt_eq hc.1.1 hc.1.2
    rw [eg]; exact h _ (List.getElem_mem hlt)
  · simp
theorem readD_wf {d : TDisk} (h : bytesD d) (n : Int) : ∀ x ∈ (readD d n).1, wfU8 x := readW_wf h.2 (readC_wf h.1 n)

def okI (b : List Int) (i : Int) : Prop := 0 ≤ i ∧ i ≤ (b.length : Int)
theorem and255 (x : Int) : 0 ≤ bits2 (· &&& ·) x 255 ∧ bits2 (· &&& ·) x 255 ≤ 255 := by
  show 0 ≤ wrap64 ((BitVec.ofInt 64 x &&& BitVec.ofInt 64 255).toNat : Int) ∧ wrap64 ((BitVec.ofInt 64 x &&& BitVec.ofInt 64 255).toNat : Int) ≤ 255
  have h : (BitVec.ofInt 64 x &&& BitVec.ofInt 64 255).toNat ≤ 255 := by
    rw [BitVec.toNat_and]
    exact Nat.and_le_right
  rw [w64 (by omega) (by omega)]; omega
theorem byte_ok {b : List Int} {i h : Int} (hi : okI b i) (hl : b.length ≤ 1048576) : ∃ v i' h', spec_l1Byte ⟨b, i, h⟩ = some (v, ⟨b, i', h'⟩) ∧ okI b i' ∧ 0 ≤ v ∧ v ≤ 255 := by
  obtain ⟨h0, h1⟩ := hi
  rw [spec_l1Byte]
  by_cases hc : i < ((List.length b : Nat) : Int)
  · rw [if_pos (by simpa using hc), if_pos ⟨h0, hc⟩]
    exact ⟨_, _, _, rfl, by simp only [okI]; rw [w64 (by omega) (by omega)]; omega, and255 _⟩
  · rw [if_neg (by simpa using hc)]
    exact ⟨_, _, _, rfl, ⟨h0, h1⟩, and255 _⟩
theorem below_ok {b : List Int} {i h : Int} (hi : okI b i) (hl : b.length ≤ 1048576) (n : Int) : ∃ v i' h', spec_l1Below ⟨b, i, h⟩ n = some (v, ⟨b, i', h'⟩) ∧ okI b i' ∧ 0 ≤ v ∧ (0 < n → v < n) ∧ (n ≤ 0 → v = 0) := by
  rw [spec_l1Below]
  by_cases h0 : n ≤ 0
  · rw [if_pos (by simpa using h0)]
    exact ⟨_, _, _, rfl, hi, Int.le_refl _, fun h => by omega, fun _ => rfl⟩
  · rw [if_neg (by simpa using h0)]
    by_cases h256 : n ≤ 256
    · obtain ⟨v, i1, h1, e1, o1, v0, v1⟩ := byte_ok (h := h) hi hl
      rw [if_pos (by simpa using h256), e1, some_bind, if_pos (by omega)]
      refine ⟨_, _, _, rfl, o1, ?_, fun _ => ?_, fun h => by omega⟩
      · simp only; rw [tmod_pos v0]; exact Int.emod_nonneg _ (by omega)
      · simp only; rw [tmod_pos v0]; exact Int.emod_lt_of_pos _ (by omega)
    · obtain ⟨v, i1, h1, e1, o1, v0, v1⟩ := byte_ok (h := h) hi hl
      rw [if_neg (by simpa using h256), e1, some_bind]
      obtain ⟨u, i2, h2, e2, o2, u0, u1⟩ := byte_ok (h := h1) o1 hl
      simp only [e2, some_bind]
      obtain ⟨t, i3, h3, e3, o3, t0, t1⟩ := byte_ok (h := h2) o2 hl
      simp only [e3, some_bind]
      rw [if_pos (by omega), w64 (n := v * 65536) (by omega) (by omega), w64 (n := u * 256) (by omega) (by omega), w64 (n := v * 65536 + u * 256) (by omega) (by omega), w64 (by omega) (by omega)]
      refine ⟨_, _, _, rfl, o3, ?_, fun _ => ?_, fun h => by omega⟩
      · rw [tmod_pos (by omega)]; exact Int.emod_nonneg _ (by omega)
      · rw [tmod_pos (by omega)]; exact Int.emod_lt_of_pos _ (by omega)
theorem once_ok {b : List Int} {i h : Int} (hi : okI b i) (hl : b.length ≤ 1048576) (n : Int) : ∃ v i' h', spec_l1Once ⟨b, i, h⟩ n = some (v, ⟨b, i', h'⟩) ∧ okI b i' := by
  obtain ⟨v, i1, h1, e1, o1, _⟩ := below_ok (h := h) hi hl n
  exact ⟨_, _, _, by rw [spec_l1Once, e1, some_bind], o1⟩
theorem int_ok {b : List Int} {i h : Int} (hi : okI b i) (hl : b.length ≤ 1048576) {l : List Int} (hn : 0 < l.length) : ∃ v i' h', spec_l1Int ⟨b, i, h⟩ l = some (v, ⟨b, i', h'⟩) ∧ okI b i' ∧ v ∈ l := by
  obtain ⟨v, i1, h1, e1, o1, v0, v1, _⟩ := below_ok (h := h) hi hl ((List.length l : Nat) : Int)
  have hv := v1 (by omega)
  refine ⟨_, _, _, by rw [spec_l1Int, e1, some_bind, if_pos ⟨v0, hv⟩], o1, ?_⟩
  obtain ⟨q, e⟩ := gt_eq v0 hv
  rw [e]; exact List.getElem_mem q
theorem bytes_ok {k : Nat} (hk : Big k) {b : List Int} {i h : Int} (hi : okI b i) (hl : b.length ≤ 1048576) {n : Int} (hn : n ≤ 4096) : ∃ v i' h', spec_l1Bytes k ⟨b, i, h⟩ n = some (v, ⟨b, i', h'⟩) ∧ okI b i' ∧ v.length = n.toNat ∧ ∀ x ∈ v, wfU8 x := by
  obtain ⟨o, e, hQ⟩ := loopM_ends (b := spec_l1Bytes_b0 ⟨b, i, h⟩ n) (fun s => (s.1.length : Int) = s.2.1 ∧ (s.2.1 ≤ n ∨ s.2.1 = 0) ∧ okI b s.2.2.1 ∧ ∀ x ∈ s.1, wfU8 x) (fun s => (n - s.2.1).toNat) (fun o => ∃ v j i' h', o = .out (v, j, i', h') ∧ okI b i' ∧ v.length = n.toNat ∧ ∀ x ∈ v, wfU8 x) (fun s hs => by
      obtain ⟨v, j, i1, h1⟩ := s
      obtain ⟨e1, e2, o1, w1⟩ := hs
      simp only at e1 e2 o1 w1
      simp only [spec_l1Bytes_b0]
      by_cases hj : j < n
      · obtain ⟨u, i2, h2, f1, f2, f3, f4⟩ := byte_ok (h := h1) o1 hl
        rw [if_pos (by simpa using hj), f1, some_bind, if_pos (okLen_iff.2 (by simp; omega)), w64 (by omega) (by omega)]
        refine ⟨_, rfl, ⟨by simp; omega, .inl (by simp only; omega), f2, fun x hx => ?_⟩, by simp only; omega⟩
        simp only [List.mem_append, List.mem_cons, List.not_mem_nil, or_false] at hx
        rcases hx with hx | rfl
        · exact w1 x hx
        · rw [u8w]; constructor <;> omega
      · rw [if_neg (by simpa using hj)]
        exact ⟨_, rfl, _, _, _, _, rfl, o1, by omega, w1⟩) k ([], 0, i, h) ⟨rfl, .inr rfl, hi, by simp⟩ (by have : 9223372036854775808 ≤ k := hk; simp; omega)
  obtain ⟨v, j, i', h', rfl, q1, q2, q3⟩ := hQ
  exact ⟨v, i', h', by rw [spec_l1Bytes, e, some_bind], q1, q2, q3⟩
theorem new_ok {k : Nat} (hk : Big k) {b : List Int} (hl : b.length ≤ 1048576) : ∃ h, spec_l1New k b = some ⟨b, 0, h⟩ := by
  obtain ⟨o, e, hQ⟩ := loopM_ends (b := spec_l1New_b0 b) (fun s => 0 ≤ s.2 ∧ s.2 ≤ (b.length : Int)) (fun s => ((b.length : Int) - s.2).toNat) (fun o => ∃ s, o = .out s) (fun s hs => by
      obtain ⟨h, i⟩ := s
      simp only at hs
      simp only [spec_l1New_b0]
      by_cases hc : i < ((List.length b : Nat) : Int) ∧ i < 4000
      · rw [if_pos (by simpa using hc), if_pos (by omega)]
        exact ⟨_, rfl, ⟨by simp only; rw [w64 (by omega) (by omega)]; omega, by simp only; rw [w64 (by omega) (by omega)]; omega⟩, by simp only; rw [w64 (by omega) (by omega)]; omega⟩
      · rw [if_neg (by simpa using hc)]
        exact ⟨_, rfl, _, rfl⟩) k ((wrap64 (141373 + ((List.length b : Nat) : Int))), 0) ⟨Int.le_refl _, by omega⟩ (by have : 9223372036854775808 ≤ k := hk; simp; omega)
  obtain ⟨s, rfl⟩ := hQ
  exact ⟨s.1, by rw [spec_l1New, e, some_bind]⟩

def okDisk (m : Nat) (d : TDisk) : Prop := d.Cells.length ≤ 114 ∧ (∀ c ∈ d.Cells, c.B.length ≤ 32 ∧ ∀ x ∈ c.B, wfU8 x) ∧ d.Wet.length ≤ m ∧ ∀ w ∈ d.Wet, (0 ≤ w.At ∧ w.At ≤ 113) ∧ w.B.length = 32 ∧ ∀ x ∈ w.B, wfU8 x
theorem okDisk.sm {m : Nat} {d : TDisk} (h : okDisk m d) : smD (m + 114) d := ⟨by have := h.1; omega, fun c hc => by have := (h.2.1 c hc).1; omega, by have := h.2.2.1; omega, fun w hw => by have := (h.2.2.2 w hw).2.1; omega⟩
theorem padw {b : List Int} {n : Int} (h : ∀ x ∈ b, wfU8 x) : ∀ x ∈ pad b n, wfU8 x := by
  intro x hx
  unfold pad at hx
  split at hx
  · rcases List.mem_append.1 hx with h1 | h1
    · exact h x h1
    · rw [List.eq_of_mem_replicate h1]; constructor <;> omega
  · exact h x hx
theorem okDisk.write {m : Nat} {d : TDisk} (h : okDisk m d) {s : Int} {b : List Int} (hb : ∀ x ∈ b, wfU8 x) : okDisk (m + 1) (writeD d s b) := by
  obtain ⟨h1, h2, h3, h4⟩ := h
  unfold writeD
  split
  · rename_i hc
    refine ⟨h1, h2, by simp only [List.length_append, List.length_cons, List.length_nil]; omega, fun w hw => ?_⟩
    simp only [List.mem_append, List.mem_cons, List.not_mem_nil, or_false] at hw
    rcases hw with hw | rfl
    · exact h4 w hw
    · exact ⟨hc.2.1, by rw [pad_len (by omega) (by omega)]; rfl, fun x hx => padw (n := 32) hb x hx⟩
  · exact ⟨h1, h2, by simp only; omega, h4⟩
theorem okDisk.mono {m n : Nat} {d : TDisk} (h : okDisk m d) (hn : m ≤ n) : okDisk n d := ⟨h.1, h.2.1, Nat.le_trans h.2.2.1 hn, h.2.2.2⟩
theorem okDisk.flush {m : Nat} {d : TDisk} (h : okDisk m d) : okDisk m (flushD d) := by
  obtain ⟨h1, h2, h3, h4⟩ := h
  unfold flushD
  split
  · refine ⟨by have := flushC_len d.Wet d.Cells; simp only; omega, fun y hy => ?_, by simp, by simp⟩
    rcases flushC_mem d.Wet d.Cells y hy with h | rfl | ⟨w, hw, rfl⟩
    · exact h2 y h
    · simp [noCell]
    · exact ⟨by have := (h4 w hw).2.1; simp only; omega, (h4 w hw).2.2⟩
  · exact ⟨h1, h2, h3, h4⟩
theorem drawDisk_loop {k : Nat} (hk : Big k) {b : List Int} (hl : b.length ≤ 1048576) {bd : (Int × Int × Int × (List TCell) × (List TWet) × Int × Bool) → Option (Nx (Int × Int × Int × (List TCell) × (List TWet) × Int × Bool) (TDisk × TCur))}
    (hb : ∀ c i h cells wet f dd, bd (c, i, h, cells, wet, f, dd) = (if (decide (c > 0)) = true then ((spec_l1Once (⟨b, i, h⟩ : TCur) 4).bind fun t76 => (if t76.1 = true then ((spec_Flush k (⟨cells, wet, f, dd⟩ : TDisk)).bind fun t78 => some (.next ((wrap64 (c - 1)), t76.2.i, t76.2.h, t78.Cells, t78.Wet, t78.Fuse, t78.Dead))) else ((spec_l1Below (⟨b, t76.2.i, t76.2.h⟩ : TCur) 8).bind fun t85 => ((spec_l1Int (⟨b, t85.2.i, t85.2.h⟩ : TCur) ([0, 3, 32, 32] : (List Int))).bind fun t89 => ((spec_l1Bytes k (⟨b, t89.2.i, t89.2.h⟩ : TCur) t89.1).bind fun t91 => ((spec_Write k (⟨cells, wet, f, dd⟩ : TDisk) t85.1 t91.1).bind fun t95 => some (.next ((wrap64 (c - 1)), t91.2.i, t91.2.h, t95.Cells, t95.Wet, t95.Fuse, t95.Dead)))))))) else some (.out (c, i, h, cells, wet, f, dd))))
    {c i h f : Int} {dd : Bool} (hc : 0 ≤ c ∧ c ≤ 15) (hi : okI b i) : ∃ c' i' h' cells' wet' f' dd', loopM bd k (c, i, h, [], [], f, dd) = some (.out (c', i', h', cells', wet', f', dd')) ∧ okI b i' ∧ okDisk 15 ⟨cells', wet', f', dd'⟩ := by
  obtain ⟨o, e, hQ⟩ := loopM_ends (b := bd) (fun s => (0 ≤ s.1 ∧ s.1 ≤ 15) ∧ okI b s.2.1 ∧ okDisk (15 - s.1.toNat) ⟨s.2.2.2.1, s.2.2.2.2.1, s.2.2.2.2.2.1, s.2.2.2.2.2.2⟩) (fun s => s.1.toNat) (fun o => ∃ c' i' h' cells' wet' f' dd', o = .out (c', i', h', cells', wet', f', dd') ∧ okI b i' ∧ okDisk 15 ⟨cells', wet', f', dd'⟩) (fun s hs => by
      obtain ⟨c, i, h, cells, wet, f, dd⟩ := s
      obtain ⟨hc, hi, hd⟩ := hs
      simp only at hc hi hd
      rw [hb]
      by_cases h0 : c > 0
      · obtain ⟨q, i1, h1, e1, o1⟩ := once_ok (h := h) hi hl 4
        rw [if_pos (by simpa using h0), e1, some_bind]
        simp only
        cases q
        · rw [if_neg (by simp)]
          obtain ⟨s, i2, h2, e2, o2, s0, s1, _⟩ := below_ok (h := h1) o1 hl 8
          simp only [e2, some_bind]
          obtain ⟨n, i3, h3, e3, o3, hn⟩ := int_ok (h := h2) o2 hl (l := [0, 3, 32, 32]) (by simp)
          simp only [e3, some_bind]
          have hn2 : n ≤ 32 := by simp at hn; omega
          obtain ⟨v, i4, h4, e4, o4, v1, v2⟩ := bytes_ok hk (h := h3) o3 hl (n := n) (by omega)
          simp only [e4, some_bind]
          rw [spec_writeD_eq hk hd.sm (by omega) (by omega), some_bind]
          refine ⟨_, rfl, ⟨by simp only; rw [w64 (by omega) (by omega)]; omega, o4, ?_⟩, by simp only; rw [w64 (by omega) (by omega)]; omega⟩
          simp only
          rw [w64 (by omega) (by omega)]
          exact (hd.write v2).mono (by omega)
        · rw [if_pos rfl, spec_flushD_eq hk hd.sm (by omega), some_bind]
          refine ⟨_, rfl, ⟨by simp only; rw [w64 (by omega) (by omega)]; omega, o1, ?_⟩, by simp only; rw [w64 (by omega) (by omega)]; omega⟩
          simp only
          rw [w64 (by omega) (by omega)]
          exact hd.flush.mono (by omega)
      · rw [if_neg (by simpa using h0)]
        exact ⟨_, rfl, _, _, _, _, _, _, _, rfl, hi, hd.mono (by omega)⟩) k (c, i, h, [], [], f, dd) ⟨hc, hi, by simp [okDisk]⟩ (by have : 9223372036854775808 ≤ k := hk; simp; omega)
  obtain ⟨c', i', h', cells', wet', f', dd', rfl, q1, q2⟩ := hQ
  exact ⟨_, _, _, _, _, _, _, e, q1, q2⟩
theorem drawDisk_ok {k : Nat} (hk : Big k) {b : List Int} {i h : Int} (hi : okI b i) (hl : b.length ≤ 1048576) : ∃ d i' h', spec_l18Draw k ⟨b, i, h⟩ = some (d, ⟨b, i', h'⟩) ∧ okI b i' ∧ okDisk 15 d := by
  rw [spec_l18Draw, spec_DiskNew, some_bind]
  obtain ⟨q, i1, h1, e1, o1⟩ := once_ok (h := h) hi hl 3
  rw [e1, some_bind]
  simp only
  cases q
  · rw [if_neg (by simp)]
    obtain ⟨s, i2, h2, e2, o2, s0, s1, _⟩ := below_ok (h := h1) o1 hl 16
    have s3 := s1 (by omega)
    simp only [e2, some_bind]
    obtain ⟨c', i', h', cells', wet', f', dd', e3, o3, hd⟩ := drawDisk_loop hk hl (bd := spec_l18Draw_b1 k ⟨b, i, h⟩) (fun _ _ _ _ _ _ _ => rfl) (c := s) (i := i2) (h := h2) (f := -1) (dd := false) ⟨s0, by omega⟩ o2
    rw [e3]
    exact ⟨_, _, _, rfl, o3, hd⟩
  · rw [if_pos rfl]
    obtain ⟨u, i4, h4, e4, o4, _⟩ := below_ok (h := h1) o1 hl 12
    simp only [e4, some_bind]
    obtain ⟨s, i2, h2, e2, o2, s0, s1, _⟩ := below_ok (h := h4) o4 hl 16
    have s3 := s1 (by omega)
    simp only [e2, some_bind]
    obtain ⟨c', i', h', cells', wet', f', dd', e3, o3, hd⟩ := drawDisk_loop hk hl (bd := spec_l18Draw_b0 k ⟨b, i, h⟩) (fun _ _ _ _ _ _ _ => rfl) (c := s) (i := i2) (h := h2) (f := u) (dd := false) ⟨s0, by omega⟩ o2
    rw [e3]
    exact ⟨_, _, _, rfl, o3, hd⟩
theorem drawHow_ok {k : Nat} (hk : Big k) {b : List Int} {i h : Int} (hi : okI b i) (hl : b.length ≤ 1048576) {n : Int} (hn : n ≤ 4096) : ∃ v i' h', spec_l18How k ⟨b, i, h⟩ n = some (v, ⟨b, i', h'⟩) ∧ okI b i' ∧ v.length ≤ 4096 := by
  obtain ⟨s, i2, h2, e2, o2, s0, s1, s2⟩ := below_ok (h := h) hi hl n
  rw [spec_l18How, e2, some_bind]
  have hs : s ≤ 4096 := by
    rcases Int.lt_or_le 0 n with h | h
    · have := s1 h; omega
    · have := s2 h; omega
  obtain ⟨o, e, hQ⟩ := loopM_ends (b := spec_l18How_b0 ⟨b, i, h⟩) (fun t => (0 ≤ t.2.1 ∧ (t.1.length : Int) + t.2.1 ≤ 4096) ∧ okI b t.2.2.1) (fun t => t.2.1.toNat) (fun o => ∃ v j i' h', o = .out (v, j, i', h') ∧ okI b i' ∧ v.length ≤ 4096) (fun t ht => by
      obtain ⟨v, j, i3, h3⟩ := t
      obtain ⟨q1, q2⟩ := ht
      simp only at q1 q2
      simp only [spec_l18How_b0]
      by_cases hj : j > 0
      · obtain ⟨u, i4, h4, e4, o4, _⟩ := int_ok (h := h3) q2 hl (l := [0, 1, 1, 2, 3]) (by simp)
        rw [if_pos (by simpa using hj), e4, some_bind, if_pos (okLen_iff.2 (by simp; omega)), w64 (by omega) (by omega)]
        exact ⟨_, rfl, ⟨by simp; omega, o4⟩, by simp only; omega⟩
      · rw [if_neg (by simpa using hj)]
        exact ⟨_, rfl, _, _, _, _, rfl, q2, by omega⟩) k ([], s, i2, h2) ⟨by simp; omega, o2⟩ (by have : 9223372036854775808 ≤ k := hk; simp only; omega)
  obtain ⟨v, j, i', h', rfl, q1, q2⟩ := hQ
  simp only [e, some_bind]
  exact ⟨_, _, _, rfl, q1, q2⟩

theorem okDisk.crash {m : Nat} {d : TDisk} (h : okDisk m d) (hw : List Int) (f : Int) : okDisk m (crashD d hw f) := by
  obtain ⟨h1, h2, h3, h4⟩ := h
  refine ⟨by have := crashC_len (d.Wet.zip hw) d.Cells; simp only [crashD]; omega, fun y hy => ?_, by simp [crashD], by simp [crashD]⟩
  rcases crashC_mem (d.Wet.zip hw) d.Cells y hy with h | rfl | rfl | ⟨w, hw, rfl⟩
  · exact h2 y h
  · simp [noCell]
  · simp
  · have hm := (List.of_mem_zip hw).1
    exact ⟨by have := (h4 _ hm).2.1; simp only; omega, (h4 _ hm).2.2⟩
theorem okDisk.bytes {m : Nat} {d : TDisk} (h : okDisk m d) : bytesD d := ⟨fun c hc => (h.2.1 c hc).2, fun w hw => (h.2.2.2 w hw).2.2⟩

/-- A draw: it answers, its cursor stays good, and what it draws is as P says. -/
def Dr {α : Type} (b : List Int) (o : Option (α × TCur)) (P : α → Prop) : Prop := ∃ v i h, o = some (v, ⟨b, i, h⟩) ∧ okI b i ∧ P v
theorem Dr.bind {α β : Type} {b : List Int} {o : Option (α × TCur)} {P : α → Prop} {f : α × TCur → Option (β × TCur)} {Q : β → Prop} (h : Dr b o P) (hf : ∀ v i h, okI b i → P v → Dr b (f (v, ⟨b, i, h⟩)) Q) : Dr b (o.bind f) Q := by
  obtain ⟨v, i, h, rfl, h1, h2⟩ := h
  exact hf v i h h1 h2
theorem Dr.bindN {α β : Type} {b : List Int} {o : Option (α × TCur)} {P : α → Prop} {f : α × TCur → Option β} {Q : β → Prop} (h : Dr b o P) (hf : ∀ v i h, okI b i → P v → ∃ r, f (v, ⟨b, i, h⟩) = some r ∧ Q r) : ∃ r, o.bind f = some r ∧ Q r := by
  obtain ⟨v, i, h, rfl, h1, h2⟩ := h
  exact hf v i h h1 h2
theorem Dr.pbind {α β : Type} {b : List Int} {o : Option α} {a : α} {f : α → Option (β × TCur)} {Q : β → Prop} (h : o = some a) (hf : Dr b (f a) Q) : Dr b (o.bind f) Q := by
  subst h; exact hf
theorem Dr.ebind {α β : Type} {b : List Int} {o : Option α} {P : α → Prop} {f : α → Option (β × TCur)} {Q : β → Prop} (h : ∃ a, o = some a ∧ P a) (hf : ∀ a, P a → Dr b (f a) Q) : Dr b (o.bind f) Q := by
  obtain ⟨a, rfl, hp⟩ := h; exact hf a hp
theorem Dr.ret {α : Type} {b : List Int} {v : α} {i h : Int} {P : α → Prop} (hi : okI b i) (hp : P v) : Dr b (some (v, ⟨b, i, h⟩)) P := ⟨v, i, h, rfl, hi, hp⟩
theorem Dr.ite {α : Type} {b : List Int} {c : Prop} [Decidable c] {x y : Option (α × TCur)} {P : α → Prop} (h1 : c → Dr b x P) (h2 : ¬ c → Dr b y P) : Dr b (if c then x else y) P := by
  by_cases h : c
  · rw [if_pos h]; exact h1 h
  · rw [if_neg h]; exact h2 h
theorem Dr.mono {α : Type} {b : List Int} {o : Option (α × TCur)} {P Q : α → Prop} (h : Dr b o P) (hpq : ∀ v, P v → Q v) : Dr b o Q := by
  obtain ⟨v, i, h, h0, h1, h2⟩ := h
  exact ⟨v, i, h, h0, h1, hpq v h2⟩
theorem below_dr {b : List Int} {i h : Int} (hi : okI b i) (hl : b.length ≤ 1048576) (n : Int) : Dr b (spec_l1Below ⟨b, i, h⟩ n) (fun v => 0 ≤ v ∧ (0 < n → v < n)) := by
  obtain ⟨v, i', h', e, o, h0, h1, _⟩ := below_ok (h := h) hi hl n
  exact ⟨v, i', h', e, o, h0, h1⟩
theorem once_dr {b : List Int} {i h : Int} (hi : okI b i) (hl : b.length ≤ 1048576) (n : Int) : Dr b (spec_l1Once ⟨b, i, h⟩ n) (fun _ => True) := by
  obtain ⟨v, i', h', e, o⟩ := once_ok (h := h) hi hl n
  exact ⟨v, i', h', e, o, trivial⟩
theorem int_dr {b : List Int} {i h : Int} (hi : okI b i) (hl : b.length ≤ 1048576) {l : List Int} (hn : 0 < l.length) : Dr b (spec_l1Int ⟨b, i, h⟩ l) (· ∈ l) := by
  obtain ⟨v, i', h', e, o, h1⟩ := int_ok (h := h) hi hl hn
  exact ⟨v, i', h', e, o, h1⟩
theorem Ne.ite {β : Type} {c : Prop} [Decidable c] {x y : Option β} {Q : β → Prop} (h1 : c → ∃ r, x = some r ∧ Q r) (h2 : ¬ c → ∃ r, y = some r ∧ Q r) : ∃ r, (if c then x else y) = some r ∧ Q r := by
  by_cases h : c
  · rw [if_pos h]; exact h1 h
  · rw [if_neg h]; exact h2 h
theorem Ne.pbind {α β : Type} {o : Option α} {a : α} {f : α → Option β} {Q : β → Prop} (h : o = some a) (hf : ∃ r, f a = some r ∧ Q r) : ∃ r, o.bind f = some r ∧ Q r := by
  subst h; exact hf
theorem Ne.ebind {α β : Type} {o : Option α} {P : α → Prop} {f : α → Option β} {Q : β → Prop} (h : ∃ a, o = some a ∧ P a) (hf : ∀ a, P a → ∃ r, f a = some r ∧ Q r) : ∃ r, o.bind f = some r ∧ Q r := by
  obtain ⟨a, rfl, hp⟩ := h; exact hf a hp

def getHeadD (l : List Int) : THead × Bool := if (l.length = 32 ∧ headOk ⟨(get2 l 1).1, (get2 l 3).1, gt l 5, gt l 6⟩ = true ∧ pad (headCell ⟨(get2 l 1).1, (get2 l 3).1, gt l 5, gt l 6⟩) 32 = l) then (⟨(get2 l 1).1, (get2 l 3).1, gt l 5, gt l 6⟩, true) else (⟨0, 0, 0, 0⟩, false)
theorem getHeadD_eq {k : Nat} (hk : Big k) {l : List Int} (hw : ∀ x ∈ l, wfU8 x) (hl : l.length ≤ 1048576) : spec_GetHead k l = some (getHeadD l) ∧ impl_GetHead k l = some (getHeadD l) := by
  unfold spec_GetHead impl_GetHead
  by_cases h : ((List.length l : Nat) : Int) = 32
  · have h32 : l.length = 32 := by omega
    have b5 : 0 ≤ gt l 5 ∧ gt l 5 ≤ 255 := hw _ (gt_mem (by omega) (by omega))
    have b6 : 0 ≤ gt l 6 ∧ gt l 6 ≤ 255 := hw _ (gt_mem (by omega) (by omega))
    have e5 : IntKind.i64.wrap (gt l 5) = gt l 5 := by rw [i64w, w64 (by omega) (by omega)]
    have e6 : IntKind.i64.wrap (gt l 6) = gt l 6 := by rw [i64w, w64 (by omega) (by omega)]
    rw [if_neg (by simp [h]), if_neg (by simp [h]), spec_get2_eq hw (by omega), spec_get2_eq hw (by omega), impl_get2_eq hw (by omega), impl_get2_eq hw (by omega)]
    simp only [some_bind]
    rw [if_pos (by omega), if_pos (by omega), if_pos (by omega), if_pos (by omega), spec_headOk_eq, impl_headOk_eq]
    simp only [some_bind, e5, e6]
    rw [getHeadD]
    generalize (⟨(get2 l 1).1, (get2 l 3).1, gt l 5, gt l 6⟩ : THead) = hd
    cases hh : headOk hd
    · simp
    · have h7 := headCell_len hd
      have hpl : (pad (headCell hd) 32).length = 32 := pad_len (by omega) (by omega)
      simp only [spec_headCell_eq, impl_headCell_eq, some_bind, spec_pad_eq hk (l := headCell hd) (n := 32) (by omega), impl_pad_eq hk (l := headCell hd) (n := 32) (by omega), bytes_Equal, Bool.not_true, Bool.false_eq_true, if_false,
        same_eq hk (N := 1048576) (by omega) (pad (headCell hd) 32) l ⟨by omega, fun _ _ => trivial⟩, str_eq (pad_wf (n := 32) (headCell_wf hd)) hw]
      by_cases he : pad (headCell hd) 32 = l
      · simp [he, h32]
      · simp [he]
  · rw [if_pos (by simp [h]), if_pos (by simp [h]), getHeadD, if_neg (by intro hh; exact h (by omega))]
    exact ⟨rfl, rfl⟩
theorem getHeadD_round {h : THead} (hh : headOk h = true) : getHeadD (pad (headCell h) 32) = (h, true) := by
  have ho := hh
  unfold headOk at ho
  simp only [Bool.and_eq_true, decide_eq_true_eq] at ho
  obtain ⟨⟨⟨h1, h2⟩, h3⟩, h4⟩ := ho
  rw [w64 (by omega) (by omega)] at h4
  have e : pad (headCell h) 32 = [3, h.Epoch / 256, h.Epoch % 256, h.Seq / 256, h.Seq % 256, h.Root % 256, h.Size % 256] ++ List.replicate 25 0 := by
    rw [headCell, if_pos hh, put2, if_pos (by omega), put2, if_pos (by omega), pad, if_pos (by decide)]
    rfl
  have g1 : get2 (pad (headCell h) 32) 1 = (256 * (h.Epoch / 256) + h.Epoch % 256, true) := by rw [e]; rfl
  have g3 : get2 (pad (headCell h) 32) 3 = (256 * (h.Seq / 256) + h.Seq % 256, true) := by rw [e]; rfl
  have g5 : gt (pad (headCell h) 32) 5 = h.Root % 256 := by rw [e]; rfl
  have g6 : gt (pad (headCell h) 32) 6 = h.Size % 256 := by rw [e]; rfl
  have eh : (⟨(get2 (pad (headCell h) 32) 1).1, (get2 (pad (headCell h) 32) 3).1, gt (pad (headCell h) 32) 5, gt (pad (headCell h) 32) 6⟩ : THead) = h := by
    rw [g1, g3, g5, g6]
    obtain ⟨a, b, c, d⟩ := h
    simp only at h1 h2 h3 h4 ⊢
    simp only [THead.mk.injEq]
    refine ⟨by omega, by omega, by omega, by omega⟩
  have hlen : (pad (headCell h) 32).length = 32 := by rw [e]; rfl
  unfold getHeadD
  rw [eh, if_pos ⟨hlen, hh, rfl⟩]
def putHeadD (p : TDisk) (d : THead) : TDisk := if headOk d = true then writeD p (Int.tmod d.Epoch 2) (headCell d) else p
theorem putHeadD_eq {k M : Nat} (hk : Big k) {p : TDisk} {d : THead} (hs : smD M p) (hM : M ≤ 2097152) : spec_PutHead k p d = some (putHeadD p d) ∧ impl_PutHead k p d = some (putHeadD p d) := by
  have hl := headCell_len d
  rw [spec_PutHead, impl_PutHead, spec_headOk_eq, impl_headOk_eq, spec_copyDisk_eq hk hs (by omega), impl_copyDisk_eq hk hs (by omega), spec_headCell_eq, impl_headCell_eq, putHeadD]
  simp only [some_bind]
  cases headOk d
  · exact ⟨rfl, rfl⟩
  · refine ⟨?_, ?_⟩
    · simp [spec_writeD_eq hk hs (s := Int.tmod d.Epoch 2) (b := headCell d) (by omega) (by omega)]
    · simp [impl_writeD_eq hk hs (s := Int.tmod d.Epoch 2) (b := headCell d) (by omega) (by omega)]
theorem okDisk.putHead {m : Nat} {d : TDisk} (h : okDisk m d) (x : THead) : okDisk (m + 1) (putHeadD d x) := by
  unfold putHeadD
  split
  · exact h.write (headCell_wf x)
  · exact h.mono (by omega)
def bestS (d : TDisk) (s : Bool × Int × Int × Int × Int × Int) : Bool × Int × Int × Int × Int × Int :=
  let t := getHeadD (readD d s.2.1).1
  if (t.2 = true ∧ Int.tmod t.1.Epoch 2 = s.2.1) ∧ (s.1 = false ∨ t.1.Epoch > s.2.2.1) then (true, s.2.1 + 1, t.1.Epoch, t.1.Seq, t.1.Root, t.1.Size) else (s.1, s.2.1 + 1, s.2.2.1, s.2.2.2.1, s.2.2.2.2.1, s.2.2.2.2.2)
def bestD (d : TDisk) : THead × Bool :=
  let s := bestS d (bestS d (false, 0, 0, 0, 0, 0))
  (⟨s.2.2.1, s.2.2.2.1, s.2.2.2.2.1, s.2.2.2.2.2⟩, s.1)
theorem bestS_i (d : TDisk) (s : Bool × Int × Int × Int × Int × Int) : (bestS d s).2.1 = s.2.1 + 1 := by
  unfold bestS
  simp only
  split <;> rfl
theorem bestHead_eq {k : Nat} (hk : Big k) {d : TDisk} (h : smD 1048576 d) (w : bytesD d) : spec_BestHead k d = some (bestD d) ∧ impl_BestHead k d = some (bestD d) := by
  have step : ∀ s : Bool × Int × Int × Int × Int × Int, 0 ≤ s.2.1 ∧ s.2.1 < 2 → spec_BestHead_b0 k d s = some (.next (bestS d s)) ∧ impl_BestHead_b0 k d s = some (.next (bestS d s)) := by
    intro s hs
    obtain ⟨q, i, a, b, c, e⟩ := s
    simp only at hs
    obtain ⟨t1, t2⟩ := getHeadD_eq hk (readD_wf w i) (readD_len h i)
    have c2 : decide (i < 2) = true := by simpa using hs.2
    simp only [spec_BestHead_b0, impl_BestHead_b0, c2, if_true, spec_readD_eq hk h (by omega : 1048576 ≤ 2097152), impl_readD_eq hk h (by omega : 1048576 ≤ 2097152), some_bind, t1, t2, w64 (n := i + 1) (by omega) (by omega), bestS]
    generalize getHeadD (readD d i).1 = t
    have key : ((t.2 && decide (Int.tmod t.1.Epoch 2 = i)) && ((!q) || decide (t.1.Epoch > a))) = decide ((t.2 = true ∧ Int.tmod t.1.Epoch 2 = i) ∧ (q = false ∨ t.1.Epoch > a)) := by
      rw [Bool.eq_iff_iff]; simp
    simp only [key, decide_eq_true_eq]
    constructor
    · split <;> rfl
    · split <;> rfl
  have fin : ∀ s : Bool × Int × Int × Int × Int × Int, s.2.1 = 2 → spec_BestHead_b0 k d s = some (.out s) ∧ impl_BestHead_b0 k d s = some (.out s) := by
    intro s hs
    obtain ⟨q, i, a, b, c, e⟩ := s
    simp only at hs
    subst hs
    simp [spec_BestHead_b0, impl_BestHead_b0]
  have i1 : (bestS d (false, 0, 0, 0, 0, 0)).2.1 = 1 := bestS_i d _
  have i2 : (bestS d (bestS d (false, 0, 0, 0, 0, 0))).2.1 = 2 := by rw [bestS_i, i1]; rfl
  obtain ⟨n, rfl⟩ : ∃ n, k = n + 3 := ⟨k - 3, by have : 9223372036854775808 ≤ k := hk; omega⟩
  have s0 := step (false, 0, 0, 0, 0, 0) (by decide)
  have s1 := step (bestS d (false, 0, 0, 0, 0, 0)) (by rw [i1]; decide)
  have s2 := fin (bestS d (bestS d (false, 0, 0, 0, 0, 0))) i2
  constructor
  · rw [spec_BestHead]
    rw [loopM, s0.1]
    simp only
    rw [loopM, s1.1]
    simp only
    rw [loopM, s2.1]
    rfl
  · rw [impl_BestHead]
    rw [loopM, s0.2]
    simp only
    rw [loopM, s1.2]
    simp only
    rw [loopM, s2.2]
    rfl
theorem l21draw_dr {b : List Int} {i h : Int} (hi : okI b i) (hl : b.length ≤ 1048576) : Dr b (spec_l21Draw ⟨b, i, h⟩) (fun _ => True) := by
  rw [spec_l21Draw]
  refine Dr.bind (below_dr hi hl 9) fun x i1 h1 o1 hx => ?_
  refine Dr.bind (below_dr o1 hl 20) fun x i1 h1 o1 hx => ?_
  refine Dr.bind (below_dr o1 hl 9) fun x i1 h1 o1 hx => ?_
  exact Dr.bind (below_dr o1 hl _) fun x i1 h1 o1 hx => Dr.ret o1 trivial
theorem l21any_dr {b : List Int} {i h : Int} (hi : okI b i) (hl : b.length ≤ 1048576) : Dr b (spec_l21Any ⟨b, i, h⟩) (fun _ => True) := by
  rw [spec_l21Any]
  refine Dr.bind (l21draw_dr hi hl) fun x i1 h1 o1 hx => ?_
  refine Dr.bind (below_dr o1 hl 12) fun x i1 h1 o1 hx => ?_
  refine Dr.ite (fun _ => ?_) fun _ => Dr.ite (fun _ => ?_) fun _ => Dr.ite (fun _ => ?_) fun _ => Dr.ite (fun _ => ?_) fun _ => ?_
  · exact Dr.bind (int_dr o1 hl (by simp)) fun x i1 h1 o1 hx => Dr.ret o1 trivial
  · exact Dr.bind (int_dr o1 hl (by simp)) fun x i1 h1 o1 hx => Dr.ret o1 trivial
  · exact Dr.bind (int_dr o1 hl (by simp)) fun x i1 h1 o1 hx => Dr.ret o1 trivial
  · exact Dr.bind (int_dr o1 hl (by simp)) fun x i1 h1 o1 hx => Dr.ret o1 trivial
  · exact Dr.ret o1 trivial

theorem put2_wf {l : List Int} {y : Int} (hl : ∀ x ∈ l, wfU8 x) : ∀ x ∈ put2 l y, wfU8 x := by
  intro x hx
  unfold put2 at hx
  split at hx
  · simp only [List.mem_append, List.mem_cons, List.not_mem_nil, or_false] at hx
    rcases hx with h | h | h
    · exact hl x h
    · subst h; constructor <;> omega
    · subst h; constructor <;> omega
  · exact hl x hx
theorem m256_wf (x : Int) : wfU8 (x % 256) := by constructor <;> omega
theorem l6bent_dr {b : List Int} {i h : Int} (hi : okI b i) (hl : b.length ≤ 1048576) {q : List Int} (hq : q.length ≤ 64) (hw : ∀ x ∈ q, wfU8 x) : Dr b (spec_l6Bent ⟨b, i, h⟩ q) (fun r => r.length ≤ 65 ∧ ∀ x ∈ r, wfU8 x) := by
  rw [spec_l6Bent]
  refine Dr.ite (fun _ => Dr.ret hi ⟨by omega, hw⟩) fun h0 => ?_
  have h0' : q.length ≠ 0 := fun h => h0 (by simp [h])
  refine Dr.bind (below_dr hi hl 6) fun y i1 h1 o1 hy => ?_
  refine Dr.ite (fun _ => ?_) fun _ => Dr.ite (fun _ => ?_) fun _ => Dr.ite (fun _ => ?_) fun _ => ?_
  · refine Dr.bind (below_dr o1 hl _) fun z i2 h2 o2 hz => ?_
    refine Dr.bind (below_dr o2 hl 256) fun u i3 h3 o3 hu => ?_
    refine Dr.ite (fun hc => ?_) fun hn => absurd ⟨hz.1, hz.2 (by omega)⟩ hn
    refine Dr.pbind rfl ?_
    refine Dr.ret o3 ⟨by simp; omega, fun x hx => ?_⟩
    rcases List.mem_or_eq_of_mem_set hx with hx | rfl
    · exact hw x hx
    · rw [u8w]; constructor <;> omega
  · refine Dr.bind (below_dr o1 hl _) fun z i2 h2 o2 hz => ?_
    refine Dr.ite (fun hc => ?_) fun hn => absurd ⟨by decide, hz.1, by have := hz.2 (by omega); omega⟩ hn
    refine Dr.ret o2 ⟨?_, fun x hx => hw x (List.mem_of_mem_drop (List.mem_of_mem_take hx))⟩
    have : (slc q 0 z).length ≤ q.length := by simp only [slc, List.length_take, List.length_drop]; omega
    exact Nat.le_trans this (by omega)
  · refine Dr.ite (fun hc => ?_) fun hn => absurd (okLen_iff.2 (by simp; omega)) hn
    refine Dr.ret o1 ⟨by simp; omega, fun x hx => ?_⟩
    simp only [List.mem_append, List.mem_cons, List.not_mem_nil, or_false] at hx
    rcases hx with hx | rfl
    · exact hw x hx
    · constructor <;> omega
  · exact Dr.ret o1 ⟨by omega, hw⟩
theorem pad_len32 {q : List Int} (hq : q.length ≤ 64) : (pad q 32).length ≤ 64 := by
  unfold pad; rw [if_pos (by decide)]; simp; omega
theorem l19bytes_dr {k : Nat} (hk : Big k) {b : List Int} {i h : Int} (hi : okI b i) (hl : b.length ≤ 1048576) {q : List Int} (hq : q.length ≤ 64) (hw : ∀ x ∈ q, wfU8 x) : Dr b (spec_l19Bytes k ⟨b, i, h⟩ q) (fun r => r.length ≤ 65 ∧ ∀ x ∈ r, wfU8 x) := by
  rw [spec_l19Bytes]
  refine Dr.pbind (spec_pad_eq hk (by omega)) ?_
  have hp := pad_len32 hq
  have hpw := pad_wf (n := 32) hw
  refine Dr.bind (once_dr hi hl 2) fun y i1 h1 o1 hy => Dr.ite (fun _ => ?_) fun _ => Dr.ret o1 ⟨by omega, hpw⟩
  exact Dr.bind (l6bent_dr o1 hl hp hpw) fun u i2 h2 o2 hu => Dr.ret o2 hu

theorem lsame_eq {k : Nat} (hk : Big k) {p q : List Int} (hl : p.length ≤ 2097152) : laws_same k p q = some (decide (p = q)) := by
  rw [laws_same]
  by_cases he : p.length = q.length
  · rw [if_neg (by simp [he])]
    rw [loop_all (c := fun i => decide (p[i]? = q[i]?)) (n := p.length) (r := false) (by omega) hk]
    · by_cases hpq : p = q
      · subst hpq; simp
      · rw [if_neg, decide_eq_false hpq]
        · rfl
        · intro hh
          exact hpq (List.ext_getElem? fun i => by
            by_cases hi : i < p.length
            · simpa using hh i hi
            · rw [List.getElem?_eq_none (by omega), List.getElem?_eq_none (by omega)])
    · intro i hi
      have c1 : decide ((i : Int) < ((List.length p : Nat) : Int)) = true := by simp; omega
      have c2 : (0 : Int) ≤ (i : Int) ∧ (i : Int) < ((List.length p : Nat) : Int) := by omega
      have c3 : (0 : Int) ≤ (i : Int) ∧ (i : Int) < ((List.length q : Nat) : Int) := by omega
      have hq : i < q.length := by omega
      simp only [laws_same_b0, if_pos c1, if_pos c2, if_pos c3, gt_nat hi, gt_nat hq, w64s (n := i) (by omega), List.getElem?_eq_getElem hi, List.getElem?_eq_getElem hq, Option.some.injEq]
      by_cases hv : p[i] = q[i] <;> simp [hv]
    · have c1 : ¬ decide (((List.length p : Nat) : Int) < ((List.length p : Nat) : Int)) = true := by simp
      simp only [laws_same_b0, if_neg c1]
  · rw [if_pos (by simp; omega), decide_eq_false]
    rintro rfl; exact he rfl
theorem sameDisk_refl {k : Nat} (hk : Big k) {p : TDisk} (h1 : p.Cells.length ≤ 2097152) (h2 : ∀ y ∈ p.Cells, y.B.length ≤ 2097152) (h3 : p.Wet.length ≤ 2097152) (h4 : ∀ y ∈ p.Wet, y.B.length ≤ 2097152) : laws_sameDisk k p p = some true := by
  rw [laws_sameDisk, if_neg (by simp)]
  have e1 := loopM_run0 (b := laws_sameDisk_b0 k p p) (k := k) (fun i => (i : Int)) p.Cells.length (r := .out (p.Cells.length : Int)) (fun t h => by cases h) (fun j hj => by
      have c1 : decide ((j : Int) < ((List.length p.Cells : Nat) : Int)) = true := by simp; omega
      have c2 : (0 : Int) ≤ (j : Int) ∧ (j : Int) < ((List.length p.Cells : Nat) : Int) := by omega
      have hb := h2 _ (List.getElem_mem hj)
      simp only [laws_sameDisk_b0, if_pos c1, if_pos c2, gt_nat hj, lsame_eq hk (p := p.Cells[j].B) (q := p.Cells[j].B) hb, w64s (n := j) (by omega)]
      simp) (by simp only [laws_sameDisk_b0]; rw [if_neg (by simp)]) (by have : 9223372036854775808 ≤ k := hk; omega)
  have e2 := loopM_run0 (b := laws_sameDisk_b1 k p p) (k := k) (fun i => (i : Int)) p.Wet.length (r := .out (p.Wet.length : Int)) (fun t h => by cases h) (fun j hj => by
      have c1 : decide ((j : Int) < ((List.length p.Wet : Nat) : Int)) = true := by simp; omega
      have c2 : (0 : Int) ≤ (j : Int) ∧ (j : Int) < ((List.length p.Wet : Nat) : Int) := by omega
      have hb := h4 _ (List.getElem_mem hj)
      simp only [laws_sameDisk_b1, if_pos c1, if_pos c2, gt_nat hj, lsame_eq hk (p := p.Wet[j].B) (q := p.Wet[j].B) hb, w64s (n := j) (by omega)]
      simp) (by simp only [laws_sameDisk_b1]; rw [if_neg (by simp)]) (by have : 9223372036854775808 ≤ k := hk; omega)
  have e1' : loopM (laws_sameDisk_b0 k p p) k 0 = _ := e1
  have e2' : loopM (laws_sameDisk_b1 k p p) k 0 = _ := e2
  rw [e1', some_bind]
  simp only
  rw [e2', some_bind]

theorem headCell_pos {h : THead} : decide (((List.length (headCell h) : Nat) : Int) > 0) = headOk h := by
  unfold headCell
  cases headOk h
  · rfl
  · rw [if_pos rfl]; simp; omega
theorem drawBest_ok {k : Nat} (hk : Big k) {p0 : List Int} (hl : p0.length ≤ 1048576) : ∃ d, spec_DrawBestHead k p0 = some d ∧ okDisk 8 d := by
  obtain ⟨hh, en⟩ := new_ok hk hl
  have o0 : okI p0 0 := ⟨Int.le_refl _, by omega⟩
  have hnew : spec_DiskNew = some ⟨[], [], -1, false⟩ := rfl
  rw [spec_DrawBestHead]
  refine Ne.pbind en ?_
  refine Ne.pbind hnew ?_
  refine Dr.bindN (below_dr o0 hl 4) fun n i1 h1 o1 hn => ?_
  have hn0 := hn.1
  have hn1 := hn.2 (by decide)
  obtain ⟨o, e, hQ⟩ := loopM_ends (b := spec_DrawBestHead_b0 k p0) (fun s => (0 ≤ s.1 ∧ s.1 ≤ 4) ∧ okI p0 s.2.1 ∧ okDisk (8 - 2 * s.1).toNat ⟨s.2.2.2.1, s.2.2.2.2.1, s.2.2.2.2.2.1, s.2.2.2.2.2.2⟩) (fun s => s.1.toNat) (fun o => ∃ s, o = .out s ∧ okI p0 s.2.1 ∧ okDisk 8 ⟨s.2.2.2.1, s.2.2.2.2.1, s.2.2.2.2.2.1, s.2.2.2.2.2.2⟩) (fun s hs => by
      obtain ⟨r, i', h', cl, wl, fu, de⟩ := s
      obtain ⟨q0, q1, q2⟩ := hs
      simp only at q0 q1 q2
      simp only [spec_DrawBestHead_b0]
      by_cases hr : r > 0
      · obtain ⟨x, i2, h2, ex, o2, _⟩ := l21draw_dr (h := h') q1 hl
        rw [if_pos (by simpa using hr), ex, some_bind, (putHeadD_eq hk q2.sm (by omega)).1, some_bind]
        have d1 := q2.putHead x
        generalize putHeadD ⟨cl, wl, fu, de⟩ x = D at d1
        have er : wrap64 (r - 1) = r - 1 := w64 (by omega) (by omega)
        have tail : ∀ (D : TDisk) (i3 h3 : Int), okI p0 i3 → okDisk ((8 - 2 * r).toNat + 1) D → ∃ o, ((spec_l1Once (⟨p0, i3, h3⟩ : TCur) 6).bind fun t144 => (if t144.1 = true then ((spec_l1Below (⟨p0, t144.2.i, t144.2.h⟩ : TCur) 2).bind fun t147 => ((spec_l21Draw (⟨p0, t147.2.i, t147.2.h⟩ : TCur)).bind fun t149 => ((spec_HeadCell t149.1).bind fun t151 => ((spec_Write k D t147.1 t151).bind fun t155 => some (Nx.next ((wrap64 (r - 1)), t149.2.i, t149.2.h, t155.Cells, t155.Wet, t155.Fuse, t155.Dead)))))) else some (.next ((wrap64 (r - 1)), t144.2.i, t144.2.h, D.Cells, D.Wet, D.Fuse, D.Dead)))) = (some o : Option (Nx (Int × Int × Int × (List TCell) × (List TWet) × Int × Bool) TDisk)) ∧ match o with
            | .next s' => ((0 ≤ s'.1 ∧ s'.1 ≤ 4) ∧ okI p0 s'.2.1 ∧ okDisk (8 - 2 * s'.1).toNat ⟨s'.2.2.2.1, s'.2.2.2.2.1, s'.2.2.2.2.2.1, s'.2.2.2.2.2.2⟩) ∧ s'.1.toNat < r.toNat
            | _ => False := by
          intro D i3 h3 o3 hD
          obtain ⟨c, i4, h4, e4, o4, _⟩ := once_dr (h := h3) o3 hl 6
          rw [e4, some_bind]
          cases c
          · rw [if_neg (by simp), er]
            exact ⟨_, rfl, ⟨by simp only; omega, o4, hD.mono (by simp only; omega)⟩, by simp only; omega⟩
          · rw [if_pos rfl]
            obtain ⟨s, i5, h5, e5, o5, _⟩ := below_dr (h := h4) o4 hl 2
            obtain ⟨y, i6, h6, e6, o6, _⟩ := l21draw_dr (h := h5) o5 hl
            have hyl := headCell_len y
            simp only [e5, e6, some_bind, spec_headCell_eq, spec_writeD_eq hk hD.sm (s := s) (b := headCell y) (by omega) (by omega), er]
            exact ⟨_, rfl, ⟨by simp only; omega, o6, (hD.write (headCell_wf y)).mono (by simp only; omega)⟩, by simp only; omega⟩
        obtain ⟨c, i3, h3, e3, o3, _⟩ := once_dr (h := h2) o2 hl 3
        simp only [e3, some_bind]
        cases c
        · rw [if_neg (by simp)]
          obtain ⟨o, ho, hQ⟩ := tail D i3 h3 o3 d1
          refine ⟨o, ho, ?_⟩
          match o, hQ with
          | .next s', hQ => exact hQ
        · rw [if_pos rfl, spec_flushD_eq hk d1.sm (by omega), some_bind]
          obtain ⟨o, ho, hQ⟩ := tail (flushD D) i3 h3 o3 d1.flush
          refine ⟨o, ho, ?_⟩
          match o, hQ with
          | .next s', hQ => exact hQ
      · rw [if_neg (by simpa using hr)]
        exact ⟨_, rfl, _, rfl, q1, q2.mono (by omega)⟩) k (n, i1, h1, ([] : List TCell), ([] : List TWet), -1, false) ⟨by simp only; omega, o1, by simp [okDisk]⟩ (by have : 9223372036854775808 ≤ k := hk; simp only; omega)
  obtain ⟨⟨r, i', h', cl, wl, fu, de⟩, rfl, p1, p2⟩ := hQ
  refine Ne.pbind e ?_
  refine Dr.bindN (once_dr p1 hl 3) fun c i3 h3 o3 _ => Ne.ite (fun _ => ?_) fun _ => ⟨_, rfl, p2⟩
  obtain ⟨hw, i4, h4, e4, o4, hwl⟩ := drawHow_ok hk (i := i3) (h := h3) o3 hl (n := 5) (by omega)
  refine Ne.pbind e4 ?_
  refine Ne.pbind (spec_crashD_eq hk p2.sm (by omega) (Nat.le_trans hwl (by omega))) ?_
  exact ⟨_, rfl, p2.crash hw (-1)⟩
def safeD : TDisk := flushD (putHeadD ⟨[], [], -1, false⟩ ⟨6, 0, 0, 1⟩)
def nextD : TDisk := putHeadD safeD ⟨7, 3, 0, 2⟩
theorem at_ok {p0 : List Int} (h0 : wfL wfU8 p0) (hl : p0.length ≤ 1048576) : ∃ v, laws_at p0 2 = some v ∧ 0 ≤ v := by
  rw [laws_at]
  by_cases h : (2 : Int) < ((List.length p0 : Nat) : Int)
  · have hb := h0.2 _ (gt_mem (l := p0) (i := 2) (by omega) h)
    have hb1 := hb.1
    have hb2 := hb.2
    rw [if_pos (by simpa using h), if_pos ⟨by decide, h⟩]
    refine ⟨_, rfl, ?_⟩
    rw [i64w, w64 (by omega) (by omega)]; exact hb1
  · rw [if_neg (by simpa using h)]
    refine ⟨_, rfl, ?_⟩
    rw [w64 (n := 2 * 31) (by omega) (by omega), w64 (n := ((List.length p0 : Nat) : Int) * 7) (by omega) (by omega), w64 (by omega) (by omega)]
    rw [tmod_pos (by omega)]
    omega
theorem laws_FnHeads_true {p0 : List Int} (h0 : wfL wfU8 p0) : ∃ k, laws_FnHeads k p0 = some true := by
  refine ⟨9223372036854775808, ?_⟩
  generalize hK : 9223372036854775808 = k
  have hk : Big k := by rw [Big, hK]; exact Nat.le_refl _
  clear hK
  rw [laws_FnHeads, laws_big, some_bind]
  by_cases hl : ((List.length p0 : Nat) : Int) > 1048576
  · rw [if_pos (by simpa using hl)]
  rw [if_neg (by simpa using hl)]
  have hl' : p0.length ≤ 1048576 := by omega
  obtain ⟨hh, en⟩ := new_ok hk hl'
  have o0 : okI p0 0 := ⟨Int.le_refl _, by omega⟩
  obtain ⟨h, i1, h1, e1, o1, _⟩ := l21any_dr (h := hh) o0 hl'
  have eH : spec_DrawHeadOk k p0 = some h := by
    rw [spec_DrawHeadOk, en, some_bind]
    simp only [e1, some_bind]
  have hcl := headCell_len h
  obtain ⟨c, eG, hc⟩ : ∃ c, spec_DrawGetHead k p0 = some c ∧ (c.length ≤ 65 ∧ ∀ x ∈ c, wfU8 x) := by
    rw [spec_DrawGetHead]
    refine Ne.pbind en ?_
    refine Ne.pbind e1 ?_
    refine Ne.pbind (spec_headCell_eq _) ?_
    exact Dr.bindN (l19bytes_dr hk o1 hl' (Nat.le_trans hcl (by omega)) (headCell_wf h)) fun u i2 h2 o2 hu => ⟨_, rfl, hu⟩
  obtain ⟨d, eB, hd⟩ := drawBest_ok hk hl'
  obtain ⟨⟨e, q⟩, eP, he⟩ : ∃ r, spec_DrawPutHead k p0 = some r ∧ okDisk 15 r.1 := by
    rw [spec_DrawPutHead]
    refine Ne.pbind en ?_
    obtain ⟨d, i1, h1, e1, o1, hd⟩ := drawDisk_ok hk (i := 0) (h := hh) o0 hl'
    refine Ne.pbind e1 ?_
    exact Dr.bindN (l21any_dr o1 hl') fun u i2 h2 o2 hu => ⟨_, rfl, hd⟩
  simp only at he
  have hp32 : (pad (headCell h) 32).length = 32 := pad_len (by omega) (by omega)
  have g1 := (getHeadD_eq hk (pad_wf (n := 32) (headCell_wf h)) (by omega)).2
  obtain ⟨g2, g3⟩ := getHeadD_eq hk hc.2 (by omega)
  obtain ⟨b1, b2⟩ := bestHead_eq hk (hd.sm.mono (by omega)) hd.bytes
  obtain ⟨q1, q2⟩ := putHeadD_eq hk (d := q) (he.sm.mono (N := 1048576) (by omega)) (by omega)
  have hq := (he.putHead q).sm
  have refl : ∀ {M : Nat} {t : TDisk}, smD M t → M ≤ 2097152 → laws_sameDisk k t t = some true := fun {M t} h hM =>
    sameDisk_refl hk (by have := h.1; omega) (fun y hy => by have := h.2.1 y hy; omega) (by have := h.2.2.1; omega) (fun y hy => by have := h.2.2.2 y hy; omega)
  have hnew : impl_DiskNew = some ⟨[], [], -1, false⟩ := rfl
  have k0 : okDisk 0 ⟨[], [], -1, false⟩ := by simp [okDisk]
  have k1 : okDisk 1 safeD := (k0.putHead ⟨6, 0, 0, 1⟩).flush
  have k2 : okDisk 2 nextD := k1.putHead ⟨7, 3, 0, 2⟩
  have f1 : impl_PutHead k ⟨[], [], -1, false⟩ ⟨6, 0, 0, 1⟩ = some (putHeadD ⟨[], [], -1, false⟩ ⟨6, 0, 0, 1⟩) := (putHeadD_eq hk k0.sm (by omega)).2
  have f2 : impl_Flush k (putHeadD ⟨[], [], -1, false⟩ ⟨6, 0, 0, 1⟩) = some safeD := impl_flushD_eq hk (k0.putHead ⟨6, 0, 0, 1⟩).sm (by omega)
  have f3 : impl_PutHead k safeD ⟨7, 3, 0, 2⟩ = some nextD := (putHeadD_eq hk k1.sm (by omega)).2
  obtain ⟨v, ev, hv⟩ := at_ok h0 hl'
  have f4 : impl_Crash k nextD [Int.tmod v 3] (-1) = some (crashD nextD [Int.tmod v 3] (-1)) := impl_crashD_eq hk k2.sm (by omega) (by simp)
  have f5 := (bestHead_eq hk ((k2.crash [Int.tmod v 3] (-1)).sm.mono (by omega)) (k2.crash [Int.tmod v 3] (-1)).bytes).2
  have main : (bestD (crashD nextD [Int.tmod v 3] (-1))).2 = true ∧ ((bestD (crashD nextD [Int.tmod v 3] (-1))).1.Epoch = 6 ∨ ((bestD (crashD nextD [Int.tmod v 3] (-1))).1.Epoch = 7 ∧ Int.tmod v 3 = 1)) := by
    have hm : Int.tmod v 3 = 0 ∨ Int.tmod v 3 = 1 ∨ Int.tmod v 3 = 2 := by rw [tmod_pos hv]; omega
    rcases hm with e | e | e <;> rw [e] <;> decide +kernel
  have hcp := headCell_pos (h := h)
  have hround : (headOk h && ((!(getHeadD (pad (headCell h) 32)).2) || (!decide ((getHeadD (pad (headCell h) 32)).1 = h)))) = false := by
    cases ho : headOk h
    · rfl
    · rw [getHeadD_round ho]; simp
  simp only [eH, impl_headCell_eq, spec_headCell_eq, some_bind, impl_pad_eq hk (l := headCell h) (n := 32) (by omega), g1, eG, g2, g3, eB, b1, b2, eP, lsame_eq hk (p := headCell h) (q := headCell h) (by omega), impl_headOk_eq, spec_headOk_eq, q1, q2, refl hq (by omega), hcp, hnew, f1, f2, f3, ev, f4, f5,
    decide_true, beq_self_eq_true, Bool.not_true, Bool.or_self, Bool.false_eq_true, if_false, Bool.false_or, hround]
  rw [if_pos main.1]
  rcases main.2 with h6 | ⟨h7, hm⟩
  · rw [if_pos (by simpa using h6)]
    rfl
  · rw [h7, hm]
    rfl

end Go.Proofs.Sx
