/- FnExactGetHead: the plain law. -/
import Derived.Test.YtjajoekfofjeiaaGX
namespace Go.Proofs.Sx
open Go.RowKit
set_option linter.unusedVariables false
set_option linter.unusedSimpArgs false
theorem impl_in_eq (x a b : Int) : impl_in x a b = some (decide (a ≤ x ∧ x ≤ b)) := by simp [impl_in, Bool.decide_and]
theorem spec_in_eq (x a b : Int) : spec_l1In x a b = some (decide (a ≤ x ∧ x ≤ b)) := by simp [spec_l1In, Bool.decide_and, ge_iff_le]

def headOk (p : THead) : Bool := decide (1 ≤ p.Epoch ∧ p.Epoch ≤ 60000) && decide (0 ≤ p.Seq ∧ p.Seq ≤ 65535) && decide (1 ≤ p.Size ∧ p.Size ≤ 48) && decide (0 ≤ p.Root ∧ p.Root ≤ wrap64 (p.Size - 1))
theorem spec_headOk_eq (p : THead) : spec_HeadOk p = some (headOk p) := by
  simp only [spec_HeadOk, spec_in_eq, some_bind, headOk]
  generalize decide (1 ≤ p.Epoch ∧ p.Epoch ≤ 60000) = a
  generalize decide (0 ≤ p.Seq ∧ p.Seq ≤ 65535) = b
  generalize decide (1 ≤ p.Size ∧ p.Size ≤ 48) = c
  generalize decide (0 ≤ p.Root ∧ p.Root ≤ wrap64 (p.Size - 1)) = d
  cases a <;> cases b <;> cases c <;> cases d <;> rfl
theorem impl_headOk_eq (p : THead) : impl_HeadOk p = some (headOk p) := by
  rw [← spec_headOk_eq]; rfl

def put2 (l : List Int) (x : Int) : List Int := if 0 ≤ x ∧ x ≤ 65535 then l ++ [x / 256, x % 256] else l
theorem put2_len (l : List Int) (x : Int) : (put2 l x).length ≤ l.length + 2 := by
  unfold put2; split <;> simp
theorem spec_put2_eq {l : List Int} {x : Int} (h : okLen (l.length + 2) = true) : spec_Put2 l x = some (put2 l x) := by
  have h1 : okLen l.length = true := okLen_le h (by omega)
  simp only [spec_Put2, spec_in_eq, some_bind, List.nil_append, List.length_nil, Nat.zero_add, h1, if_true, List.length_cons, h, put2]
  by_cases hx : 0 ≤ x ∧ x ≤ 65535
  · have e1 : Int.tdiv x 256 = x / 256 := tdiv_pos hx.1
    have e2 : Int.tmod x 256 = x % 256 := tmod_pos hx.1
    simp only [hx, decide_true, Bool.not_true, Bool.false_eq_true, if_false, if_true, and_self, e1, e2, u8w]
    rw [w64 (by omega) (by omega)]
    have e3 : x / 256 % 256 = x / 256 := by omega
    have e4 : x % 256 % 256 = x % 256 := by omega
    rw [e3, e4]
  · simp [hx]
theorem impl_put2_eq {l : List Int} {x : Int} (h : okLen (l.length + 2) = true) : impl_Put2 l x = some (put2 l x) := by
  have h1 : okLen l.length = true := okLen_le h (by omega)
  simp only [impl_Put2, slices_Clone_byte_byte, impl_in_eq, some_bind, h1, if_true, List.length_cons, List.length_nil, Nat.zero_add, h, put2]
  by_cases hx : 0 ≤ x ∧ x ≤ 65535
  · simp only [hx, decide_true, Bool.not_true, Bool.false_eq_true, if_false, if_true, and_self, u8w, sh8]
    rw [fdiv_pos (by omega)]
    have e3 : x / 256 % 256 = x / 256 := by omega
    rw [e3]
  · simp [hx]

def headCell (p : THead) : List Int := if headOk p = true then put2 (put2 [3] p.Epoch) p.Seq ++ [p.Root % 256, p.Size % 256] else []
theorem headCell_len (p : THead) : (headCell p).length ≤ 7 := by
  unfold headCell
  split
  · have h1 := put2_len (put2 [3] p.Epoch) p.Seq
    have h2 := put2_len [3] p.Epoch
    simp only [List.length_append, List.length_cons, List.length_nil] at *
    omega
  · simp
theorem spec_headCell_eq (p : THead) : spec_HeadCell p = some (headCell p) := by
  have h2 := put2_len [3] p.Epoch
  have h1 := put2_len (put2 [3] p.Epoch) p.Seq
  simp only [List.length_cons, List.length_nil] at h1 h2
  have k1 : okLen (([3] : List Int).length + 2) = true := rfl
  have k2 : okLen ((put2 [3] p.Epoch).length + 2) = true := okLen_iff.2 (by omega)
  have k3 : okLen ((put2 (put2 [3] p.Epoch) p.Seq).length + 2) = true := okLen_iff.2 (by omega)
  simp only [spec_HeadCell, spec_headOk_eq, some_bind, spec_put2_eq (x := p.Epoch) k1, spec_put2_eq (x := p.Seq) k2, headCell, u8w, List.length_cons, List.length_nil, Nat.zero_add, Nat.reduceAdd, k3, if_true]
  cases headOk p <;> rfl
theorem impl_headCell_eq (p : THead) : impl_HeadCell p = some (headCell p) := by
  have h2 := put2_len [3] p.Epoch
  have h1 := put2_len (put2 [3] p.Epoch) p.Seq
  simp only [List.length_cons, List.length_nil] at h1 h2
  have k1 : okLen (([3] : List Int).length + 2) = true := rfl
  have k2 : okLen ((put2 [3] p.Epoch).length + 2) = true := okLen_iff.2 (by omega)
  have k3 : okLen ((put2 (put2 [3] p.Epoch) p.Seq).length + 2) = true := okLen_iff.2 (by omega)
  simp only [impl_HeadCell, impl_headOk_eq, some_bind, impl_put2_eq (x := p.Epoch) k1, impl_put2_eq (x := p.Seq) k2, headCell, u8w, List.length_cons, List.length_nil, Nat.zero_add, Nat.reduceAdd, k3, if_true]
  cases headOk p <;> rfl

theorem gt_mem {α : Type} [Inhabited α] {l : List α} {i : Int} (h0 : 0 ≤ i) (h : i < (l.length : Int)) : gt l i ∈ l := by
  obtain ⟨hi, e⟩ := gt_eq h0 h
  rw [e]; exact List.getElem_mem hi
theorem or_bytes {a b : Int} (ha : 0 ≤ a) (ha2 : a ≤ 255) (hb : 0 ≤ b) (hb2 : b ≤ 255) : bits2 (· ||| ·) (wrap64 (a * 256)) b = 256 * a + b := by
  obtain ⟨x, rfl⟩ := Int.eq_ofNat_of_zero_le ha
  obtain ⟨y, rfl⟩ := Int.eq_ofNat_of_zero_le hb
  rw [w64 (by omega) (by omega)]
  unfold bits2
  have e1 : ((x : Int) * 256) = ((2 ^ 8 * x : Nat) : Int) := by omega
  rw [e1, BitVec.ofInt_natCast, BitVec.ofInt_natCast, BitVec.toNat_or, BitVec.toNat_ofNat, BitVec.toNat_ofNat, Nat.mod_eq_of_lt (by omega), Nat.mod_eq_of_lt (by omega), ← Nat.two_pow_add_eq_or_of_lt (by omega), w64 (by omega) (by omega)]
  omega
def get2 (l : List Int) (i : Int) : Int × Bool := if i < 0 ∨ i > (l.length : Int) - 2 then (0, false) else (256 * gt l i + gt l (i + 1), true)
theorem get2_facts {l : List Int} {i : Int} (hw : ∀ x ∈ l, wfU8 x) (hl : l.length ≤ 2097152) (h : ¬ (i < 0 ∨ i > (l.length : Int) - 2)) :
    wfU8 (gt l i) ∧ wfU8 (gt l (i + 1)) ∧ wrap64 (i + 1) = i + 1 ∧ (0 ≤ i ∧ i < (l.length : Int)) ∧ (0 ≤ i + 1 ∧ i + 1 < (l.length : Int)) := by
  refine ⟨hw _ (gt_mem (by omega) (by omega)), hw _ (gt_mem (by omega) (by omega)), w64 (by omega) (by omega), by omega, by omega⟩
theorem spec_get2_eq {l : List Int} {i : Int} (hw : ∀ x ∈ l, wfU8 x) (hl : l.length ≤ 2097152) : spec_Get2 l i = some (get2 l i) := by
  unfold spec_Get2 get2
  rw [w64 (n := (l.length : Int) - 2) (by omega) (by omega)]
  by_cases h : i < 0 ∨ i > (l.length : Int) - 2
  · simp [h]
  · obtain ⟨⟨a1, a2⟩, ⟨b1, b2⟩, e, h1, h2⟩ := get2_facts hw hl h
    rw [if_neg (by simpa using h), e, if_pos h1, if_pos h2, if_neg h]
    rw [i64w, i64w, w64 (n := gt l i) (by omega) (by omega), w64 (n := gt l (i + 1)) (by omega) (by omega), w64 (n := 256 * gt l i) (by omega) (by omega), w64 (by omega) (by omega)]
theorem impl_get2_eq {l : List Int} {i : Int} (hw : ∀ x ∈ l, wfU8 x) (hl : l.length ≤ 2097152) : impl_Get2 l i = some (get2 l i) := by
  unfold impl_Get2 get2
  rw [w64 (n := (l.length : Int) - 2) (by omega) (by omega)]
  by_cases h : i < 0 ∨ i > (l.length : Int) - 2
  · simp [h]
  · obtain ⟨⟨a1, a2⟩, ⟨b1, b2⟩, e, h1, h2⟩ := get2_facts hw hl h
    rw [if_neg (by simpa using h), e, if_pos h1, if_pos h2, if_neg h]
    rw [i64w, i64w, w64 (n := gt l i) (by omega) (by omega), w64 (n := gt l (i + 1)) (by omega) (by omega), sh8, or_bytes a1 a2 b1 b2]

def pad (l : List Int) (n : Int) : List Int := if n ≤ 64 then l ++ List.replicate (n.toNat - l.length) 0 else l
theorem pad_len {l : List Int} {n : Int} (h0 : (l.length : Int) ≤ n) (h : n ≤ 64) : (pad l n).length = n.toNat := by
  unfold pad; rw [if_pos h]; simp; omega
theorem pad_trace {ρ : Type} {b : List Int → Option (Nx (List Int) ρ)} {l : List Int} {n : Int} {k : Nat} (hk : Big k) (hn : n ≤ 64)
    (hb : ∀ m : List Int, (m.length : Int) < n → b m = some (.next (m ++ [0]))) (he : ∀ m : List Int, ¬ (m.length : Int) < n → b m = some (.out m)) :
    loopM b k l = some (.out (l ++ List.replicate (n.toNat - l.length) 0)) := by
  have key := loopM_run0 (b := b) (k := k) (fun j => l ++ List.replicate j (0 : Int)) (n.toNat - l.length) (r := .out (l ++ List.replicate (n.toNat - l.length) 0)) (fun t h => by cases h) ?_ ?_ (by have : 9223372036854775808 ≤ k := hk; omega)
  · simpa using key
  · intro j hj
    rw [hb _ (by simp; omega), List.replicate_succ', List.append_assoc]
  · exact he _ (by simp; omega)
theorem spec_pad_eq {k : Nat} (hk : Big k) {l : List Int} {n : Int} (hl : l.length ≤ 2097152) : spec_Pad k l n = some (pad l n) := by
  unfold spec_Pad pad
  rw [if_pos (okLen_iff.2 (by simp; omega)), List.nil_append]
  by_cases hn : n ≤ 64
  · rw [pad_trace hk hn]
    · simp [hn]
    · intro m hm
      simp only [spec_Pad_b0]
      rw [if_pos (by simp [hm, hn]), if_pos (okLen_iff.2 (by simp; omega))]
    · intro m hm
      simp only [spec_Pad_b0]
      rw [if_neg (by simp [hm])]
  · have : loopM (spec_Pad_b0 n) k l = some (.out l) :=
      loopM_run0 (b := spec_Pad_b0 n) (fun _ => l) 0 (fun t h => by cases h) (fun j hj => by omega) (by simp only [spec_Pad_b0]; rw [if_neg (by simp [hn])]) (by have : 9223372036854775808 ≤ k := hk; omega)
    rw [this]; simp [hn]
theorem impl_pad_eq {k : Nat} (hk : Big k) {l : List Int} {n : Int} (hl : l.length ≤ 2097152) : impl_Pad k l n = some (pad l n) := by
  unfold impl_Pad pad
  simp only [slices_Clone_byte_byte]
  rw [if_pos (okLen_iff.2 (by omega)), some_bind]
  by_cases hn : n ≤ 64
  · rw [if_neg (by simp; omega), pad_trace hk hn]
    · simp [hn]
    · intro m hm
      simp only [impl_Pad_b0]
      rw [if_pos (by simp [hm]), if_pos (okLen_iff.2 (by simp; omega))]
    · intro m hm
      simp only [impl_Pad_b0]
      rw [if_neg (by simp [hm])]
  · rw [if_pos (by simp; omega)]; simp [hn]

theorem same_eq {k : Nat} (hk : Big k) {N : Nat} (hN : N ≤ 1114112) (p q : (List Int)) (h : (smL N (smT N)) p) : spec_l6Same k p q = some (decide (p = q)) := by
  rw [spec_l6Same]
  have hl := h.1
  by_cases he : p.length = q.length
  · rw [if_neg (by simp [he])]
    rw [loop_all (c := fun i => decide (p[i]? = q[i]?)) (n := p.length) (r := false) (by omega) hk]
    · by_cases hpq : p = q
      · subst hpq; simp
      · rw [if_neg, decide_eq_false hpq]
        · rfl
        · intro hh
          exact hpq (List.ext_getElem? fun i => by
            by_cases hi : i < p.length
            · simpa using hh i hi
            · rw [List.getElem?_eq_none (by omega), List.getElem?_eq_none (by omega)])
    · intro i hi
      have c1 : decide ((i : Int) < ((List.length p : Nat) : Int)) = true := by simp; omega
      have c2 : (0 : Int) ≤ (i : Int) ∧ (i : Int) < ((List.length p : Nat) : Int) := by omega
      have c3 : (0 : Int) ≤ (i : Int) ∧ (i : Int) < ((List.length q : Nat) : Int) := by omega
      have hq : i < q.length := by omega
      simp only [spec_l6Same_b0, if_pos c1, if_pos c2, if_pos c3, gt_nat hi, gt_nat hq, w64s (n := i) (by omega), List.getElem?_eq_getElem hi, List.getElem?_eq_getElem hq, Option.some.injEq]
      by_cases hv : p[i] = q[i] <;> simp [hv]
    · have c1 : ¬ decide (((List.length p : Nat) : Int) < ((List.length p : Nat) : Int)) = true := by simp
      simp only [spec_l6Same_b0, if_neg c1]
  · rw [if_pos (by simp; omega), decide_eq_false]
    rintro rfl; exact he rfl

theorem headCell_wf (p : THead) : ∀ x ∈ headCell p, wfU8 x := by
  intro x hx
  have hp : ∀ (l : List Int) (y : Int), (∀ x ∈ l, wfU8 x) → ∀ x ∈ put2 l y, wfU8 x := by
    intro l y hl x hx
    unfold put2 at hx
    split at hx
    · simp only [List.mem_append, List.mem_cons, List.not_mem_nil, or_false] at hx
      rcases hx with h | h | h
      · exact hl x h
      · subst h; constructor <;> omega
      · subst h; constructor <;> omega
    · exact hl x hx
  unfold headCell at hx
  split at hx
  · simp only [List.mem_append, List.mem_cons, List.not_mem_nil, or_false] at hx
    rcases hx with h | h | h
    · refine hp _ _ (hp _ _ ?_) x h
      intro z hz; simp at hz; subst hz; constructor <;> omega
    · subst h; constructor <;> omega
    · subst h; constructor <;> omega
  · simp at hx
theorem pad_wf {l : List Int} {n : Int} (h : ∀ x ∈ l, wfU8 x) : ∀ x ∈ pad l n, wfU8 x := by
  intro x hx
  unfold pad at hx
  split at hx
  · rcases List.mem_append.1 hx with h1 | h1
    · exact h x h1
    · rw [List.eq_of_mem_replicate h1]; constructor <;> omega
  · exact h x hx
theorem getHead_eq {k : Nat} (hk : Big k) {l : List Int} (hw : ∀ x ∈ l, wfU8 x) (hl : l.length ≤ 1048576) : ∃ r, spec_GetHead k l = some r ∧ impl_GetHead k l = some r := by
  unfold spec_GetHead impl_GetHead
  by_cases h : ((List.length l : Nat) : Int) = 32
  · rw [if_neg (by simp [h]), if_neg (by simp [h]), spec_get2_eq hw (by omega), spec_get2_eq hw (by omega), impl_get2_eq hw (by omega), impl_get2_eq hw (by omega)]
    simp only [some_bind]
    rw [if_pos (by omega), if_pos (by omega), if_pos (by omega), if_pos (by omega), spec_headOk_eq, impl_headOk_eq]
    simp only [some_bind]
    generalize (⟨(get2 l 1).1, (get2 l 3).1, IntKind.i64.wrap (gt l 5), IntKind.i64.wrap (gt l 6)⟩ : THead) = hd
    cases headOk hd
    · exact ⟨_, rfl, rfl⟩
    · have h7 := headCell_len hd
      have hpl : (pad (headCell hd) 32).length = 32 := pad_len (by omega) (by omega)
      simp only [spec_headCell_eq, impl_headCell_eq, some_bind, spec_pad_eq hk (l := headCell hd) (n := 32) (by omega), impl_pad_eq hk (l := headCell hd) (n := 32) (by omega), bytes_Equal, Bool.not_true, Bool.false_eq_true, if_false,
        same_eq hk (N := 1048576) (by omega) (pad (headCell hd) 32) l ⟨by omega, fun _ _ => trivial⟩, str_eq (pad_wf (n := 32) (headCell_wf hd)) hw]
      split <;> exact ⟨_, rfl, rfl⟩
  · rw [if_pos (by simp [h]), if_pos (by simp [h])]
    exact ⟨_, rfl, rfl⟩
theorem laws_FnExactGetHead_true {p0 : List Int} (h : wfL wfU8 p0) : ∃ k, laws_FnExactGetHead k p0 = some true := by
  refine ⟨9223372036854775808, ?_⟩
  generalize hK : 9223372036854775808 = k
  have hk : Big k := by rw [Big, hK]; exact Nat.le_refl _
  clear hK
  unfold laws_FnExactGetHead
  by_cases hl : ((List.length p0 : Nat) : Int) > 1048576
  · simp [hl]
  · have hs : smL 1048576 (smT 1048576) p0 := ⟨by omega, fun _ _ => trivial⟩
    obtain ⟨r, h1, h2⟩ := getHead_eq hk h.2 hs.1
    have e1 := to_ByteS hk (by omega) p0 hs
    have e2 := eq_ByteS hk (by omega) p0 p0 hs
    have e3 : laws_eqHead r.1 r.1 = some true := by simp [laws_eqHead]
    rw [if_neg (by simpa using hl)]
    simp [e1, e2, h1, h2, e3]

end Go.Proofs.Sx
