/- FnExactBestHead: the plain law. -/
import Derived.Test.YtgfhnepkpbmbcaaHX
import Derived.Test.YtgfhnepkpbmbcaaLP
namespace Go.Proofs.Sx
open Go.RowKit
set_option maxRecDepth 20000
set_option linter.unusedVariables false
set_option linter.unusedSimpArgs false
theorem impl_in_eq (x a b : Int) : impl_in x a b = some (decide (a ≤ x ∧ x ≤ b)) := by simp [impl_in, Bool.decide_and]

theorem spec_in_eq (x a b : Int) : spec_l1In x a b = some (decide (a ≤ x ∧ x ≤ b)) := by simp [spec_l1In, Bool.decide_and, ge_iff_le]


def headOk (p : THead) : Bool := decide (1 ≤ p.Epoch ∧ p.Epoch ≤ 60000) && decide (0 ≤ p.Seq ∧ p.Seq ≤ 65535) && decide (1 ≤ p.Size ∧ p.Size ≤ 48) && decide (0 ≤ p.Root ∧ p.Root ≤ wrap64 (p.Size - 1))
theorem spec_headOk_eq (p : THead) : spec_HeadOk p = some (headOk p) := by
  simp only [spec_HeadOk, spec_in_eq, some_bind, headOk]
  generalize decide (1 ≤ p.Epoch ∧ p.Epoch ≤ 60000) = a
  generalize decide (0 ≤ p.Seq ∧ p.Seq ≤ 65535) = b
  generalize decide (1 ≤ p.Size ∧ p.Size ≤ 48) = c
  generalize decide (0 ≤ p.Root ∧ p.Root ≤ wrap64 (p.Size - 1)) = d
  cases a <;> cases b <;> cases c <;> cases d <;> rfl
theorem impl_headOk_eq (p : THead) : impl_HeadOk p = some (headOk p) := by
  rw [← spec_headOk_eq]; rfl

def put2 (l : List Int) (x : Int) : List Int := if 0 ≤ x ∧ x ≤ 65535 then l ++ [x / 256, x % 256] else l
theorem put2_len (l : List Int) (x : Int) : (put2 l x).length ≤ l.length + 2 := by
  unfold put2; split <;> simp
theorem spec_put2_eq {l : List Int} {x : Int} (h : okLen (l.length + 2) = true) : spec_Put2 l x = some (put2 l x) := by
  have h1 : okLen l.length = true := okLen_le h (by omega)
  simp only [spec_Put2, spec_in_eq, some_bind, List.nil_append, List.length_nil, Nat.zero_add, h1, if_true, List.length_cons, h, put2]
  by_cases hx : 0 ≤ x ∧ x ≤ 65535
  · have e1 : Int.tdiv x 256 = x / 256 := tdiv_pos hx.1
    have e2 : Int.tmod x 256 = x % 256 := tmod_pos hx.1
    simp only [hx, decide_true, Bool.not_true, Bool.false_eq_true, if_false, if_true, and_self, e1, e2, u8w]
    rw [w64 (by omega) (by omega)]
    have e3 : x / 256 % 256 = x / 256 := by omega
    have e4 : x % 256 % 256 = x % 256 := by omega
    rw [e3, e4]
  · simp [hx]
theorem impl_put2_eq {l : List Int} {x : Int} (h : okLen (l.length + 2) = true) : impl_Put2 l x = some (put2 l x) := by
  have h1 : okLen l.length = true := okLen_le h (by omega)
  simp only [impl_Put2, slices_Clone_byte_byte, impl_in_eq, some_bind, h1, if_true, List.length_cons, List.length_nil, Nat.zero_add, h, put2]
  by_cases hx : 0 ≤ x ∧ x ≤ 65535
  · simp only [hx, decide_true, Bool.not_true, Bool.false_eq_true, if_false, if_true, and_self, u8w, sh8]
    rw [fdiv_pos (by omega)]
    have e3 : x / 256 % 256 = x / 256 := by omega
    rw [e3]
  · simp [hx]

def headCell (p : THead) : List Int := if headOk p = true then put2 (put2 [3] p.Epoch) p.Seq ++ [p.Root % 256, p.Size % 256] else []
theorem headCell_len (p : THead) : (headCell p).length ≤ 7 := by
  unfold headCell
  split
  · have h1 := put2_len (put2 [3] p.Epoch) p.Seq
    have h2 := put2_len [3] p.Epoch
    simp only [List.length_append, List.length_cons, List.length_nil] at *
    omega
  · simp
theorem spec_headCell_eq (p : THead) : spec_HeadCell p = some (headCell p) := by
  have h2 := put2_len [3] p.Epoch
  have h1 := put2_len (put2 [3] p.Epoch) p.Seq
  simp only [List.length_cons, List.length_nil] at h1 h2
  have k1 : okLen (([3] : List Int).length + 2) = true := rfl
  have k2 : okLen ((put2 [3] p.Epoch).length + 2) = true := okLen_iff.2 (by omega)
  have k3 : okLen ((put2 (put2 [3] p.Epoch) p.Seq).length + 2) = true := okLen_iff.2 (by omega)
  simp only [spec_HeadCell, spec_headOk_eq, some_bind, spec_put2_eq (x := p.Epoch) k1, spec_put2_eq (x := p.Seq) k2, headCell, u8w, List.length_cons, List.length_nil, Nat.zero_add, Nat.reduceAdd, k3, if_true]
  cases headOk p <;> rfl
theorem impl_headCell_eq (p : THead) : impl_HeadCell p = some (headCell p) := by
  have h2 := put2_len [3] p.Epoch
  have h1 := put2_len (put2 [3] p.Epoch) p.Seq
  simp only [List.length_cons, List.length_nil] at h1 h2
  have k1 : okLen (([3] : List Int).length + 2) = true := rfl
  have k2 : okLen ((put2 [3] p.Epoch).length + 2) = true := okLen_iff.2 (by omega)
  have k3 : okLen ((put2 (put2 [3] p.Epoch) p.Seq).length + 2) = true := okLen_iff.2 (by omega)
  simp only [impl_HeadCell, impl_headOk_eq, some_bind, impl_put2_eq (x := p.Epoch) k1, impl_put2_eq (x := p.Seq) k2, headCell, u8w, List.length_cons, List.length_nil, Nat.zero_add, Nat.reduceAdd, k3, if_true]
  cases headOk p <;> rfl

theorem gt_mem {α : Type} [Inhabited α] {l : List α} {i : Int} (h0 : 0 ≤ i) (h : i < (l.length : Int)) : gt l i ∈ l := by
  obtain ⟨hi, e⟩ := gt_eq h0 h
  rw [e]; exact List.getElem_mem hi
theorem or_bytes {a b : Int} (ha : 0 ≤ a) (ha2 : a ≤ 255) (hb : 0 ≤ b) (hb2 : b ≤ 255) : bits2 (· ||| ·) (wrap64 (a * 256)) b = 256 * a + b := by
  obtain ⟨x, rfl⟩ := Int.eq_ofNat_of_zero_le ha
  obtain ⟨y, rfl⟩ := Int.eq_ofNat_of_zero_le hb
  rw [w64 (by omega) (by omega)]
  unfold bits2
  have e1 : ((x : Int) * 256) = ((2 ^ 8 * x : Nat) : Int) := by omega
  rw [e1, BitVec.ofInt_natCast, BitVec.ofInt_natCast, BitVec.toNat_or, BitVec.toNat_ofNat, BitVec.toNat_ofNat, Nat.mod_eq_of_lt (by omega), Nat.mod_eq_of_lt (by omega), ← Nat.two_pow_add_eq_or_of_lt (by omega), w64 (by omega) (by omega)]
  omega
def get2 (l : List Int) (i : Int) : Int × Bool := if i < 0 ∨ i > (l.length : Int) - 2 then (0, false) else (256 * gt l i + gt l (i + 1), true)
theorem get2_facts {l : List Int} {i : Int} (hw : ∀ x ∈ l, wfU8 x) (hl : l.length ≤ 2097152) (h : ¬ (i < 0 ∨ i > (l.length : Int) - 2)) :
    wfU8 (gt l i) ∧ wfU8 (gt l (i + 1)) ∧ wrap64 (i + 1) = i + 1 ∧ (0 ≤ i ∧ i < (l.length : Int)) ∧ (0 ≤ i + 1 ∧ i + 1 < (l.length : Int)) := by
  refine ⟨hw _ (gt_mem (by omega) (by omega)), hw _ (gt_mem (by omega) (by omega)), w64 (by omega) (by omega), by omega, by omega⟩
theorem spec_get2_eq {l : List Int} {i : Int} (hw : ∀ x ∈ l, wfU8 x) (hl : l.length ≤ 2097152) : spec_Get2 l i = some (get2 l i) := by
  unfold spec_Get2 get2
  rw [w64 (n := (l.length : Int) - 2) (by omega) (by omega)]
  by_cases h : i < 0 ∨ i > (l.length : Int) - 2
  · simp [h]
  · obtain ⟨⟨a1, a2⟩, ⟨b1, b2⟩, e, h1, h2⟩ := get2_facts hw hl h
    rw [if_neg (by simpa using h), e, if_pos h1, if_pos h2, if_neg h]
    rw [i64w, i64w, w64 (n := gt l i) (by omega) (by omega), w64 (n := gt l (i + 1)) (by omega) (by omega), w64 (n := 256 * gt l i) (by omega) (by omega), w64 (by omega) (by omega)]
theorem impl_get2_eq {l : List Int} {i : Int} (hw : ∀ x ∈ l, wfU8 x) (hl : l.length ≤ 2097152) : impl_Get2 l i = some (get2 l i) := by
  unfold impl_Get2 get2
  rw [w64 (n := (l.length : Int) - 2) (by omega) (by omega)]
  by_cases h : i < 0 ∨ i > (l.length : Int) - 2
  · simp [h]
  · obtain ⟨⟨a1, a2⟩, ⟨b1, b2⟩, e, h1, h2⟩ := get2_facts hw hl h
    rw [if_neg (by simpa using h), e, if_pos h1, if_pos h2, if_neg h]
    rw [i64w, i64w, w64 (n := gt l i) (by omega) (by omega), w64 (n := gt l (i + 1)) (by omega) (by omega), sh8, or_bytes a1 a2 b1 b2]

def pad (l : List Int) (n : Int) : List Int := if n ≤ 64 then l ++ List.replicate (n.toNat - l.length) 0 else l
theorem pad_len {l : List Int} {n : Int} (h0 : (l.length : Int) ≤ n) (h : n ≤ 64) : (pad l n).length = n.toNat := by
  unfold pad; rw [if_pos h]; simp; omega
theorem pad_trace {ρ : Type} {b : List Int → Option (Nx (List Int) ρ)} {l : List Int} {n : Int} {k : Nat} (hk : Big k) (hn : n ≤ 64)
    (hb : ∀ m : List Int, (m.length : Int) < n → b m = some (.next (m ++ [0]))) (he : ∀ m : List Int, ¬ (m.length : Int) < n → b m = some (.out m)) :
    loopM b k l = some (.out (l ++ List.replicate (n.toNat - l.length) 0)) := by
  have key := loopM_run0 (b := b) (k := k) (fun j => l ++ List.replicate j (0 : Int)) (n.toNat - l.length) (r := .out (l ++ List.replicate (n.toNat - l.length) 0)) (fun t h => by cases h) ?_ ?_ (by have : 9223372036854775808 ≤ k := hk; omega)
  · simpa using key
  · intro j hj
    rw [hb _ (by simp; omega), List.replicate_succ', List.append_assoc]
  · exact he _ (by simp; omega)
theorem spec_pad_eq {k : Nat} (hk : Big k) {l : List Int} {n : Int} (hl : l.length ≤ 2097152) : spec_Pad k l n = some (pad l n) := by
  unfold spec_Pad pad
  rw [if_pos (okLen_iff.2 (by simp; omega)), List.nil_append]
  by_cases hn : n ≤ 64
  · rw [pad_trace hk hn]
    · simp [hn]
    · intro m hm
      simp only [spec_Pad_b0]
      rw [if_pos (by simp [hm, hn]), if_pos (okLen_iff.2 (by simp; omega))]
    · intro m hm
      simp only [spec_Pad_b0]
      rw [if_neg (by simp [hm])]
  · have : loopM (spec_Pad_b0 n) k l = some (.out l) :=
      loopM_run0 (b := spec_Pad_b0 n) (fun _ => l) 0 (fun t h => by cases h) (fun j hj => by omega) (by simp only [spec_Pad_b0]; rw [if_neg (by simp [hn])]) (by have : 9223372036854775808 ≤ k := hk; omega)
    rw [this]; simp [hn]
theorem impl_pad_eq {k : Nat} (hk : Big k) {l : List Int} {n : Int} (hl : l.length ≤ 2097152) : impl_Pad k l n = some (pad l n) := by
  unfold impl_Pad pad
  simp only [slices_Clone_byte_byte]
  rw [if_pos (okLen_iff.2 (by omega)), some_bind]
  by_cases hn : n ≤ 64
  · rw [if_neg (by simp; omega), pad_trace hk hn]
    · simp [hn]
    · intro m hm
      simp only [impl_Pad_b0]
      rw [if_pos (by simp [hm]), if_pos (okLen_iff.2 (by simp; omega))]
    · intro m hm
      simp only [impl_Pad_b0]
      rw [if_neg (by simp [hm])]
  · rw [if_pos (by simp; omega)]; simp [hn]

theorem same_eq {k : Nat} (hk : Big k) {N : Nat} (hN : N ≤ 1114112) (p q : (List Int)) (h : (smL N (smT N)) p) : spec_l6Same k p q = some (decide (p = q)) := by
  rw [spec_l6Same]
  have hl := h.1
  by_cases he : p.length = q.length
  · rw [if_neg (by simp [he])]
    rw [loop_all (c := fun i => decide (p[i]? = q[i]?)) (n := p.length) (r := false) (by omega) hk]
    · by_cases hpq : p = q
      · subst hpq; simp
      · rw [if_neg, decide_eq_false hpq]
        · rfl
        · intro hh
          exact hpq (List.ext_getElem? fun i => by
            by_cases hi : i < p.length
            · simpa using hh i hi
            · rw [List.getElem?_eq_none (by omega), List.getElem?_eq_none (by omega)])
    · intro i hi
      have c1 : decide ((i : Int) < ((List.length p : Nat) : Int)) = true := by simp; omega
      have c2 : (0 : Int) ≤ (i : Int) ∧ (i : Int) < ((List.length p : Nat) : Int) := by omega
      have c3 : (0 : Int) ≤ (i : Int) ∧ (i : Int) < ((List.length q : Nat) : Int) := by omega
      have hq : i < q.length := by omega
      simp only [spec_l6Same_b0, if_pos c1, if_pos c2, if_pos c3, gt_nat hi, gt_nat hq, w64s (n := i) (by omega), List.getElem?_eq_getElem hi, List.getElem?_eq_getElem hq, Option.some.injEq]
      by_cases hv : p[i] = q[i] <;> simp [hv]
    · have c1 : ¬ decide (((List.length p : Nat) : Int) < ((List.length p : Nat) : Int)) = true := by simp
      simp only [spec_l6Same_b0, if_neg c1]
  · rw [if_pos (by simp; omega), decide_eq_false]
    rintro rfl; exact he rfl

theorem headCell_wf (p : THead) : ∀ x ∈ headCell p, wfU8 x := by
  intro x hx
  have hp : ∀ (l : List Int) (y : Int), (∀ x ∈ l, wfU8 x) → ∀ x ∈ put2 l y, wfU8 x := by
    intro l y hl x hx
    unfold put2 at hx
    split at hx
    · simp only [List.mem_append, List.mem_cons, List.not_mem_nil, or_false] at hx
      rcases hx with h | h | h
      · exact hl x h
      · subst h; constructor <;> omega
      · subst h; constructor <;> omega
    · exact hl x hx
  unfold headCell at hx
  split at hx
  · simp only [List.mem_append, List.mem_cons, List.not_mem_nil, or_false] at hx
    rcases hx with h | h | h
    · refine hp _ _ (hp _ _ ?_) x h
      intro z hz; simp at hz; subst hz; constructor <;> omega
    · subst h; constructor <;> omega
    · subst h; constructor <;> omega
  · simp at hx
theorem pad_wf {l : List Int} {n : Int} (h : ∀ x ∈ l, wfU8 x) : ∀ x ∈ pad l n, wfU8 x := by
  intro x hx
  unfold pad at hx
  split at hx
  · rcases List.mem_append.1 hx with h1 | h1
    · exact h x h1
    · rw [List.eq_of_mem_replicate h1]; constructor <;> omega
  · exact h x hx
theorem getHead_eq {k : Nat} (hk : Big k) {l : List Int} (hw : ∀ x ∈ l, wfU8 x) (hl : l.length ≤ 1048576) : ∃ r, spec_GetHead k l = some r ∧ impl_GetHead k l = some r := by
  unfold spec_GetHead impl_GetHead
  by_cases h : ((List.length l : Nat) : Int) = 32
  · rw [if_neg (by simp [h]), if_neg (by simp [h]), spec_get2_eq hw (by omega), spec_get2_eq hw (by omega), impl_get2_eq hw (by omega), impl_get2_eq hw (by omega)]
    simp only [some_bind]
    rw [if_pos (by omega), if_pos (by omega), if_pos (by omega), if_pos (by omega), spec_headOk_eq, impl_headOk_eq]
    simp only [some_bind]
    generalize (⟨(get2 l 1).1, (get2 l 3).1, IntKind.i64.wrap (gt l 5), IntKind.i64.wrap (gt l 6)⟩ : THead) = hd
    cases headOk hd
    · exact ⟨_, rfl, rfl⟩
    · have h7 := headCell_len hd
      have hpl : (pad (headCell hd) 32).length = 32 := pad_len (by omega) (by omega)
      simp only [spec_headCell_eq, impl_headCell_eq, some_bind, spec_pad_eq hk (l := headCell hd) (n := 32) (by omega), impl_pad_eq hk (l := headCell hd) (n := 32) (by omega), bytes_Equal, Bool.not_true, Bool.false_eq_true, if_false,
        same_eq hk (N := 1048576) (by omega) (pad (headCell hd) 32) l ⟨by omega, fun _ _ => trivial⟩, str_eq (pad_wf (n := 32) (headCell_wf hd)) hw]
      split <;> exact ⟨_, rfl, rfl⟩
  · rw [if_pos (by simp [h]), if_pos (by simp [h])]
    exact ⟨_, rfl, rfl⟩

theorem read_body_eq {N : Nat} (hN : N ≤ 1114112) {d : TDisk} (h : smTDisk N d) (q : Int) : impl_Read_b0 d q = spec_Read_b0 d q := by
  funext i
  simp only [impl_Read_b0, spec_Read_b0, slices_Clone_byte_byte, List.nil_append, List.length_nil, Nat.zero_add]
  by_cases h1 : decide (i ≥ 0) = true
  · rw [if_pos h1, if_pos h1]
    by_cases h2 : (0 : Int) ≤ i ∧ i < ((List.length d.Wet : Nat) : Int)
    · rw [if_pos h2, if_pos h2, if_pos h2, if_pos h2]
      by_cases h3 : decide ((gt d.Wet i).At = q) = true
      · rw [if_pos h3, if_pos h3]
        by_cases h4 : okLen (List.length (gt d.Wet i).B) = true
        · rw [if_pos h4, if_pos h4]; rfl
        · rw [if_neg h4, if_neg h4]; rfl
      · rw [if_neg h3, if_neg h3]
    · rw [if_neg h2, if_neg h2]
  · rw [if_neg h1, if_neg h1]
theorem gt_mem' {α : Type} [Inhabited α] {l : List α} {i : Int} (h : 0 ≤ i ∧ i < (l.length : Int)) : gt l i ∈ l := by
  obtain ⟨hi, e⟩ := gt_eq h.1 h.2
  rw [e]; exact List.getElem_mem hi
theorem read_some2 {k : Nat} (hk : Big k) {N : Nat} (hN : N ≤ 1114112) {d : TDisk} (h : smTDisk N d) (q : Int) : ∃ r, spec_Read k d q = some r ∧ impl_Read k d q = some r ∧ (r.1 = [] ∨ (∃ y ∈ d.Cells, r.1 = y.B) ∨ ∃ y ∈ d.Wet, r.1 = y.B) := by
  have hW := h.2.1
  have hC := h.1
  have hl := hW.1
  have hlc := hC.1
  obtain ⟨o, ho, hQ⟩ := loopM_ends (b := spec_Read_b0 d q) (fun i => -1 ≤ i ∧ i < (d.Wet.length : Int)) (fun i => (i + 1).toNat) (fun o => match o with
      | .ret r => ∃ y ∈ d.Wet, r.1 = y.B
      | .out _ => True
      | .next _ => False) (fun i hi => by
    simp only [spec_Read_b0]
    by_cases h1 : i ≥ 0
    · have h2 : (0 : Int) ≤ i ∧ i < ((List.length d.Wet : Nat) : Int) := ⟨h1, hi.2⟩
      rw [if_pos (by simpa using h1), if_pos h2, if_pos h2]
      have hb := (hW.2 _ (gt_mem' h2)).2
      by_cases h3 : decide ((gt d.Wet i).At = q) = true
      · rw [if_pos h3, if_pos (okLen_iff.2 (by have := hb.1; simp; omega))]
        exact ⟨_, rfl, _, gt_mem' h2, by simp⟩
      · rw [if_neg h3]
        refine ⟨_, rfl, ?_, ?_⟩
        · rw [w64 (by omega) (by omega)]; omega
        · rw [w64 (by omega) (by omega)]; omega
    · rw [if_neg (by simpa using h1)]
      exact ⟨_, rfl, trivial⟩) k (wrap64 ((d.Wet.length : Int) - 1)) (by rw [w64 (by omega) (by omega)]; omega) (by rw [w64 (by omega) (by omega)]; have : 9223372036854775808 ≤ k := hk; omega)
  rw [spec_Read, impl_Read, read_body_eq hN h, ho]
  match o, hQ with
  | .ret r, hr => exact ⟨r, rfl, rfl, .inr (.inr hr)⟩
  | .out i, _ =>
    simp only [Option.bind_some, spec_in_eq]
    rw [w64 (n := (d.Cells.length : Int) - 1) (by omega) (by omega)]
    by_cases hin : 0 ≤ q ∧ q < (d.Cells.length : Int)
    · have e1 : decide (0 ≤ q ∧ q ≤ (d.Cells.length : Int) - 1) = true := by simp; omega
      have e2 : (decide (q < 0) || decide (q ≥ (d.Cells.length : Int))) = false := by simp; omega
      have hb := (hC.2 _ (gt_mem' hin)).2
      have hok : okLen (List.length (gt d.Cells q).B) = true := okLen_iff.2 (by have := hb.1; omega)
      simp only [e1, e2, Bool.not_true, Bool.false_eq_true, if_false, if_pos hin, if_true, Option.bind_some, slices_Clone_byte_byte, List.nil_append, List.length_nil, Nat.zero_add, hok]
      cases (gt d.Cells q).Bad
      · by_cases hz : decide (((gt d.Cells q).B.length : Int) = 0) = true
        · simp only [Bool.false_eq_true, if_false, hz, Option.bind_some, if_true]
          exact ⟨_, rfl, rfl, .inl rfl⟩
        · simp only [Bool.not_eq_true] at hz
          simp only [Bool.false_eq_true, if_false, hz, Option.bind_some]
          exact ⟨_, rfl, rfl, .inr (.inl ⟨_, gt_mem' hin, rfl⟩)⟩
      · simp only [if_true, Option.bind_some]
        exact ⟨_, rfl, rfl, .inl rfl⟩
    · have e1 : decide (0 ≤ q ∧ q ≤ (d.Cells.length : Int) - 1) = false := by simp; omega
      have e2 : (decide (q < 0) || decide (q ≥ (d.Cells.length : Int))) = true := by simp; omega
      simp only [e1, e2, Bool.not_false, if_true, Option.bind_some]
      exact ⟨_, rfl, rfl, .inl rfl⟩
theorem read_wf {k : Nat} (hk : Big k) {N : Nat} (hN : N ≤ 1114112) {d : TDisk} (h : smTDisk N d) (w : wfTDisk d) (q : Int) : ∃ r, spec_Read k d q = some r ∧ impl_Read k d q = some r ∧ r.1.length ≤ N ∧ ∀ x ∈ r.1, wfU8 x := by
  obtain ⟨r, e1, e2, h3⟩ := read_some2 hk hN h q
  refine ⟨r, e1, e2, ?_⟩
  rcases h3 with h3 | ⟨y, hy, h3⟩ | ⟨y, hy, h3⟩
  · rw [h3]; exact ⟨Nat.zero_le _, by simp⟩
  · rw [h3]; exact ⟨(h.1.2 y hy).2.1, (w.1.2 y hy).2.2⟩
  · rw [h3]; exact ⟨(h.2.1.2 y hy).2.1, (w.2.1.2 y hy).2.2⟩

theorem bestHead_both {k : Nat} (hk : Big k) {d : TDisk} (h : smTDisk 1048576 d) (w : wfTDisk d) : ∃ g, spec_BestHead k d = some g ∧ impl_BestHead k d = some g ∧ smTHead 1114112 g.1 := by
  obtain ⟨o, e1, e2, hQ⟩ := loopM_both (b := spec_BestHead_b0 k d) (c := impl_BestHead_b0 k d) (fun s => 0 ≤ s.2.1 ∧ s.2.1 ≤ 2) (fun s => (2 - s.2.1).toNat) (fun o => ∃ s, o = .out s) (fun s hs => by
      obtain ⟨q, i, a, b, c, e⟩ := s
      simp only at hs
      simp only [spec_BestHead_b0, impl_BestHead_b0]
      by_cases hi : i < 2
      · rw [if_pos (by simpa using hi), if_pos (by simpa using hi)]
        obtain ⟨r, r1, r2, r3, r4⟩ := read_wf hk (by omega) h w i
        obtain ⟨t, t1, t2⟩ := getHead_eq hk r4 r3
        simp only [r1, r2, some_bind, t1, t2]
        split
        · exact ⟨_, rfl, rfl, by simp only; rw [w64 (by omega) (by omega)]; omega, by simp only; rw [w64 (by omega) (by omega)]; omega⟩
        · exact ⟨_, rfl, rfl, by simp only; rw [w64 (by omega) (by omega)]; omega, by simp only; rw [w64 (by omega) (by omega)]; omega⟩
      · rw [if_neg (by simpa using hi), if_neg (by simpa using hi)]
        exact ⟨_, rfl, rfl, _, rfl⟩) k (false, 0, 0, 0, 0, 0) (by simp) (by have : 9223372036854775808 ≤ k := hk; simp; omega)
  obtain ⟨s, rfl⟩ := hQ
  obtain ⟨q, i, a, b, c, e⟩ := s
  exact ⟨_, by rw [spec_BestHead, e1, some_bind], by rw [impl_BestHead, e2, some_bind], trivial, trivial, trivial, trivial⟩
theorem laws_FnExactBestHead_true {p0 : TDisk} (h0 : wfTDisk p0) : ∃ k, laws_FnExactBestHead k p0 = some true := by
  refine ⟨9223372036854775808, ?_⟩
  generalize hK : 9223372036854775808 = k
  have hk : Big k := by rw [Big, hK]; exact Nat.le_refl _
  clear hK
  have hN : (1048576 : Nat) ≤ 1114112 := by omega
  have hM : (1114112 : Nat) ≤ 1114112 := Nat.le_refl _
  rw [laws_FnExactBestHead]
  obtain ⟨r0, e0, l0, g0, s0⟩ := sz_Disk hk p0 h0 (m := 1048576) (by omega) (by omega)
  rw [e0, Option.bind_some]
  by_cases z0 : r0 < 0
  · simp [z0]
  rw [if_neg (by simpa using z0)]
  have hs0 := s0 (by omega)
  obtain ⟨g, eS, eI, hg⟩ := bestHead_both hk hs0 h0
  have t0 := to_Disk hk hN p0 hs0
  have q0 := eq_Disk hk hN p0 p0 hs0
  have qr0 := eq_Head hk hM g.1 g.1 (hg)
  simp [eS, eI, t0, q0, qr0, markL_length]

end Go.Proofs.Sx
