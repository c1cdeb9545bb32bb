/- Part of a program logic; see the notes. -/
import Derived.Test.YtkhommmhkeohbaaLA
namespace Go.Proofs.Sx
open Go.RowKit
set_option linter.unusedVariables false
set_option linter.unusedSimpArgs false
set_option linter.unusedSectionVars false
section
variable {P : Program} {w0 : World} {Pr : Fp} {d : Option Tmp} {ty : TypeId} {ps : String} {af : Array Edge}
variable {α β : Type} [Inhabited α]
def Bnd (dflt i : Int) (o : Option Operand) (vs : List (Operand × Value)) : Prop := (o = none ∧ i = dflt) ∨ ∃ x k, o = some x ∧ (x, Value.int k i) ∈ vs
theorem slice_op {t e : TypeId} {sz : Nat} {x : Operand} {lo hi : Option Operand} {a : Option Addr} {n cap : Nat} {l h : Int} {vs : List (Operand × Value)} {ρ : Operand → Value} {w : World}
    (ht : P.underlying t = some (.slice e)) (hsz : Tsz P e = some sz) (hv : ∀ x u, (x, u) ∈ vs → ρ x = u) (hx : ρ x = .slice a n cap)
    (hlo : Bnd 0 l lo vs) (hhi : Bnd n h hi vs) (hb : 0 ≤ l ∧ l ≤ h ∧ h ≤ (n : Int)) (hc : n ≤ cap) :
    (execOp ρ ⟨d, .slice t x lo hi none, ty, ps, af, none⟩).run P w = .ok (.value (.slice (sAd a cap sz l) (h.toNat - l.toNat) (cap - l.toNat))) w := by
  simp only [execOp, hx]
  refine (run_bind_ok P (Instr.sliceAt t (.slice a n cap) (lo.map ρ) (hi.map ρ) none) _ w w _ (run_slice ht hsz ?_ ?_ hb hc)).trans rfl
  · rcases hlo with ⟨rfl, rfl⟩ | ⟨y, k, rfl, hy⟩
    · exact .inl ⟨rfl, rfl⟩
    · exact .inr ⟨k, by simp [hv y _ hy]⟩
  · rcases hhi with ⟨rfl, rfl⟩ | ⟨y, k, rfl, hy⟩
    · exact .inl ⟨rfl, rfl⟩
    · exact .inr ⟨k, by simp [hv y _ hy]⟩
theorem OT.cutB {t e : TypeId} {x : Operand} {lo hi : Option Operand} {K : Kd α} {a : Option Addr} {cap : Nat} {xs : List α} {l h : Int} {vs : List (Operand × Value)}
    (ht : P.underlying t = some (.slice e)) (hsz : Tsz P e = some K.sz) (hb : BorS K a cap xs w0.heap Pr) (hlo : Bnd 0 l lo ((x, .slice a xs.length cap) :: vs)) (hhi : Bnd xs.length h hi ((x, .slice a xs.length cap) :: vs))
    (hl : 0 ≤ l ∧ l ≤ h ∧ h ≤ (xs.length : Int)) :
    OT P w0 Pr ⟨d, .slice t x lo hi none, ty, ps, af, none⟩ ((x, .slice a xs.length cap) :: vs) [] (ι := Unit) (fun _ => .slice (sAd a cap K.sz l) (slc xs l h).length (cap - l.toNat)) (fun _ => []) := by
  intro ρ w F hv hs hF hp
  exact runs_value (w' := w) (v := .slice (sAd a cap K.sz l) (slc xs l h).length (cap - l.toNat)) (by rw [slc_len hl]; exact slice_op ht hsz hv (hv x _ (by simp)) hlo hhi hl hb.1) ⟨(), rfl, Step.refl hs fun b hb => (hF b hb).2⟩
theorem OT.cutO {t e : TypeId} {x : Operand} {lo hi : Option Operand} {K : Kd α} {a : Option Addr} {cap : Nat} {xs : List α} {l h : Int} {vs : List (Operand × Value)}
    (ht : P.underlying t = some (.slice e)) (hsz : Tsz P e = some K.sz) (hlo : Bnd 0 l lo ((x, .slice a xs.length cap) :: vs)) (hhi : Bnd xs.length h hi ((x, .slice a xs.length cap) :: vs))
    (hl : 0 ≤ l ∧ l ≤ h ∧ h ≤ (xs.length : Int)) :
    OT P w0 Pr ⟨d, .slice t x lo hi none, ty, ps, af, none⟩ ((x, .slice a xs.length cap) :: vs) [OwnS K a cap xs] (ι := Unit) (fun _ => .slice (sAd a cap K.sz l) (slc xs l h).length (cap - l.toNat)) (fun _ => [OwnS K (sAd a cap K.sz l) (cap - l.toNat) (slc xs l h)]) := by
  intro ρ w F hv hs hF hp
  obtain ⟨F', h1, h2⟩ := OwnS.slice hs.one hl
  exact runs_value (w' := w) (v := .slice (sAd a cap K.sz l) (slc xs l h).length (cap - l.toNat)) (by rw [slc_len hl]; exact slice_op ht hsz hv (hv x _ (by simp)) hlo hhi hl (OwnS.len hs.one))
    ⟨(), rfl, rfl, rfl, rfl, Nat.le_refl _, fun _ _ _ => rfl, F', Sat.one' h1, fun b hb => ⟨.inl (h2 b hb), (hF b (h2 b hb)).2⟩⟩
def Tst (P : Program) (t : TypeId) : Option (List Value × List (Nat × Nat)) := match P.underlying t with
  | some (.struct fs) => match Tzc P t with
    | some zs => bif fs.toList.all (fun f => (Tsz P f.type).isSome) then some (zs, fs.toList.map fun f => (f.offset, (Tsz P f.type).getD 0)) else none
    | none => none
  | _ => none
def fillL (places : List (Nat × Nat)) : List Value → List (Nat × Value) → Option (List Value)
  | cs, [] => some cs
  | cs, (i, v) :: r => match places[i]? with
    | none => none
    | some (off, n) => bif Nat.beq v.cells.toList.length n && Nat.ble (off + n) cs.length then fillL places (splice cs off v.cells.toList) r else none
theorem fill_eq {places : List (Nat × Nat)} {pl : Nat → Option (Nat × Nat)} (hp : ∀ i, pl i = places[i]?) : ∀ {us : List (Nat × Value)} {cs : List Value} {c : Array Value} {r : List Value}, fillL places cs us = some r → c.toList = cs →
    ∃ c', Instr.fill pl c us = some c' ∧ c'.toList = r
  | [], cs, c, r, h, hc => ⟨c, rfl, by rw [hc]; exact Option.some.inj h⟩
  | (i, v) :: us, cs, c, r, h, hc => by
    simp only [fillL] at h
    cases hi : places[i]? with
    | none => rw [hi] at h; cases h
    | some on =>
      obtain ⟨off, n⟩ := on
      rw [hi] at h
      simp only at h
      by_cases hk : (Nat.beq v.cells.toList.length n && Nat.ble (off + n) cs.length) = true
      · rw [hk] at h
        simp only [Bool.and_eq_true, Nat.beq_eq, Nat.ble_eq] at hk
        have hs : v.cells.size = n := by simpa using hk.1
        have hcs : c.size = cs.length := by rw [← hc]; simp
        have hfl := foldl_set off v.cells.toList 0 c (by simp; omega)
        simp only [Nat.add_zero] at hfl
        simp only [Instr.fill, hp, hi]
        rw [if_neg (by simp; omega)]
        refine fill_eq hp h ?_
        rw [← hc, ← hfl, ← Array.foldl_toList]; simp
      · rw [Bool.not_eq_true] at hk
        rw [hk] at h; cases h
def inum : List (Nat × Operand) → List Value → List (Nat × Value)
  | (i, _) :: xs, u :: us => (i, u) :: inum xs us
  | _, _ => []
theorem inum_map {ρ : Operand → Value} : ∀ {xs : List (Nat × Operand)} {us : List Value}, xs.length = us.length → (∀ x u, (x, u) ∈ pairs (xs.map (·.2)) us → ρ x = u) → xs.map (fun p : Nat × Operand => (p.1, ρ p.2)) = inum xs us
  | [], [], _, _ => rfl
  | (i, x) :: xs, u :: us, h, hv => by
    simp only [List.map_cons, inum]
    rw [inum_map (by simpa using h) fun x u hx => hv x u (by simp [pairs, hx]), hv x u (by simp [pairs])]
theorem Pu.build {t : TypeId} {parts : Array (Nat × Operand)} {zs : List Value} {places : List (Nat × Nat)} (xs : List (Nat × Operand)) {us : List Value} {cs : List Value} (hT : Tst P t = some (zs, places))
    (hp : parts = xs.toArray) (hl : xs.length = us.length) (hf : fillL places zs (inum xs us) = some cs) :
    Pu P ⟨d, .build t parts, ty, ps, af, none⟩ (pairs (xs.map (·.2)) us) (.agg cs.toArray) := fun ρ w hv => by
  subst hp
  unfold Tst at hT
  split at hT <;> try (cases hT; done)
  rename_i fs hfs
  split at hT <;> try (cases hT; done)
  rename_i zs' hz
  have hall : (fs.toList.all fun f => (Tsz P f.type).isSome) = true := by
    cases hb : (fs.toList.all fun f => (Tsz P f.type).isSome) with
    | true => rfl
    | false => rw [hb] at hT; cases hT
  rw [hall] at hT
  obtain ⟨rfl, rfl⟩ := Prod.mk.inj (Option.some.inj hT)
  obtain ⟨z, hz1, hz2⟩ := run_zero (P := P) (w := w) hz
  have hpl : ∀ (l : List Field), (∀ f ∈ l, (Tsz P f.type).isSome = true) → ∀ (w : World), ((l.mapM fun f => do pure (f.offset, ← sizeOf f.type) : Sem (List (Nat × Nat)))).run P w = .ok (l.map fun f => (f.offset, (Tsz P f.type).getD 0)) w := by
    intro l hl w
    induction l with
    | nil => rfl
    | cons f l ih =>
      rw [List.mapM_cons]
      have hs := hl f (by simp)
      obtain ⟨n, hn⟩ := Option.isSome_iff_exists.1 hs
      have h1 := run_bind_ok P (sizeOf f.type) (fun n => (pure (f.offset, n) : Sem (Nat × Nat))) w w n (run_sizeOf hn)
      refine (run_bind_ok P _ _ w w (f.offset, n) (h1.trans rfl)).trans ?_
      refine (run_bind_ok P _ _ w w _ (ih fun g hg => hl g (by simp [hg]))).trans ?_
      simp [hn]
  obtain ⟨c', h1, h2⟩ := fill_eq (pl := fun i => ((fs.toList.map fun f => (f.offset, (Tsz P f.type).getD 0)).toArray)[i]?) (c := z.cells) (fun i => by simp) hf hz2
  have e : (c' : Array Value) = cs.toArray := by rw [← h2]
  simp only [execOp]
  refine (run_bind_ok P _ _ w w (.agg cs.toArray) ?_).trans rfl
  unfold Instr.build
  refine (run_bind_ok P _ _ w w z hz1).trans ?_
  refine (run_bind_ok P _ _ w w _ (run_underlying hfs)).trans ?_
  simp only
  have hm : (fs.mapM fun f => (do pure (f.offset, ← sizeOf f.type) : Sem (Nat × Nat))).run P w = .ok ((fs.toList.map fun f => (f.offset, (Tsz P f.type).getD 0)).toArray) w := by
    rw [Array.mapM_eq_mapM_toList]
    have := hpl fs.toList (fun f hf' => List.all_eq_true.1 hall f hf') w
    exact (run_bind_ok P _ (fun l => (pure l.toArray : Sem (Array (Nat × Nat)))) w w _ this).trans rfl
  refine (run_bind_ok P _ _ w w _ hm).trans ?_
  have hmap : (xs.toArray.map fun (p : Nat × Operand) => (p.1, ρ p.2)).toList = inum xs us := by simp [inum_map hl hv]
  have h1' : Instr.fill (fun i => ((fs.toList.map fun f => (f.offset, (Tsz P f.type).getD 0)).toArray)[i]?) z.cells (xs.toArray.map fun (p : Nat × Operand) => (p.1, ρ p.2)).toList = some c' := by rw [hmap]; exact h1
  simp only [h1', e]; rfl
end
end Go.Proofs.Sx

