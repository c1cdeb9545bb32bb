/- Part of a program logic; see the notes. -/
import Derived.Test.YtkhommmhkeohbaaL6
namespace Go.Proofs.Sx
open Go.RowKit
set_option linter.unusedVariables false
set_option linter.unusedSimpArgs false
set_option linter.unusedSectionVars false
section
variable {P : Program} {w0 : World} {Pr : Fp} {d : Option Tmp} {ty : TypeId} {ps : String} {af : Array Edge}
variable {α β : Type} [Inhabited α]
theorem storeE {t : TypeId} {x y : Operand} {K : Kd α} {a : Option Addr} {cap m : Nat} {xs : List α} {i : Int} {j : Nat} {v : Value} {vs : List Value} {x' : α} {w : World} {ρ : Operand → Value} {F FX : Fp} {PX : HP}
    (hx : ρ x = EP a i K.sz j) (hy : ρ y = v) (ho : (OwnS K a cap xs).p w.heap F) (hF : ∀ b, F b → b < w.heap.size) (hX : PX.p w.heap FX) (hFX : ∀ b, FX b → b < w.heap.size ∧ ¬ F b)
    (hn : Tsz P t = some m) (hvs : v.cells.toList = vs) (hl : vs.length = m) (hc : vs.all cellV = true) (hi : 0 ≤ i ∧ i < (xs.length : Int)) (hj : j + m ≤ K.sz)
    (hnew : ∀ (h h' : Heap) cs F1 F2, (K.own cs (gt xs i)).p h F1 → PX.p h F2 → (∀ b, F1 b → h'[b]? = h[b]?) → (∀ b, F2 b → h'[b]? = h[b]?) → (∀ b, F1 b → ¬ F2 b) →
      ∃ F3, (K.own (splice cs j vs) x').p h' F3 ∧ ∀ b, F3 b → F1 b ∨ F2 b) :
    Runs P ⟨d, .store t x y, ty, ps, af, none⟩ ρ w fun u w' => u = undef ∧ Step w (fun b => F b ∨ FX b) w' [OwnS K a cap (xs.set i.toNat x')] := by
  obtain ⟨hlt, e⟩ := gt_eq hi.1 hi.2
  obtain ⟨b, off, ha⟩ := (OwnS.bor ho).some hi.1 hi.2
  obtain ⟨c, tt, hh, hsz, hFb, cs, F1, F2, k1, s1, s2, n1, n2, dis, up⟩ := OwnS.write (w := w) (w' := w) (j := j) (vs := vs) ho hlt ha (by omega)
  obtain ⟨w', h1, h2⟩ := run_storeVar (P := P) (o := off + i.toNat * K.sz + j) hn hvs hl hh (by omega) hc
  obtain ⟨F3, h3, h4⟩ := hnew w.heap w'.heap cs F1 FX (by rw [e]; exact k1) hX (fun b' hb => h2.keep b' fun e => n1 (e ▸ hb)) (fun b' hb => h2.keep b' fun e => (hFX b' hb).2 (e ▸ hFb)) (fun b hb hx => (hFX b hx).2 (s1 b hb))
  refine runs_skip (w' := w') ?_ ⟨rfl, h2.os, h2.tape, h2.output, by rw [h2.size]; exact Nat.le_refl _, fun z hz hf => h2.keep z fun e => hf (.inl (e ▸ hFb)), _,
    Sat.one' (up w' h2 x' F3 h3 fun z hz => ?_), fun z hz => ⟨.inl ?_, ?_⟩⟩
  · simp only [execOp, hx, hy, EP_eq ha]
    exact (run_bind_ok P (Instr.storeAt t (.pointer (some ⟨b, off + i.toNat * K.sz + j, none⟩)) v) _ w w' () h1).trans rfl
  · rcases h4 z hz with h | h
    · exact ⟨dis z h, fun e => n1 (e ▸ h)⟩
    · exact ⟨fun h' => (hFX z h).2 (s2 z h'), fun e => (hFX z h).2 (e ▸ hFb)⟩
  · rcases hz with hz | hz | hz
    · exact .inl (hz ▸ hFb)
    · exact (h4 z hz).imp (s1 z) id
    · exact .inl (s2 z hz)
  · rw [h2.size]
    rcases hz with hz | hz | hz
    · exact hF z (hz ▸ hFb)
    · rcases h4 z hz with h | h
      · exact hF z (s1 z h)
      · exact (hFX z h).1
    · exact hF z (s2 z hz)
theorem Step.congrF {w w' : World} {F G : Fp} {L : List HP} (h : Step w F w' L) (e : ∀ b, F b ↔ G b) : Step w G w' L := by
  have : F = G := Fp.ext e
  subst this; exact h
theorem OT.storeW {t : TypeId} {x y : Operand} {n m : Nat} {enc : α → Value → List Value} {hl : ∀ x v, cellV v = true → (enc x v).length = n ∧ (enc x v).all cellV = true} {K : Kd β} {sub : α → List β} {a a' : Option Addr} {cap c' : Nat} {xs : List α} {ys : List β} {i : Int} {j : Nat} {v : Value}
    {vs : List Value} (x' : α) (hn : Tsz P t = some m) (hvs : v.cells.toList = vs) (hm : vs.length = m) (hc : vs.all cellV = true) (hi : 0 ≤ i ∧ i < (xs.length : Int)) (hj : Nat.ble (j + m) n = true)
    (hx' : ∀ u, splice (enc (gt xs i) u) j vs = enc x' (.slice a' ys.length c')) (hsub : sub x' = ys) :
    OT P w0 Pr ⟨d, .store t x y, ty, ps, af, none⟩ [(x, EP a i n j), (y, v)] [OwnS (.one n enc hl K sub) a cap xs, OwnS K a' c' ys] (ι := Unit) (fun _ => undef) (fun _ => [OwnS (.one n enc hl K sub) a cap (xs.set i.toNat x')]) := by
  intro ρ w F hv hs hF hp
  obtain ⟨F1, F2, sp, h1, h2⟩ := hs.two
  have := storeE (P := P) (t := t) (x := x) (y := y) (d := d) (ty := ty) (ps := ps) (af := af) (K := .one n enc hl K sub) (j := j) (x' := x') (ρ := ρ) (w := w) (PX := OwnS K a' c' ys) (FX := F2)
    (hv x (EP a i n j) (by simp)) (hv y v (by simp)) h1 (fun b hb => (hF b (sp.left hb)).2) h2 (fun b hb => ⟨(hF b (sp.right hb)).2, fun h => sp.2 b h hb⟩) hn hvs hm hc hi (Nat.le_of_ble_eq_true hj) ?_
  · exact this.mono fun u w' ⟨h1, h2⟩ => ⟨(), h1, h2.congrF fun b => (sp.1 b).symm⟩
  · rintro h h' cs G1 G2 ⟨b', d', H1, H2, sq, g1, g2⟩ k2 hk hk2 hd
    refine ⟨G2, ⟨a', c', fun _ => False, G2, Spl.nil_left _, ⟨?_, fun b hb => hb⟩, ?_⟩, fun b hb => .inr hb⟩
    · rw [g1.1, hsub]; exact hx' _
    · rw [hsub]; exact (OwnS K a' c' ys).loc k2 hk2
def idx {γ : Type} : Nat → List γ → List (Nat × γ)
  | _, [] => []
  | i, x :: xs => (i, x) :: idx (i + 1) xs
theorem foldl_set (off : Nat) : ∀ (vs : List Value) (k : Nat) (cs : Array Value), off + k + vs.length ≤ cs.size →
    ((vs.zipIdx k).foldl (fun cs (p : Value × Nat) => cs.setIfInBounds (off + p.2) p.1) cs).toList = splice cs.toList (off + k) vs
  | [], k, cs, _ => by simp [splice]
  | v :: vs, k, cs, h => by
    simp only [List.zipIdx_cons, List.foldl_cons, List.length_cons] at *
    rw [foldl_set off vs (k + 1) _ (by simp; omega)]
    simp only [splice, Array.toList_setIfInBounds, List.length_cons]
    rw [show off + (k + 1) = off + k + 1 by omega, List.take_set, List.drop_set_of_lt (by omega)]
    rw [List.take_succ_eq_append_getElem (by simp; omega), List.set_append_right _ _ (by simp; omega)]
    simp
    rw [show min (off + k) cs.size = off + k by omega]
    simp
    congr 1; omega
theorem fill_idx (sz : Nat) : ∀ (us : List Value) (k : Nat) (cs : Array Value), (∀ u ∈ us, u.cells.size = sz) → (k + us.length) * sz ≤ cs.size →
    ∃ r, Instr.fill (fun i => some (i * sz, sz)) cs (idx k us) = some r ∧ r.toList = splice cs.toList (k * sz) (us.flatMap fun u => u.cells.toList)
  | [], k, cs, _, _ => ⟨cs, rfl, by simp [splice]⟩
  | u :: us, k, cs, hu, h => by
    have hsz := hu u (by simp)
    have hmul : (k + (us.length + 1)) * sz = k * sz + sz + us.length * sz := by rw [Nat.add_mul, Nat.add_mul]; omega
    simp only [List.length_cons, hmul] at h
    have hfl := foldl_set (k * sz) u.cells.toList 0 cs (by simp; omega)
    simp only [Nat.add_zero] at hfl
    have hcs : (u.cells.zipIdx.foldl (fun cs (p : Value × Nat) => cs.setIfInBounds (k * sz + p.2) p.1) cs).toList = splice cs.toList (k * sz) u.cells.toList := by
      rw [← hfl, ← Array.foldl_toList]; simp
    have hlen : (us.flatMap fun u => u.cells.toList).length = us.length * sz := by
      clear h hmul hfl hcs
      have : ∀ u ∈ us, u.cells.size = sz := fun u hu' => hu u (by simp [hu'])
      clear hu
      induction us with
      | nil => simp
      | cons v vs ih =>
        simp only [List.flatMap_cons, List.length_append, List.length_cons]
        rw [ih fun u hu' => this u (by simp [hu'])]
        have := this v (by simp)
        simp [this, Nat.add_mul]; omega
    have hsize : (u.cells.zipIdx.foldl (fun cs (p : Value × Nat) => cs.setIfInBounds (k * sz + p.2) p.1) cs).size = cs.size := by
      have := congrArg List.length hcs
      rw [splice_length (by simp; omega)] at this
      simpa using this
    obtain ⟨r, h1, h2⟩ := fill_idx sz us (k + 1) (u.cells.zipIdx.foldl (fun cs (p : Value × Nat) => cs.setIfInBounds (k * sz + p.2) p.1) cs)
      (fun u hu' => hu u (by simp [hu'])) (by rw [hsize, Nat.add_mul, Nat.add_mul]; omega)
    refine ⟨r, ?_, ?_⟩
    · simp only [idx, Instr.fill]
      rw [if_neg (by simp [hsz]; omega)]
      exact h1
    · rw [h2, hcs]
      simp only [splice, List.flatMap_cons, List.length_append, hlen, Array.length_toList, hsz]
      have hL : cs.toList.length = cs.size := by simp
      generalize cs.toList = L at hL ⊢
      rw [show (k + 1) * sz = k * sz + sz by rw [Nat.add_mul]; omega]
      rw [List.take_append_of_le_length (by simp; omega)]
      rw [List.take_of_length_le (l := L.take (k * sz) ++ u.cells.toList) (by simp; omega)]
      rw [show k * sz + sz + us.length * sz = (L.take (k * sz) ++ u.cells.toList).length + us.length * sz by simp; omega]
      rw [List.drop_append, List.drop_of_length_le (l := L.take (k * sz) ++ u.cells.toList) (by omega)]
      simp only [List.nil_append, List.append_assoc, List.drop_drop]
      congr 3
      congr 1
      simp; omega
theorem run_buildSlice {t e : TypeId} {n sz : Nat} {zs : List Value} {us : List Value} {w : World} (ht : P.underlying t = some (.slice e)) (hsz : Tsz P e = some sz) (hz : Tzc P e = some zs)
    (hn : us.length = n) (hlim : n * sz ≤ 16777216) (hu : ∀ u ∈ us, u.cells.size = sz) :
    ∃ c : Array Value, c.toList = us.flatMap (fun u => u.cells.toList) ∧
      (Instr.buildSlice t n (idx 0 us).toArray).run P w = .ok (.slice (some ⟨w.heap.size, 0, none⟩) n n) { w with heap := w.heap.push (.cells c e) } := by
  obtain ⟨z, hz1, hz2⟩ := run_zero (P := P) (w := w) hz
  have key : ∀ zc : Array Value, ∃ c : Array Value, c.toList = us.flatMap (fun u => u.cells.toList) ∧
      Instr.fill (fun i => some (i * sz, sz)) ((Array.range (n * sz)).map (zc[· % zc.size]!)) (idx 0 us) = some c := by
    intro zc
    obtain ⟨r, h1, h2⟩ := fill_idx sz us 0 ((Array.range (n * sz)).map (zc[· % zc.size]!)) hu (by simp [hn])
    refine ⟨r, ?_, h1⟩
    rw [h2]
    have hlen : (us.flatMap fun u => u.cells.toList).length = n * sz := by
      subst hn
      clear h2 h1 hlim
      induction us with
      | nil => simp
      | cons v vs ih =>
        simp only [List.flatMap_cons, List.length_append, List.length_cons]
        rw [ih fun u hu' => hu u (by simp [hu'])]
        have := hu v (by simp)
        simp [this, Nat.add_mul]; omega
    simp only [splice, Nat.zero_mul, List.take_zero, List.nil_append, Nat.zero_add, hlen]
    rw [List.drop_of_length_le (by simp)]; simp
  by_cases h0 : n * sz = 0
  · obtain ⟨c, hc1, hc2⟩ := key #[]
    refine ⟨c, hc1, ?_⟩
    unfold Instr.buildSlice
    refine (run_bind_ok P _ _ w w _ (run_underlying ht)).trans ?_
    refine (run_bind_ok P _ _ w w _ (run_sizeOf hsz)).trans ?_
    rw [if_neg (by simpa using hlim)]
    simp only [if_pos h0]
    simp only [bind, Sem.bind, pure, hc2, Sem.run]; rfl
  · obtain ⟨c, hc1, hc2⟩ := key z.cells
    refine ⟨c, hc1, ?_⟩
    unfold Instr.buildSlice
    refine (run_bind_ok P _ _ w w _ (run_underlying ht)).trans ?_
    refine (run_bind_ok P _ _ w w _ (run_sizeOf hsz)).trans ?_
    rw [if_neg (by simpa using hlim)]
    simp only [if_neg h0]
    refine (run_bind_ok P (zeroValue e) _ w w z hz1).trans ?_
    simp only [bind, Sem.bind, pure, hc2, Sem.run]; rfl
end
end Go.Proofs.Sx

