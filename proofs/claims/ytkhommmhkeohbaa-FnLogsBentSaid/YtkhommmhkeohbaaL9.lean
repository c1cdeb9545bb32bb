/- Part of a program logic; see the notes. -/
import Derived.Test.YtkhommmhkeohbaaL8
namespace Go.Proofs.Sx
open Go.RowKit
set_option linter.unusedVariables false
set_option linter.unusedSimpArgs false
set_option linter.unusedSectionVars false
section
variable {P : Program} {w0 : World} {Pr : Fp} {d : Option Tmp} {ty : TypeId} {ps : String} {af : Array Edge}
variable {α β : Type} [Inhabited α]
def SrcAt (h : Heap) (a : Option Addr) (len : Nat) (cs : List Value) : Prop :=
  (len = 0 ∧ cs = []) ∨ ∃ b off arr ty fz, a = some ⟨b, off, none⟩ ∧ h[b]? = some (.cells arr ty fz) ∧ off + len ≤ arr.size ∧ cs = (arr.toList.drop off).take len
theorem zeroCells_size (z : Array Value) (n : Nat) : (Builtin.zeroCells z n).size = n * z.size := by simp [Builtin.zeroCells]
theorem zero_size {t : TypeId} {zs : List Value} {w : World} (h : Tzc P t = some zs) : ∃ z, (zeroValue t).run P w = .ok z w ∧ z.cells.size = zs.length := by
  obtain ⟨z, h1, h2⟩ := run_zero (P := P) (w := w) h
  exact ⟨z, h1, by rw [← h2]; simp⟩
theorem run_append {t t2 e : TypeId} {K : Kd α} {bytes : Nat} {zs : List Value} {a a2 : Option Addr} {cap l2 cap2 : Nat} {xs ys : List α} {w : World} {F FS : Fp} {ds : List Value}
    (ht : P.underlying t = some (.slice e)) (ht2 : P.underlying t2 = some (.slice e)) (hsz : Tsz P e = some K.sz) (hby : Tby P e = some bytes) (hb0 : bytes ≠ 0) (hb1 : bytes ≤ 400) (hz : Tzc P e = some zs) (hzl : zs.length = K.sz)
    (ho : (OwnS K a cap xs).p w.heap F) (hF : ∀ b, F b → b < w.heap.size) (hs : SrcAt w.heap a2 (ys.length * K.sz) ds) (hl2 : l2 = ys.length) (hlen : okLen (xs.length + ys.length) = true)
    (hcv : ds.all cellV = true) (hE : (Els K ds ys).p w.heap FS) (hFS : ∀ b, FS b → b < w.heap.size) (hdis : ∀ b, F b → ¬ FS b) :
    ∃ a' cap' w', (Builtin.append_ #[t, t2] ty #[.slice a xs.length cap, .slice a2 l2 cap2]).run P w = .ok (.slice a' (xs ++ ys).length cap') w' ∧
      w'.os = w.os ∧ w'.tape = w.tape ∧ w'.output = w.output ∧ w.heap.size ≤ w'.heap.size ∧ (∀ b, b < w.heap.size → ¬ F b → w'.heap[b]? = w.heap[b]?) ∧
      ∃ F', (OwnS K a' cap' (xs ++ ys)).p w'.heap F' ∧ ∀ b, F' b → (F b ∨ FS b ∨ w.heap.size ≤ b) ∧ b < w'.heap.size := by
  subst hl2
  simp only [okLen, decide_eq_true_eq] at hlen
  have hfirst : ∀ w' : World, w'.heap = w.heap → (Builtin.firstCells K.sz ys.length (.slice a2 ys.length cap2)).run P w' = .ok ds.toArray w' := by
    intro w' hw
    refine run_firstCells ?_
    rw [hw]
    rcases hs with ⟨h0, h1⟩ | ⟨b, off, arr, u, fz, h1, h2, h3, h4⟩
    · exact .inl ⟨h0, h1⟩
    · exact .inr ⟨b, off, arr, u, fz, h1, h2, h3, h4⟩
  have hdl : ds.length = ys.length * K.sz := by
    rcases hs with ⟨h0, h1⟩ | ⟨b, off, arr, u, fz, h1, h2, h3, h4⟩
    · rw [h1, h0]; rfl
    · rw [h4]; simp; omega
  have hlc := OwnS.len ho
  obtain ⟨inf, hinf, hbytes⟩ := run_bytes (P := P) (w := w) hby
  unfold Builtin.append_
  simp only [List.getElem?_toArray, List.getElem?_cons_zero, List.getElem?_cons_succ]
  rw [run_bind_ok P _ _ w w _ (run_underlying ht)]
  simp only
  rw [run_bind_ok P _ _ w w _ (run_sizeOf hsz)]
  have hzz : (do pure ((← underlying t2) matches .int _) : Sem Bool).run P w = .ok false w := (run_bind_ok P _ _ w w _ (run_underlying ht2)).trans rfl
  by_cases hroom : xs.length + ys.length ≤ cap
  · -- in place
    rcases ho with ⟨ha, hc, hx, hf⟩ | ⟨b, off, c, u, F2, ha, hh, hl, hc, hsp, he⟩
    · subst ha; subst hc; subst hx
      have hy : ys = [] := by cases ys with | nil => rfl | cons y ys => simp at hroom
      subst hy
      have hds : ds = [] := by simpa using hdl
      subst hds
      refine ⟨none, 0, w, ?_, rfl, rfl, rfl, Nat.le_refl _, fun _ _ _ => rfl, F, .inl ⟨rfl, rfl, rfl, hf⟩, fun b hb => (hf b hb).elim⟩
      simp [bind, Sem.bind, pure, underlying, program, Sem.run, ht2, Builtin.lenOf]
      have := hfirst w rfl
      simp at this
      have h2 := run_bind_ok P (Builtin.firstCells K.sz 0 (.slice a2 0 cap2)) (fun _ => (pure (Value.slice none 0 0) : Sem Value)) w w _ this
      exact h2.trans rfl
    · have hoff : off + xs.length * K.sz + ds.length ≤ c.size := by
        have : (xs.length + ys.length) * K.sz ≤ cap * K.sz := Nat.mul_le_mul_right _ hroom
        rw [Nat.add_mul] at this; omega
      obtain ⟨w', h1, h2⟩ := run_storeCells (P := P) (o := off + xs.length * K.sz) (i := 0) hh (by omega) hcv
      refine ⟨a, cap, w', ?_, h2.os, h2.tape, h2.output, by rw [h2.size]; exact Nat.le_refl _, fun z hz hf => h2.keep z fun e => hf (e ▸ hsp.left rfl), fun z => z = b ∨ F2 z ∨ FS z, ?_, ?_⟩
      · subst ha
        simp only [bind, Sem.bind, pure, underlying, program, Sem.run, ht2, Builtin.lenOf]
        simp only [if_pos hroom]
        have h3 := run_bind_ok P (Builtin.firstCells K.sz ys.length (.slice a2 ys.length cap2)) (fun new => (do storeCells (Addr.add ⟨b, off, none⟩ (xs.length * K.sz)) new.toList; pure (Value.slice (some ⟨b, off, none⟩) (xs.length + ys.length) cap) : Sem Value)) w w _ (hfirst w rfl)
        refine Eq.trans ?_ ((h3.trans ((run_bind_ok P _ _ w w' () ?_).trans rfl)).trans (by simp))
        · rfl
        · rw [Addr.add_eq]; simpa using h1
      · refine .inr ⟨b, off, _, u, fun z => F2 z ∨ FS z, ha, h2.new, by simpa using hroom, ?_, ⟨fun z => Iff.rfl, ?_⟩, ?_⟩
        · simp only [List.size_toArray]
          rw [splice_length (by simp; omega)]; simpa using hc
        · rintro z rfl (hz | hz)
          · exact hsp.2 z rfl hz
          · exact hdis z (hsp.left rfl) hz
        · have hk : ∀ z, F2 z ∨ FS z → w'.heap[z]? = w.heap[z]? := fun z hz => h2.keep z fun e => by
            subst e
            rcases hz with hz | hz
            · exact hsp.2 z rfl hz
            · exact hdis z (hsp.left rfl) hz
          have hap := Els.append he hE (fun z hz hg => hdis z (hsp.right hz) hg)
          refine Els.prefix ((Els K _ _).loc hap hk) ?_
          simp only [Nat.add_zero]
          have hL : c.toList.length = c.size := by simp
          generalize c.toList = L at hL ⊢
          simp only [splice, List.length_append, Nat.add_mul]
          rw [List.append_assoc, List.drop_append_of_le_length (by simp; omega), List.drop_take, Nat.add_sub_cancel_left]
          rw [← List.append_assoc, List.take_append_of_le_length (l₂ := List.drop _ L) (by simp; omega)]
      · rintro z (hz | hz | hz)
        · exact ⟨.inl (hz ▸ hsp.left rfl), by rw [h2.size]; exact hF z (hz ▸ hsp.left rfl)⟩
        · exact ⟨.inl (hsp.right hz), by rw [h2.size]; exact hF z (hsp.right hz)⟩
        · exact ⟨.inr (.inl hz), by rw [h2.size]; exact hFS z hz⟩
  · -- a new block
    have hnc := nextcap_le (need := xs.length + ys.length) (cap := cap) (by omega)
    obtain ⟨inf, hi, hby'⟩ : ∃ inf, P.info? e = some inf ∧ inf.bytes = bytes := by
      unfold Tby at hby
      cases hi : P.info? e with
      | none => rw [hi] at hby; cases hby
      | some inf => rw [hi] at hby; exact ⟨inf, rfl, Option.some.inj hby⟩
    have hlim : ¬ (Builtin.nextslicecap (xs.length + ys.length) cap * bytes > 2 ^ 48) := by
      have h1 : Builtin.nextslicecap (xs.length + ys.length) cap * bytes ≤ (2 * (xs.length + ys.length) + 768) * 400 := Nat.mul_le_mul hnc hb1
      omega
    have hmx : ¬ (((xs.length + ys.length : Nat) : Int) > IntKind.i64.max ∧ (False ∨ bytes = 0)) := by simp [hb0]
    let q : Question := .appendCap (xs.length + ys.length) cap e
    let m := q.cut (w.tape w.drawn q)
    have hm : xs.length + ys.length ≤ m := Nat.le_add_right _ _
    let w1 : World := { w with drawn := w.drawn + 1 }
    have hw1 : w1.heap = w.heap := rfl
    obtain ⟨old, hold, hol, hE0⟩ : ∃ old : List Value, (Builtin.firstCells K.sz xs.length (.slice a xs.length cap)).run P w1 = .ok old.toArray w1 ∧ old.length = xs.length * K.sz ∧ ∃ F2, (Els K old xs).p w.heap F2 ∧ ∀ b, F2 b → F b := by
      rcases ho with ⟨ha, hc, hx, hf⟩ | ⟨b, off, c, u, F2, ha, hh, hl, hc, hsp, he⟩
      · subst hx
        exact ⟨[], run_firstCells (.inl ⟨by simp, rfl⟩), by simp, fun _ => False, fun b hb => hb, fun b hb => hb.elim⟩
      · have hle : off + xs.length * K.sz ≤ c.size := by
          have : xs.length * K.sz ≤ cap * K.sz := Nat.mul_le_mul_right _ hl
          omega
        refine ⟨(c.toList.drop off).take (xs.length * K.sz), run_firstCells (.inr ⟨b, off, c, u, _, ha, hh, hle, rfl⟩), by simp; omega, F2, Els.prefix he (by rw [List.take_take, Nat.min_self]), fun z hz => hsp.right hz⟩
    obtain ⟨F2, hE1, hE2⟩ := hE0
    obtain ⟨z, hz1, hz2⟩ := zero_size (P := P) (w := w1) hz
    let cells := old.toArray ++ ds.toArray ++ Builtin.zeroCells z.cells (m - (xs.length + ys.length))
    let w2 : World := { w1 with heap := w.heap.push (.cells cells e) }
    have hcs : cells.size = m * K.sz := by
      have : (m - (xs.length + ys.length)) * K.sz + (xs.length + ys.length) * K.sz = m * K.sz := by rw [← Nat.add_mul]; congr 1; omega
      simp only [cells, Array.size_append, List.size_toArray, hol, hdl, zeroCells_size, hz2, hzl]
      rw [Nat.add_mul] at this; omega
    refine ⟨some ⟨w.heap.size, 0, none⟩, m, w2, ?_, rfl, rfl, rfl, by simp [w2], fun b hb _ => push_old hb, fun b => b = w.heap.size ∨ (F2 b ∨ FS b), ?_, ?_⟩
    · simp only [bind, Sem.bind, pure, underlying, program, Sem.run, ht2, Builtin.lenOf, if_neg hroom]
      simp only [typeInfo, bind, Sem.bind, pure, program, Sem.run, hi, hby', Bool.false_eq_true, if_false, Bool.not_false, if_true, if_neg hlim, if_neg hmx]
      show (if q.forced then _ else _) = _
      rw [if_neg (show ¬ q.forced = true from fun h => by cases h)]
      simp only [Sem.bind, Sem.run, hi, hby']
      have hask : (askRoom (m * bytes)).run P w1 = .ok () w1 := by unfold askRoom; split <;> rfl
      refine (run_bind_ok P (askRoom (m * bytes)) _ w1 w1 () hask).trans ?_
      refine (run_bind_ok P _ _ w1 w1 _ hold).trans ?_
      refine (run_bind_ok P _ _ w1 w1 _ (hfirst w1 rfl)).trans ?_
      refine (run_bind_ok P _ _ w1 w1 _ hz1).trans ?_
      simp only [List.length_append]; rfl
    · have hE3 : (Els K cells.toList (xs ++ ys)).p w.heap (fun b => F2 b ∨ FS b) := by
        refine Els.prefix (Els.append hE1 hE (fun b hb => hdis b (hE2 b hb))) ?_
        simp only [List.length_append, Nat.add_mul, cells, Array.toList_append, List.toList_toArray]
        rw [List.take_of_length_le (l := old) (by omega), List.take_append_of_le_length (l₂ := (Builtin.zeroCells z.cells _).toList) (by simp; omega)]
      exact own_new hE3 (fun b hb => hb.elim (fun h => hF b (hE2 b h)) (hFS b)) (by simpa using hm) (by rw [hcs]; exact Nat.le_refl _)
    · rintro b (hb | hb | hb)
      · exact ⟨.inr (.inr (by omega)), by simp [w2]; omega⟩
      · exact ⟨.inl (hE2 b hb), by have := hF b (hE2 b hb); simp [w2]; omega⟩
      · exact ⟨.inr (.inl hb), by have := hFS b hb; simp [w2]; omega⟩
end
end Go.Proofs.Sx

