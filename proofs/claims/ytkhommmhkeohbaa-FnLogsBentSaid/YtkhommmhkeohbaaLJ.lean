/- Part of a program logic; see the notes. -/
import Derived.Test.YtkhommmhkeohbaaLI
namespace Go.Proofs.Sx
open Go.RowKit
set_option linter.unusedVariables false
set_option linter.unusedSimpArgs false
set_option linter.unusedSectionVars false
section
variable {P : Program} {w0 : World} {Pr : Fp} {N : Nat} {E : Env} {Γ : Gam} {d : Option Tmp} {ty : TypeId} {ps : String} {af : Array Edge}
variable {α β : Type} [Inhabited α]
def Hole (n : Nat) (enc : α → Value → List Value) (hl : ∀ x v, cellV v = true → (enc x v).length = n ∧ (enc x v).all cellV = true) (K : Kd β) (sub : α → List β) (put : α → List β → α)
    (a : Option Addr) (cap : Nat) (xs : List α) (i : Int) (a' : Option Addr) (c' : Nat) : HP where
  p := fun h F => ∀ h' ys G, (∀ b, F b → h'[b]? = h[b]?) → (OwnS K a' c' ys).p h' G → ys.length = (sub (gt xs i)).length → (∀ b, G b → ¬ F b) →
    (OwnS (.one n enc hl K sub) a cap (xs.set i.toNat (put (gt xs i) ys))).p h' (fun b => F b ∨ G b)
  loc := fun h hk h' ys G h1 h2 h3 h4 => h h' ys G (fun b hb => (h1 b hb).trans (hk b hb)) h2 h3 h4
theorem focus_own {n : Nat} {enc : α → Value → List Value} {hl : ∀ x v, cellV v = true → (enc x v).length = n ∧ (enc x v).all cellV = true} {K : Kd β} {sub : α → List β} {put : α → List β → α}
    (hput : ∀ x ys, sub (put x ys) = ys) (henc : ∀ x ys v, enc (put x ys) v = enc x v) {a : Option Addr} {cap : Nat} {xs : List α} {h : Heap} {F : Fp} (ho : (OwnS (.one n enc hl K sub) a cap xs).p h F) {i : Int} (hi : 0 ≤ i ∧ i < (xs.length : Int)) :
    ∃ b off c t a' c', a = some ⟨b, off, none⟩ ∧ F b ∧ h[b]? = some (.cells c t (0, 0)) ∧ ((c.toList.drop (off + i.toNat * n)).take n) = enc (gt xs i) (.slice a' (sub (gt xs i)).length c') ∧
      ∃ F1 F2, Spl F F1 F2 ∧ (Hole n enc hl K sub put a cap xs i a' c').p h F1 ∧ (OwnS K a' c' (sub (gt xs i))).p h F2 := by
  obtain ⟨hlt, e⟩ := gt_eq hi.1 hi.2
  rcases ho with ⟨_, _, hx, _⟩ | ⟨b, off, c, t, F2, ha, hh, hc, hsz, hs, he⟩
  · subst hx; simp at hlt
  · obtain ⟨G1, G2, sq, k1, k2⟩ := Els.focus he i.toNat hlt
    obtain ⟨a', c', H1, H2, sr, g1, g2⟩ := k1
    rw [← e] at g1 g2
    have hH : H2 = G1 := sr.eq_right g1.2
    subst hH
    have hcell : (((c.toList.drop off).drop (i.toNat * n)).take n) = enc (gt xs i) (.slice a' (sub (gt xs i)).length c') := g1.1
    rw [List.drop_drop] at hcell
    refine ⟨b, off, c, t, a', c', ha, hs.left rfl, hh, hcell, fun x => x = b ∨ G2 x, H2, ⟨fun x => ?_, ?_⟩, ?_, g2⟩
    · rw [hs.1 x, sq.1 x]
      constructor
      · rintro (h | h | h) <;> simp [h]
      · rintro ((h | h) | h) <;> simp [h]
    · rintro x (rfl | hx) h2
      · exact hs.2 x rfl (sq.left h2)
      · exact sq.2 x h2 hx
    · intro h' ys G q1 q2 q3 q4
      have hlen : (enc (gt xs i) (.slice a' ys.length c')).length = n := (hl _ _ rfl).1
      have hk := k2 h' (put (gt xs i) ys) (enc (gt xs i) (.slice a' ys.length c')) G (fun x hx => q1 x (.inr hx))
        ⟨a', c', fun _ => False, G, Spl.nil_left _, ⟨by rw [hput, henc], fun _ h => h⟩, by rw [hput]; exact q2⟩ (fun x hx h2 => q4 x hx (.inr h2))
      have hcs : c.toList.length = c.size := by simp
      have hle : off + i.toNat * n + n ≤ c.size := by
        have : (i.toNat + 1) * n ≤ cap * n := Nat.mul_le_mul_right _ (by omega)
        rw [Nat.add_mul] at this
        have hsz' : off + cap * n ≤ c.size := hsz
        omega
      have hsame : splice (c.toList.drop off) (i.toNat * n) (enc (gt xs i) (.slice a' ys.length c')) = c.toList.drop off := by
        rw [q3, ← hcell]
        simp only [splice, List.length_take, List.length_drop]
        rw [Nat.min_eq_left (by omega), ← List.drop_drop, List.append_assoc]
        rw [← List.drop_drop, List.take_append_drop, List.take_append_drop]
      have hk' : (Els (.one n enc hl K sub) (c.toList.drop off) (xs.set i.toNat (put (gt xs i) ys))).p h' (fun x => G x ∨ G2 x) := by
        have := hk
        change (Els (.one n enc hl K sub) (splice (c.toList.drop off) (i.toNat * n) (enc (gt xs i) (.slice a' ys.length c'))) (xs.set i.toNat (put (gt xs i) ys))).p h' (fun x => G x ∨ G2 x) at this
        rwa [hsame] at this
      refine .inr ⟨b, off, c, t, fun x => G x ∨ G2 x, ha, (q1 b (.inl rfl)).trans hh, by simpa using hc, hsz, ⟨fun x => ?_, ?_⟩, hk'⟩
      · constructor
        · rintro ((h | h) | h) <;> simp [h]
        · rintro (h | h | h) <;> simp [h]
      · rintro x rfl (hx | hx)
        · exact q4 x hx (.inl rfl)
        · exact hs.2 x rfl (sq.right hx)
theorem read_own_one {t : TypeId} {n : Nat} {enc : α → Value → List Value} {hl : ∀ x v, cellV v = true → (enc x v).length = n ∧ (enc x v).all cellV = true} {K : Kd β} {sub : α → List β} {put : α → List β → α} {a : Option Addr} {cap : Nat} {xs : List α} {i : Int}
    {w : World} {F : Fp} (hput : ∀ x ys, sub (put x ys) = ys) (henc : ∀ x ys v, enc (put x ys) v = enc x v) (ho : (OwnS (.one n enc hl K sub) a cap xs).p w.heap F) (hF : ∀ b, F b → b < w.heap.size) (hi : 0 ≤ i ∧ i < (xs.length : Int)) :
    ∃ a' c', (∀ j v, Tsc P t = true → (enc (gt xs i) (.slice a' (sub (gt xs i)).length c'))[j]? = some v → (Instr.loadAt t (EP a i n j)).run P w = .ok v w) ∧
      (∀ j m vs, Tag P t = true → Tsz P t = some m → ((enc (gt xs i) (.slice a' (sub (gt xs i)).length c')).drop j).take m = vs → (Nat.ble (j + m) n && Nat.blt 0 m) = true → (Instr.loadAt t (EP a i n j)).run P w = .ok (.agg vs.toArray) w) ∧
      Step w F w [Hole n enc hl K sub put a cap xs i a' c', OwnS K a' c' (sub (gt xs i))] := by
  have ho' := ho
  obtain ⟨b, off, c, t', a', c', ha, hb, hh, hcell, F1, F2, sp, h1, h2⟩ := focus_own hput henc ho hi
  refine ⟨a', c', ?_, ?_, Step.refl ⟨F1, F2, sp, h1, F2, fun _ => False, Spl.nil_right _, h2, fun _ h => h⟩ hF⟩
  · intro j v ht hv
    have hj : j < n := by rw [← (hl (gt xs i) (.slice a' (sub (gt xs i)).length c') rfl).1]; exact (List.getElem?_eq_some_iff.1 hv).1
    have hg : c.toList[off + i.toNat * n + j]? = some v := by
      have : ((c.toList.drop (off + i.toNat * n)).take n)[j]? = (enc (gt xs i) (.slice a' (sub (gt xs i)).length c'))[j]? := by rw [hcell]
      rw [List.getElem?_take, if_pos hj, List.getElem?_drop] at this
      rw [this]; exact hv
    rw [EP_eq ha]
    exact run_loadVar_sc ht hh hg
  · intro j m vs ht hn hv hj
    simp only [Bool.and_eq_true, Nat.ble_eq, Nat.blt_eq] at hj
    have hcs : c.toList.length = c.size := by simp
    have hlen : ((c.toList.drop (off + i.toNat * n)).take n).length = n := by rw [hcell]; exact (hl _ _ rfl).1
    simp only [List.length_take, List.length_drop] at hlen
    rw [EP_eq ha]
    have : vs = (c.toList.drop (off + i.toNat * n + j)).take m := by
      rw [← hv, ← hcell, List.drop_take, List.take_take, List.drop_drop, Nat.min_eq_left (by omega)]
    rw [this]
    exact run_loadVar_ag ht hn hh (by omega)
variable {n : Nat} {enc : α → Value → List Value} {hl : ∀ x v, cellV v = true → (enc x v).length = n ∧ (enc x v).all cellV = true} {K : Kd β} {sub : α → List β} {a : Option Addr} {cap : Nat} {xs : List α} {i : Int} {j : Nat}
theorem OT.focus {t : TypeId} {x : Operand} {v : Option Addr → Nat → Value} (put : α → List β → α) (ht : Tsc P t = true) (hi : 0 ≤ i ∧ i < (xs.length : Int)) (hput : ∀ x ys, sub (put x ys) = ys) (henc : ∀ x ys v, enc (put x ys) v = enc x v)
    (hv : ∀ a' c', (enc (gt xs i) (.slice a' (sub (gt xs i)).length c'))[j]? = some (v a' c')) :
    OT P w0 Pr ⟨d, .load t x, ty, ps, af, none⟩ [(x, EP a i n j)] [OwnS (.one n enc hl K sub) a cap xs] (ι := Option Addr × Nat) (fun p => v p.1 p.2) (fun p => [Hole n enc hl K sub put a cap xs i p.1 p.2, OwnS K p.1 p.2 (sub (gt xs i))]) := by
  intro ρ w F hv' hs hF hp
  obtain ⟨a', c', h1, _, h3⟩ := read_own_one (P := P) (t := t) hput henc hs.one (fun b hb => (hF b hb).2) hi
  refine runs_value (w' := w) (v := v a' c') ?_ ⟨(a', c'), rfl, h3⟩
  simp only [execOp, hv' x _ (List.mem_singleton_self _)]
  exact (run_bind_ok P (Instr.loadAt t (EP a i n j)) _ w w _ (h1 j _ ht (hv a' c'))).trans rfl
omit [Inhabited α] in
theorem set_put {γ : Type} [Inhabited γ] {xs : List γ} {i : Int} {x : γ} (h : x = gt xs i) (hi : 0 ≤ i ∧ i < (xs.length : Int)) : xs.set i.toNat x = xs := by
  obtain ⟨hlt, e⟩ := gt_eq hi.1 hi.2
  subst h
  rw [e]
  exact List.set_getElem_self hlt
theorem HQ.unfocus {Q : Act → World → Prop} {put : α → List β → α} {a' : Option Addr} {c' : Nat} {ys : List β} (r r2 : Nat) (h1 : look Γ r = some (Hole n enc hl K sub put a cap xs i a' c')) (h2 : look Γ r2 = some (OwnS K a' c' ys)) (hr : Nat.beq r r2 = false)
    (hlen : ys.length = (sub (gt xs i)).length) {xs' : List α} (hx : xs.set i.toNat (put (gt xs i) ys) = xs') (h : HQ w0 Pr N E ((r, OwnS (.one n enc hl K sub) a cap xs') :: (r2, emp) :: Γ) Q) : HQ w0 Pr N E Γ Q := by
  intro b w hs
  subst hx
  have hne : r ≠ r2 := fun e => by rw [e] at hr; simp at hr
  refine h b w { hs with sat := ?_ }
  obtain ⟨F, hF, hb⟩ := hs.sat
  have hp := (live_look h1 (by simp)).trans (List.Perm.cons _ (live_look (s := [r]) h2 (by simpa using fun e => hne e.symm)))
  obtain ⟨F1, F2, sp, k1, F3, F4, sq, k2, k3⟩ := Sat.perm hp hF
  refine ⟨F, ?_, hb⟩
  rw [live_out (by simp), live_out (by simpa using fun e => hne e.symm)]
  have a1 := Spl.assoc sp sq
  refine ⟨fun x => F1 x ∨ F3 x, F4, a1.1, ?_, fun _ => False, F4, Spl.nil_left _, fun _ h => h, k3⟩
  exact k1 w.heap ys F3 (fun _ _ => rfl) k2 hlen (fun x h3 h1 => a1.2.2 x h1 h3)
def NestAt (n : Nat) (enc : α → Value → List Value) (sub : α → List β) (a : Option Addr) (xs : List α) (i : Int) (p : Option Addr × Nat) (h : Heap) (Pr : Fp) : Prop :=
  ∃ b off c ty fz, a = some ⟨b, off, none⟩ ∧ Pr b ∧ h[b]? = some (.cells c ty fz) ∧ ((c.toList.drop (off + i.toNat * n)).take n) = enc (gt xs i) (.slice p.1 (sub (gt xs i)).length p.2)
theorem BorS.nest {h : Heap} (hb : BorS (.one n enc hl K sub) a cap xs h Pr) (hi : 0 ≤ i ∧ i < (xs.length : Int)) :
    ∃ p : Option Addr × Nat, BorS K p.1 p.2 (sub (gt xs i)) h Pr ∧ NestAt n enc sub a xs i p h Pr := by
  obtain ⟨b, off, cs, ty, fz, ha, hp, hh, a', c', e, hb'⟩ := hb.get hi.1 hi.2
  exact ⟨(a', c'), hb', b, off, cs, ty, fz, ha, hp, hh, e⟩
theorem OT.loadN {t : TypeId} {x : Operand} {p : Option Addr × Nat} {v : Value} (ht : Tsc P t = true) (hn : NestAt n enc sub a xs i p w0.heap Pr) (hl : ∀ x v, cellV v = true → (enc x v).length = n ∧ (enc x v).all cellV = true)
    (hv : (enc (gt xs i) (.slice p.1 (sub (gt xs i)).length p.2))[j]? = some v) :
    OT P w0 Pr ⟨d, .load t x, ty, ps, af, none⟩ [(x, EP a i n j)] [] (ι := Unit) (fun _ => v) (fun _ => []) := by
  intro ρ w F hv' hs hF hp
  obtain ⟨b, off, c, t', fz, ha, hb, hh, hcell⟩ := hn
  rw [← (hp b hb).2] at hh
  have hj : j < n := by rw [← (hl (gt xs i) (.slice p.1 (sub (gt xs i)).length p.2) rfl).1]; exact (List.getElem?_eq_some_iff.1 hv).1
  have hg : c.toList[off + i.toNat * n + j]? = some v := by
    have : ((c.toList.drop (off + i.toNat * n)).take n)[j]? = (enc (gt xs i) (.slice p.1 (sub (gt xs i)).length p.2))[j]? := by rw [hcell]
    rw [List.getElem?_take, if_pos hj, List.getElem?_drop] at this
    rw [this]; exact hv
  refine runs_value (w' := w) (v := v) ?_ ⟨(), rfl, Step.refl hs fun b hb => (hF b hb).2⟩
  simp only [execOp, hv' x _ (List.mem_singleton_self _)]
  refine (run_bind_ok P (Instr.loadAt t (EP a i n j)) _ w w v ?_).trans rfl
  rw [EP_eq ha]
  exact run_loadVar_sc ht hh hg
theorem OT.loadNA {t : TypeId} {x : Operand} {p : Option Addr × Nat} {m : Nat} {vs : List Value} (ht : Tag P t = true) (hm : Tsz P t = some m) (hn : NestAt n enc sub a xs i p w0.heap Pr) (hl : ∀ x v, cellV v = true → (enc x v).length = n ∧ (enc x v).all cellV = true)
    (hv : ((enc (gt xs i) (.slice p.1 (sub (gt xs i)).length p.2)).drop j).take m = vs) (hj : (Nat.ble (j + m) n && Nat.blt 0 m) = true) :
    OT P w0 Pr ⟨d, .load t x, ty, ps, af, none⟩ [(x, EP a i n j)] [] (ι := Unit) (fun _ => .agg vs.toArray) (fun _ => []) := by
  intro ρ w F hv' hs hF hp
  obtain ⟨b, off, c, t', fz, ha, hb, hh, hcell⟩ := hn
  rw [← (hp b hb).2] at hh
  simp only [Bool.and_eq_true, Nat.ble_eq, Nat.blt_eq] at hj
  have hcs : c.toList.length = c.size := by simp
  have hlen : ((c.toList.drop (off + i.toNat * n)).take n).length = n := by rw [hcell]; exact (hl _ _ rfl).1
  simp only [List.length_take, List.length_drop] at hlen
  have : vs = (c.toList.drop (off + i.toNat * n + j)).take m := by
    rw [← hv, ← hcell, List.drop_take, List.take_take, List.drop_drop, Nat.min_eq_left (by omega)]
  refine runs_value (w' := w) (v := .agg vs.toArray) ?_ ⟨(), rfl, Step.refl hs fun b hb => (hF b hb).2⟩
  simp only [execOp, hv' x _ (List.mem_singleton_self _)]
  refine (run_bind_ok P (Instr.loadAt t (EP a i n j)) _ w w _ ?_).trans rfl
  rw [EP_eq ha, this]
  exact run_loadVar_ag ht hm hh (by omega)
end
end Go.Proofs.Sx

