/- Part of a program logic; see the notes. -/
import Derived.Test.YtkhommmhkeohbaaLJ
namespace Go.Proofs.Sx
open Go.RowKit
set_option linter.unusedVariables false
set_option linter.unusedSimpArgs false
set_option linter.unusedSectionVars false
section
variable {P : Program} {w0 : World} {Pr : Fp} {N : Nat} {E : Env} {Γ : Gam} {d : Option Tmp} {ty : TypeId} {ps : String} {af : Array Edge}
variable {α β : Type} [Inhabited α]
def RobS (n : Nat) (enc : α → Value → List Value) (hl : ∀ x v, cellV v = true → (enc x v).length = n ∧ (enc x v).all cellV = true) (K : Kd β) (sub : α → List β) (a : Option Addr) (cap : Nat) (xs : List α) (r : Int) : HP where
  p := fun h F => (xs = [] ∧ ∀ b, ¬ F b) ∨ ∃ b off cs ty F2, a = some ⟨b, off, none⟩ ∧ h[b]? = some (.cells cs ty (0, 0)) ∧ Spl F (fun x => x = b) F2 ∧ (Els (.one n enc hl K sub) ((cs.toList.drop off).drop (r.toNat * n)) (xs.drop r.toNat)).p h F2
  loc := by
    rintro h h' F hp hk
    rcases hp with hp | ⟨b, off, cs, ty, F2, ha, hh, hs, he⟩
    · exact .inl hp
    · exact .inr ⟨b, off, cs, ty, F2, ha, (hk b (hs.left rfl)).trans hh, hs, (Els _ _ _).loc he fun x hx => hk x (hs.right hx)⟩
variable {n : Nat} {enc : α → Value → List Value} {hl : ∀ x v, cellV v = true → (enc x v).length = n ∧ (enc x v).all cellV = true} {K : Kd β} {sub : α → List β} {a : Option Addr} {cap : Nat} {xs : List α} {i r : Int} {j : Nat}
omit [Inhabited α] in
theorem rob_of {h : Heap} {F : Fp} (ho : (OwnS (.one n enc hl K sub) a cap xs).p h F) : (RobS n enc hl K sub a cap xs 0).p h F := by
  rcases ho with ⟨_, _, hx, hf⟩ | ⟨b, off, cs, ty, F2, ha, hh, _, _, hs, he⟩
  · exact .inl ⟨hx, hf⟩
  · exact .inr ⟨b, off, cs, ty, F2, ha, hh, hs, by simpa using he⟩
omit [Inhabited α] in
theorem HQ.toRob {Q : Act → World → Prop} (rid : Nat) (h1 : look Γ rid = some (OwnS (.one n enc hl K sub) a cap xs)) (k : HQ w0 Pr N E ((rid, RobS n enc hl K sub a cap xs 0) :: Γ) Q) : HQ w0 Pr N E Γ Q := by
  intro b w hs
  refine k b w ?_
  obtain ⟨F, hF, hb⟩ := hs.sat
  obtain ⟨F1, F2, sp, g1, g2⟩ := Sat.perm (live_look (s := []) h1 (by simp)) hF
  refine { hs with sat := ⟨F, ?_, hb⟩ }
  rw [live_out (by simp)]
  exact ⟨F1, F2, sp, rob_of g1, g2⟩
theorem rob_get {h : Heap} {F : Fp} (hp : (RobS n enc hl K sub a cap xs r).p h F) (hi : 0 ≤ i ∧ i < (xs.length : Int)) (hr : r ≤ i) :
    ∃ b off c t a' c', a = some ⟨b, off, none⟩ ∧ F b ∧ h[b]? = some (.cells c t (0, 0)) ∧ ((c.toList.drop (off + i.toNat * n)).take n) = enc (gt xs i) (.slice a' (sub (gt xs i)).length c') ∧
      ∃ F1 F2, (∀ b, F1 b ∨ F2 b → F b) ∧ (∀ b, F1 b → ¬ F2 b) ∧ (RobS n enc hl K sub a cap xs (i + 1)).p h F1 ∧ (OwnS K a' c' (sub (gt xs i))).p h F2 := by
  obtain ⟨hlt, e⟩ := gt_eq hi.1 hi.2
  rcases hp with ⟨hx, _⟩ | ⟨b, off, cs, ty, F2, ha, hh, hs, he⟩
  · subst hx; simp at hlt
  · obtain ⟨F3, h3, hsub⟩ := Els.slc (i.toNat - r.toNat) he
    have hle : r.toNat ≤ i.toNat := by omega
    have e1 : ((cs.toList.drop off).drop (r.toNat * n)).drop ((i.toNat - r.toNat) * n) = (cs.toList.drop off).drop (i.toNat * n) := by
      rw [List.drop_drop]
      congr 1
      rw [← Nat.add_mul]; congr 1; omega
    have e2 : (xs.drop r.toNat).drop (i.toNat - r.toNat) = xs[i.toNat] :: xs.drop (i.toNat + 1) := by
      rw [List.drop_drop, show r.toNat + (i.toNat - r.toNat) = i.toNat by omega]
      exact List.drop_eq_getElem_cons hlt
    rw [e2] at h3
    have h3' : (Els (.one n enc hl K sub) ((cs.toList.drop off).drop (i.toNat * n)) (xs[i.toNat] :: xs.drop (i.toNat + 1))).p h F3 := by rw [← e1]; exact h3
    obtain ⟨G1, G2, sq, k1, k2⟩ := h3'
    obtain ⟨a', c', H1, H2, sr, g1, g2⟩ := k1
    have hH : H2 = G1 := sr.eq_right g1.2
    subst hH
    rw [← e] at g1 g2
    refine ⟨b, off, cs, ty, a', c', ha, hs.left rfl, hh, ?_, fun x => x = b ∨ G2 x, H2, ?_, ?_, ?_, g2⟩
    · have := g1.1
      rw [List.drop_drop] at this; exact this
    · rintro x ((rfl | hx) | hx)
      · exact hs.left rfl
      · exact hs.right (hsub x (sq.right hx))
      · exact hs.right (hsub x (sq.left hx))
    · rintro x (rfl | hx) h2
      · exact hs.2 x rfl (hsub x (sq.left h2))
      · exact sq.2 x h2 hx
    · refine .inr ⟨b, off, cs, ty, G2, ha, hh, ⟨fun x => Iff.rfl, fun x hx hg => by subst hx; exact hs.2 x rfl (hsub x (sq.right hg))⟩, ?_⟩
      have e3 : (i + 1).toNat = i.toNat + 1 := by omega
      rw [e3]
      have e4 : ((cs.toList.drop off).drop (i.toNat * n)).drop n = (cs.toList.drop off).drop ((i.toNat + 1) * n) := by
        rw [List.drop_drop, Nat.add_mul]; congr 1; omega
      have k2' : (Els (.one n enc hl K sub) (((cs.toList.drop off).drop (i.toNat * n)).drop n) (xs.drop (i.toNat + 1))).p h G2 := k2
      rw [e4] at k2'; exact k2'
theorem Step.less {w : World} {F F' : Fp} {L : List HP} (h : Sat L w.heap F') (hs : ∀ b, F' b → F b) (hF : ∀ b, F b → b < w.heap.size) : Step w F w L :=
  ⟨rfl, rfl, rfl, Nat.le_refl _, fun _ _ _ => rfl, F', h, fun b hb => ⟨.inl (hs b hb), hF b (hs b hb)⟩⟩
theorem OT.indexR {t e : TypeId} {sz : Nat} {x y : Operand} {k : IntKind} (ht : P.underlying t = some (.slice e)) (hsz : Tsz P e = some sz) (hi : 0 ≤ i ∧ i < (xs.length : Int)) :
    OT P w0 Pr ⟨d, .indexAddr t x y, ty, ps, af, none⟩ [(x, .slice a xs.length cap), (y, .int k i)] [RobS n enc hl K sub a cap xs r] (ι := Unit) (fun _ => EP a i sz 0) (fun _ => [RobS n enc hl K sub a cap xs r]) := by
  intro ρ w F hv hs hF hp
  have ha : ∃ b off, a = some ⟨b, off, none⟩ := by
    rcases hs.one with ⟨hx, _⟩ | ⟨b, off, cs, ty, F2, ha, _⟩
    · subst hx; simp at hi; omega
    · exact ⟨b, off, ha⟩
  obtain ⟨b, off, ha⟩ := ha
  refine runs_value (w' := w) (v := EP a i sz 0) ?_ ⟨(), rfl, Step.refl hs fun b hb => (hF b hb).2⟩
  simp only [execOp, hv x (.slice a xs.length cap) (by simp), hv y (.int k i) (by simp)]
  exact (run_bind_ok P _ _ w w _ (run_indexAt ht hsz ha hi.1 hi.2)).trans rfl
theorem rob_sc {t : TypeId} {w : World} {F : Fp} {v : Option Addr → Nat → Value} (hp : (RobS n enc hl K sub a cap xs r).p w.heap F) (hi : 0 ≤ i ∧ i < (xs.length : Int)) (hr : r ≤ i) (ht : Tsc P t = true)
    (hv : ∀ a' c', (enc (gt xs i) (.slice a' (sub (gt xs i)).length c'))[j]? = some (v a' c')) :
    ∃ a' c', (Instr.loadAt t (EP a i n j)).run P w = .ok (v a' c') w ∧ ∃ F1 F2, (∀ b, F1 b ∨ F2 b → F b) ∧ (∀ b, F1 b → ¬ F2 b) ∧ (RobS n enc hl K sub a cap xs (i + 1)).p w.heap F1 ∧ (OwnS K a' c' (sub (gt xs i))).p w.heap F2 := by
  obtain ⟨b, off, c, t', a', c', ha, hb, hh, hcell, rest⟩ := rob_get hp hi hr
  refine ⟨a', c', ?_, rest⟩
  have hj : j < n := by rw [← (hl (gt xs i) (.slice a' (sub (gt xs i)).length c') rfl).1]; exact (List.getElem?_eq_some_iff.1 (hv a' c')).1
  have hg : c.toList[off + i.toNat * n + j]? = some (v a' c') := by
    have : ((c.toList.drop (off + i.toNat * n)).take n)[j]? = some (v a' c') := by rw [hcell]; exact hv a' c'
    rw [List.getElem?_take, if_pos hj, List.getElem?_drop] at this
    exact this
  rw [EP_eq ha]
  exact run_loadVar_sc ht hh hg
theorem OT.loadR {t : TypeId} {x : Operand} {v : Value} (ht : Tsc P t = true) (hi : 0 ≤ i ∧ i < (xs.length : Int)) (hr : r ≤ i) (hv : ∀ u, (enc (gt xs i) u)[j]? = some v) :
    OT P w0 Pr ⟨d, .load t x, ty, ps, af, none⟩ [(x, EP a i n j)] [RobS n enc hl K sub a cap xs r] (ι := Unit) (fun _ => v) (fun _ => [RobS n enc hl K sub a cap xs r]) := by
  intro ρ w F hv' hs hF hp
  obtain ⟨a', c', hrun, _⟩ := rob_sc (P := P) (v := fun _ _ => v) hs.one hi hr ht (fun a' c' => hv _)
  refine runs_value (w' := w) (v := v) ?_ ⟨(), rfl, Step.refl hs fun b hb => (hF b hb).2⟩
  simp only [execOp, hv' x _ (List.mem_singleton_self _)]
  exact (run_bind_ok P (Instr.loadAt t (EP a i n j)) _ w w _ hrun).trans rfl
theorem OT.rob {t : TypeId} {x : Operand} {v : Option Addr → Nat → Value} (ht : Tsc P t = true) (hi : 0 ≤ i ∧ i < (xs.length : Int)) (hr : r ≤ i)
    (hv : ∀ a' c', (enc (gt xs i) (.slice a' (sub (gt xs i)).length c'))[j]? = some (v a' c')) :
    OT P w0 Pr ⟨d, .load t x, ty, ps, af, none⟩ [(x, EP a i n j)] [RobS n enc hl K sub a cap xs r] (ι := Option Addr × Nat) (fun p => v p.1 p.2) (fun p => [RobS n enc hl K sub a cap xs (i + 1), OwnS K p.1 p.2 (sub (gt xs i))]) := by
  intro ρ w F hv' hs hF hp
  obtain ⟨a', c', hrun, F1, F2, h1, h2, h3, h4⟩ := rob_sc (P := P) hs.one hi hr ht hv
  refine runs_value (w' := w) (v := v a' c') ?_ ⟨(a', c'), rfl, Step.less (F' := fun b => F1 b ∨ F2 b) (Sat.two' ⟨fun b => Iff.rfl, h2⟩ h3 h4) h1 fun b hb => (hF b hb).2⟩
  simp only [execOp, hv' x _ (List.mem_singleton_self _)]
  exact (run_bind_ok P (Instr.loadAt t (EP a i n j)) _ w w _ hrun).trans rfl
end
def Tfv (P : Program) (s : TypeId) (f : Nat) : Option Nat := match P.underlying s with
  | some (.struct fs) => match fs[f]? with
    | some fd => bif Tsc P fd.type then some fd.offset else none
    | none => none
  | _ => none
section
variable {P : Program} {d : Option Tmp} {ty : TypeId} {ps : String} {af : Array Edge}
end
section
variable {P : Program} {w0 : World} {Pr : Fp} {d : Option Tmp} {ty : TypeId} {ps : String} {af : Array Edge}
variable {α : Type} [Inhabited α]
theorem OT.appendS {t t2 e : TypeId} {n : Nat} {enc : α → List Value} {hl : ∀ x, (enc x).length = n ∧ (enc x).all cellV = true} {bytes : Nat} {zs : List Value} {x y : Operand} {a : Option Addr} {cap : Nat} {xs : List α}
    (T : SlT P t e n bytes zs) (ht2 : P.underlying t2 = some (.slice e)) (hlen : okLen (xs.length + xs.length) = true) :
    OT P w0 Pr ⟨d, .call ⟨.builtin .append, #[x, y], #[t, t2]⟩, ty, ps, af, none⟩ [(x, .slice a xs.length cap), (y, .slice a xs.length cap)] [OwnS (.flat n enc hl) a cap xs]
      (ι := Option Addr × Nat) (fun p => .slice p.1 (xs ++ xs).length p.2) (fun p => [OwnS (.flat n enc hl) p.1 p.2 (xs ++ xs)]) := by
  intro ρ w F hv hs hF hp
  obtain ⟨ds, hsrc, hcv, hr⟩ := (OwnS.bor hs.one).src
  have := append_op (P := P) (K := .flat n enc hl) (d := d) (ty := ty) (ps := ps) (af := af) (Rest := []) (FR := fun _ => False) T ht2 (hv x (.slice a xs.length cap) (by simp)) (hv y (.slice a xs.length cap) (by simp)) hs.one (fun b hb => (hF b hb).2) hsrc rfl hlen hcv hr.flatEls
    (fun b hb => hb.elim) (fun b hb hg => hg) (fun b hb => hb) (fun b hb => hb.elim)
  exact this.mono fun v w' ⟨p, hv, st⟩ => ⟨p, hv, st.congrF fun b => by simp⟩
end
def Tef (P : Program) (t : TypeId) : Option (List (TypeId × Nat)) := match P.underlying t with
  | some (.struct fs) => bif fs.toList.all (fun f => f.name != "_") && !P.stoodInHeld t then some (fs.toList.map fun f => (f.type, f.offset)) else none
  | _ => none
def EqA (P : Program) (t : TypeId) (dep : Nat) (x y : Value) (b : Bool) : Prop := ∀ d, dep ≤ d → ∀ w, (Op.equalIn d t x y).run P w = .ok b w
theorem EqA.int {P : Program} {t : TypeId} {k kt : IntKind} {m n : Int} (ht : P.underlying t = some (.int kt)) : EqA P t 1 (.int k m) (.int k n) (decide (m = n)) := fun d hd w => by
  obtain ⟨d', rfl⟩ : ∃ d', d = d' + 1 := ⟨d - 1, by omega⟩
  exact equalIn_int ht d'
theorem EqA.bool {P : Program} {t : TypeId} {m n : Bool} (ht : P.underlying t = some .bool) : EqA P t 1 (.bool m) (.bool n) (m == n) := fun d hd w => by
  obtain ⟨d', rfl⟩ : ∃ d', d = d' + 1 := ⟨d - 1, by omega⟩
  exact equalIn_bool ht d'
theorem EqA.up {P : Program} {t : TypeId} {dep dep' : Nat} {x y : Value} {b : Bool} (h : EqA P t dep x y b) (hd : dep ≤ dep') : EqA P t dep' x y b := fun d h' w => h d (Nat.le_trans hd h') w
theorem EqA.cast {P : Program} {t : TypeId} {dep : Nat} {x y : Value} {b c : Bool} (h : EqA P t dep x y b) (e : b = c) : EqA P t dep x y c := e ▸ h
inductive EqFs (P : Program) (dep : Nat) (xs ys : Array Value) : List (TypeId × Nat) → Bool → Prop
  | nil : EqFs P dep xs ys [] true
  | sc {t : TypeId} {off : Nat} {l : List (TypeId × Nat)} {b1 b2 : Bool} {v u : Value} (ht : Tsc P t = true) (hx : xs[off]? = some v) (hy : ys[off]? = some u) (he : EqA P t dep v u b1) (hl : EqFs P dep xs ys l b2) : EqFs P dep xs ys ((t, off) :: l) (b1 && b2)
  | ag {t : TypeId} {off n : Nat} {l : List (TypeId × Nat)} {b1 b2 : Bool} {vs us : Array Value} (ht : Tag P t = true) (hs : Tsz P t = some n) (hx : xs.extract off (off + n) = vs) (hy : ys.extract off (off + n) = us) (he : EqA P t dep (.agg vs) (.agg us) b1) (hl : EqFs P dep xs ys l b2) : EqFs P dep xs ys ((t, off) :: l) (b1 && b2)
theorem run_part_sc {P : Program} {t : TypeId} {cs : Array Value} {off : Nat} {v : Value} {w : World} (ht : Tsc P t = true) (hx : cs[off]? = some v) : (part t cs off).run P w = .ok v w := by
  unfold part
  refine (run_bind_ok P _ _ w w _ (run_isAgg_sc ht)).trans ?_
  simp only [hx]
  rfl
theorem run_part_ag {P : Program} {t : TypeId} {cs vs : Array Value} {off n : Nat} {w : World} (ht : Tag P t = true) (hs : Tsz P t = some n) (hx : cs.extract off (off + n) = vs) : (part t cs off).run P w = .ok (.agg vs) w := by
  unfold part
  refine (run_bind_ok P _ _ w w _ (run_isAgg_ag ht)).trans ?_
  simp only [if_true]
  refine (run_bind_ok P _ _ w w _ (run_sizeOf hs)).trans ?_
  subst hx
  rfl
theorem run_eqFs {P : Program} {dep d : Nat} {xs ys : Array Value} {w : World} (hd : dep ≤ d) : ∀ {l : List Field} {b : Bool}, (∀ f ∈ l, f.name ≠ "_") → EqFs P dep xs ys (l.map fun f => (f.type, f.offset)) b →
    (forIn (m := Sem) l ((none, ()) : Option Bool × Unit) (fun f (__s : Option Bool × Unit) => if f.name ≠ "_" then do
      let a ← part f.type xs f.offset
      let a_1 ← part f.type ys f.offset
      let a ← Op.equalIn d f.type a a_1
      if (!a) = true then pure (ForInStep.done (some false, ())) else pure (ForInStep.yield (none, ()))
      else pure (ForInStep.yield (none, ())))).run P w = .ok (if b = true then (none, ()) else (some false, ())) w
  | [], b, _, h => by
    cases h
    rfl
  | f :: l, b, hn, h => by
    rw [List.forIn_cons]
    rw [if_pos (hn f (by simp))]
    obtain ⟨b1, b2, v, u, rfl, h1, h2, h3, h4⟩ : ∃ b1 b2 v u, b = (b1 && b2) ∧ (part f.type xs f.offset).run P w = .ok v w ∧ (part f.type ys f.offset).run P w = .ok u w ∧ EqA P f.type dep v u b1 ∧ EqFs P dep xs ys (l.map fun f => (f.type, f.offset)) b2 := by
      cases h with
      | sc ht hx hy he hl => exact ⟨_, _, _, _, rfl, run_part_sc ht hx, run_part_sc ht hy, he, hl⟩
      | ag ht hs hx hy he hl => exact ⟨_, _, _, _, rfl, run_part_ag ht hs hx, run_part_ag ht hs hy, he, hl⟩
    refine (run_bind_ok P _ _ w w (if b1 = true then ForInStep.yield (none, ()) else ForInStep.done (some false, ())) ?_).trans ?_
    · refine (run_bind_ok P _ _ w w _ h1).trans ?_
      refine (run_bind_ok P _ _ w w _ h2).trans ?_
      refine (run_bind_ok P _ _ w w _ (h3 d hd w)).trans ?_
      cases b1 <;> rfl
    · cases b1
      · rfl
      · exact run_eqFs hd (fun g hg => hn g (by simp [hg])) h4
theorem EqA.struct {P : Program} {t : TypeId} {dep : Nat} {fs : List (TypeId × Nat)} {xs ys : Array Value} {b : Bool} (ht : Tef P t = some fs) (h : EqFs P dep xs ys fs b) : EqA P t (dep + 1) (.agg xs) (.agg ys) b := fun d hd w => by
  obtain ⟨d', rfl⟩ : ∃ d', d = d' + 1 := ⟨d - 1, by omega⟩
  unfold Tef at ht
  split at ht <;> try (cases ht; done)
  rename_i fa hfa
  cases hc : (fa.toList.all (fun f => f.name != "_") && !P.stoodInHeld t) with
  | false => rw [hc] at ht; cases ht
  | true =>
    rw [hc] at ht
    obtain rfl := Option.some.inj ht
    simp only [Bool.and_eq_true, Bool.not_eq_true', List.all_eq_true, bne_iff_ne, ne_eq] at hc
    rw [Op.equalIn]
    refine (run_bind_ok P _ _ w w _ (run_underlying hfa)).trans ?_
    simp only
    refine (run_bind_ok P _ _ w w P rfl).trans ?_
    rw [if_neg (by rw [hc.2]; decide)]
    refine (run_bind_ok P _ _ w w (if b = true then (none, ()) else (some false, ())) ?_).trans ?_
    · have := run_eqFs (w := w) (show dep ≤ d' by omega) (fun f hf => hc.1 f hf) h
      rw [← Array.forIn_toList]
      exact this
    · cases b <;> rfl
theorem Pu.neqT {P : Program} {d : Option Tmp} {ty : TypeId} {ps : String} {af : Array Edge} {t u : TypeId} {x y : Operand} {xs ys : Array Value} {dep : Nat} {b : Bool} (hg : P.eqGuardType P.depth t = false) (h : EqA P t dep (.agg xs) (.agg ys) b) (hd : Nat.ble dep 10000 = true) :
    Pu P ⟨d, .binOp .neq t x y u, ty, ps, af, none⟩ [(x, .agg xs), (y, .agg ys)] (.bool !b) :=
  Pu.bin (fun w => by
    unfold eqGuard
    rw [if_neg (by decide)]
    simp only
    refine (run_bind_ok P _ _ w w P rfl).trans ?_
    refine (run_bind_ok P _ _ w w P rfl).trans ?_
    rw [hg]; rfl) fun w => bin_neq rfl (h 10000 (Nat.le_of_ble_eq_true hd) w)
end Go.Proofs.Sx

