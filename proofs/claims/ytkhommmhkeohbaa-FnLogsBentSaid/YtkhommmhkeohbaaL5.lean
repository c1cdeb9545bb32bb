/- Part of a program logic; see the notes. -/
import Derived.Test.YtkhommmhkeohbaaL4
namespace Go.Proofs.Sx
open Go.RowKit
set_option linter.unusedVariables false
set_option linter.unusedSectionVars false
set_option linter.unusedSimpArgs false
section
variable {P : Program} {w0 : World} {Pr : Fp} {d : Option Tmp} {ty : TypeId} {ps : String} {af : Array Edge}
theorem runs_value {o : Oper} {ρ : Operand → Value} {w w' : World} {R : Value → World → Prop} {v : Value} (h : (execOp ρ o).run P w = .ok (.value v) w') (hr : R v w') : Runs P o ρ w R := by
  unfold Runs; rw [h]; exact hr
theorem runs_skip {o : Oper} {ρ : Operand → Value} {w w' : World} {R : Value → World → Prop} (h : (execOp ρ o).run P w = .ok .skip w') (hr : R undef w') : Runs P o ρ w R := by
  unfold Runs; rw [h]; exact hr
theorem Sat.one {Q : HP} {h : Heap} {F : Fp} (hs : Sat [Q] h F) : Q.p h F := by
  obtain ⟨F1, F2, sp, h1, h2⟩ := hs
  have := sp.eq_left h2
  exact this ▸ h1
theorem Sat.one' {Q : HP} {h : Heap} {F : Fp} (hq : Q.p h F) : Sat [Q] h F := ⟨F, fun _ => False, Spl.nil_right F, hq, fun _ h => h⟩
theorem Sat.two {Q R : HP} {h : Heap} {F : Fp} (hs : Sat [Q, R] h F) : ∃ F1 F2, Spl F F1 F2 ∧ Q.p h F1 ∧ R.p h F2 := by
  obtain ⟨F1, F2, sp, h1, h2⟩ := hs
  exact ⟨F1, F2, sp, h1, h2.one⟩
theorem Sat.two' {Q R : HP} {h : Heap} {F F1 F2 : Fp} (sp : Spl F F1 F2) (hq : Q.p h F1) (hr : R.p h F2) : Sat [Q, R] h F := ⟨F1, F2, sp, hq, Sat.one' hr⟩
theorem heap_lt {h : Heap} {b : Nat} {o : Obj} (hh : h[b]? = some o) : b < h.size := by
  rcases Nat.lt_or_ge b h.size with h' | h'
  · exact h'
  · rw [Array.getElem?_eq_none h'] at hh; cases hh
theorem step_push {w : World} {F : Fp} {o : Obj} {L : List HP} (h : ∀ G : Fp, (∀ b, G b ↔ b = w.heap.size) → ∃ F', Sat L (w.heap.push o) F' ∧ ∀ b, F' b → F b ∨ G b)
    (hF : ∀ b, F b → b < w.heap.size) : Step w F { w with heap := w.heap.push o } L := by
  obtain ⟨F', h1, h2⟩ := h (fun b => b = w.heap.size) (fun b => Iff.rfl)
  refine ⟨rfl, rfl, rfl, by simp, fun b hb _ => ?_, F', h1, fun b hf => ?_⟩
  · show (w.heap.push o)[b]? = _
    rw [Array.getElem?_push, if_neg (by omega)]
  · simp only [Array.size_push]
    rcases h2 b hf with h | h
    · exact ⟨.inl h, by have := hF b h; omega⟩
    · exact ⟨.inr (by omega), by omega⟩
theorem push_new {h : Heap} {o : Obj} : (h.push o)[h.size]? = some o := by simp
theorem push_old {h : Heap} {o : Obj} {b : Nat} (hb : b < h.size) : (h.push o)[b]? = h[b]? := by rw [Array.getElem?_push, if_neg (by omega)]
theorem box_push {w : World} {c : Array Value} {t : TypeId} : (Box w.heap.size c.toList).p (w.heap.push (.cells c t)) (fun b => b = w.heap.size) :=
  ⟨fun _ => Iff.rfl, t, by simp⟩
theorem OT.alloc {t : TypeId} {zs : List Value} (hz : Tzc P t = some zs) :
    OT P w0 Pr ⟨d, .alloc t, ty, ps, af, none⟩ [] [] (ι := Nat) (fun β => BP β 0) (fun β => [Box β zs]) := by
  intro ρ w F hv hs hF hp
  obtain ⟨z, h1, h2⟩ := run_zero (P := P) (w := w) hz
  refine runs_value (w' := { w with heap := w.heap.push (.cells z.cells t) }) (v := BP w.heap.size 0) ?_ ⟨w.heap.size, rfl, step_push (fun G hG => ⟨G, ?_, fun b hb => .inr hb⟩) fun b hb => (hF b hb).2⟩
  · simp only [execOp, Instr.alloc]
    show (Sem.bind _ _).run P w = _
    refine (run_bind_ok P _ _ w _ (BP w.heap.size 0) ?_).trans rfl
    refine (run_bind_ok P _ _ w w z h1).trans ?_
    rfl
  · have : G = fun b => b = w.heap.size := Fp.ext hG
    subst this; subst h2; exact Sat.one' box_push
theorem OT.box {t : TypeId} {x : Operand} {v : Value} {cs : List Value} (hc : v.cells.toList = cs) :
    OT P w0 Pr ⟨d, .box t x, ty, ps, af, none⟩ [(x, v)] [] (ι := Nat) (fun β => BP β 0) (fun β => [Box β cs]) := by
  intro ρ w F hv hs hF hp
  subst hc
  refine runs_value (w' := { w with heap := w.heap.push (.cells v.cells t) }) (v := BP w.heap.size 0) ?_ ⟨w.heap.size, rfl, step_push (fun G hG => ⟨G, ?_, fun b hb => .inr hb⟩) fun b hb => (hF b hb).2⟩
  · simp only [execOp, Instr.box, hv x v (by simp)]; rfl
  · have : G = fun b => b = w.heap.size := Fp.ext hG
    subst this; exact Sat.one' box_push
theorem Box.at {β : Nat} {cs : List Value} {h : Heap} {F : Fp} (hb : (Box β cs).p h F) : ∃ t, h[β]? = some (.cells cs.toArray t (0, 0)) := hb.2
theorem OT.loadB {t : TypeId} {x : Operand} {β k : Nat} {cs : List Value} {v : Value} (ht : Tsc P t = true) (hk : cs[k]? = some v) :
    OT P w0 Pr ⟨d, .load t x, ty, ps, af, none⟩ [(x, BP β k)] [Box β cs] (ι := Unit) (fun _ => v) (fun _ => [Box β cs]) := by
  intro ρ w F hv hs hF hp
  obtain ⟨_, u, hh⟩ := hs.one
  refine runs_value (w' := w) (v := v) ?_ ⟨(), rfl, Step.refl hs fun b hb => (hF b hb).2⟩
  simp only [execOp, hv x _ (List.mem_singleton_self _)]
  exact (run_bind_ok P (Instr.loadAt t (BP β k)) _ w w v (run_loadVar_sc ht hh (by simpa using hk))).trans rfl
theorem OT.loadBA {t : TypeId} {x : Operand} {β k n : Nat} {cs vs : List Value} (ht : Tag P t = true) (hn : Tsz P t = some n) (hvs : (cs.drop k).take n = vs) (hl : vs.length = n) :
    OT P w0 Pr ⟨d, .load t x, ty, ps, af, none⟩ [(x, BP β k)] [Box β cs] (ι := Unit) (fun _ => .agg vs.toArray) (fun _ => [Box β cs]) := by
  intro ρ w F hv hs hF hp
  obtain ⟨_, u, hh⟩ := hs.one
  refine runs_value (w' := w) (v := .agg vs.toArray) ?_ ⟨(), rfl, Step.refl hs fun b hb => (hF b hb).2⟩
  simp only [execOp, hv x _ (List.mem_singleton_self _)]
  subst hvs
  rcases Nat.eq_zero_or_pos n with h0 | h0
  · subst h0
    refine (run_bind_ok P (Instr.loadAt t (BP β k)) _ w w (.agg #[]) ?_).trans (by simp)
    show (loadVar t ⟨β, k, none⟩).run P w = _
    unfold loadVar
    rw [run_bind_ok P _ _ w w true (run_isAgg_ag ht)]
    have := run_bind_ok P (sizeOf t) (fun m => do pure (Value.agg (← loadCells ⟨β, k, none⟩ m))) w w 0 (run_sizeOf hn)
    exact this.trans rfl
  · refine (run_bind_ok P (Instr.loadAt t (BP β k)) _ w w _ (run_loadVar_ag ht hn hh ?_)).trans rfl
    simp at hl ⊢; omega
theorem Wrote.step {w w' : World} {b : Nat} {c : Array Value} {t : TypeId} {F : Fp} {L : List HP} (h : Wrote w w' b c t) (hb : F b) (hF : ∀ b, F b → b < w.heap.size)
    (hs : Sat L w'.heap F) : Step w F w' L :=
  ⟨h.os, h.tape, h.output, by rw [h.size]; exact Nat.le_refl _, fun x hx hf => h.keep x fun e => hf (e ▸ hb), F, hs, fun x hx => ⟨.inl hx, by rw [h.size]; exact hF x hx⟩⟩
theorem OT.storeB {t : TypeId} {x y : Operand} {β k n : Nat} {cs vs : List Value} {v : Value} (hn : Tsz P t = some n) (hvs : v.cells.toList = vs) (hl : vs.length = n)
    (hc : vs.all cellV = true) (hk : Nat.ble (k + n) cs.length = true) :
    OT P w0 Pr ⟨d, .store t x y, ty, ps, af, none⟩ [(x, BP β k), (y, v)] [Box β cs] (ι := Unit) (fun _ => undef) (fun _ => [Box β (splice cs k vs)]) := by
  intro ρ w F hv hs hF hp
  obtain ⟨hf, u, hh⟩ := hs.one
  have hk' : k + n ≤ cs.toArray.size := by simpa [Nat.ble_eq] using hk
  obtain ⟨w', h1, h2⟩ := run_storeVar (P := P) (o := k) hn hvs hl hh hk' hc
  refine runs_skip (w' := w') ?_ ⟨(), rfl, h2.step ((hf β).2 rfl) (fun b hb => (hF b hb).2) (Sat.one' ⟨hf, u, by simpa using h2.new⟩)⟩
  simp only [execOp, hv x (BP β k) (by simp), hv y v (by simp)]
  exact (run_bind_ok P (Instr.storeAt t (BP β k) v) _ w w' () h1).trans rfl
theorem OT.storeC {t : TypeId} {x y : Operand} {β k n : Nat} {cs vs cs' : List Value} {v : Value} (hn : Tsz P t = some n) (hvs : v.cells.toList = vs) (hl : vs.length = n)
    (hc : vs.all cellV = true) (hk : Nat.ble (k + n) cs.length = true) (he : splice cs k vs = cs') :
    OT P w0 Pr ⟨d, .store t x y, ty, ps, af, none⟩ [(x, BP β k), (y, v)] [Box β cs] (ι := Unit) (fun _ => undef) (fun _ => [Box β cs']) := by
  subst he
  exact OT.storeB hn hvs hl hc hk
variable {α β : Type} [Inhabited α]
theorem EP_eq {a : Option Addr} {b off : Nat} (ha : a = some ⟨b, off, none⟩) (i : Int) (sz j : Nat) : EP a i sz j = .pointer (some ⟨b, off + i.toNat * sz + j, none⟩) := by subst ha; rfl
theorem read_sc {t : TypeId} {K : Kd α} {a : Option Addr} {cap : Nat} {xs : List α} {w : World} {G : Fp} {i : Int} {j : Nat} (ht : Tsc P t = true) (hb : BorS K a cap xs w.heap G)
    (h0 : 0 ≤ i) (hi : i < (xs.length : Int)) (hj : j < K.sz) : ∃ cs, K.rd cs (gt xs i) w.heap G ∧ ∃ v, cs[j]? = some v ∧ (Instr.loadAt t (EP a i K.sz j)).run P w = .ok v w := by
  obtain ⟨b, off, c, u, fz, ha, hp, hh, hr⟩ := hb.get h0 hi
  have hl := K.lenr hr
  refine ⟨_, hr, _, List.getElem?_eq_getElem (by rw [hl]; exact hj), ?_⟩
  rw [EP_eq ha]
  refine run_loadVar_sc ht hh ?_
  simp only [List.length_take, List.length_drop] at hl
  rw [List.getElem_take, List.getElem_drop, List.getElem?_eq_getElem]
theorem read_ag {t : TypeId} {K : Kd α} {a : Option Addr} {cap n : Nat} {xs : List α} {w : World} {G : Fp} {i : Int} {j : Nat} (ht : Tag P t = true) (hn : Tsz P t = some n) (hb : BorS K a cap xs w.heap G)
    (h0 : 0 ≤ i) (hi : i < (xs.length : Int)) (hj : j + n ≤ K.sz) (hpos : 0 < n) : ∃ cs, K.rd cs (gt xs i) w.heap G ∧ (Instr.loadAt t (EP a i K.sz j)).run P w = .ok (.agg ((cs.drop j).take n).toArray) w := by
  obtain ⟨b, off, c, u, fz, ha, hp, hh, hr⟩ := hb.get h0 hi
  have hl := K.lenr hr
  refine ⟨_, hr, ?_⟩
  rw [EP_eq ha]
  have hl' : off + i.toNat * K.sz + K.sz ≤ c.toList.length := by
    simp only [List.length_take, List.length_drop] at hl; omega
  refine (run_loadVar_ag ht hn hh (by simp at hl' ⊢; omega)).trans ?_
  rw [List.drop_take, List.drop_drop, List.take_take, Nat.min_eq_left (by omega)]
theorem bor_now {K : Kd α} {a : Option Addr} {cap : Nat} {xs : List α} {w : World} (hb : BorS K a cap xs w0.heap Pr)
    (hp : ∀ b, Pr b → b < w.heap.size ∧ w.heap[b]? = w0.heap[b]?) : BorS K a cap xs w.heap Pr := hb.mono fun b hb => ⟨hb, (hp b hb).2⟩
theorem OT.loadF {t : TypeId} {x : Operand} {n : Nat} {enc : α → List Value} {hl : ∀ x, (enc x).length = n ∧ (enc x).all cellV = true} {a : Option Addr} {cap : Nat} {xs : List α} {i : Int} {j : Nat} {v : Value}
    (ht : Tsc P t = true) (hb : BorS (.flat n enc hl) a cap xs w0.heap Pr) (hi : 0 ≤ i ∧ i < (xs.length : Int)) (hv : (enc (gt xs i))[j]? = some v) :
    OT P w0 Pr ⟨d, .load t x, ty, ps, af, none⟩ [(x, EP a i n j)] [] (ι := Unit) (fun _ => v) (fun _ => []) := by
  intro ρ w F hv' hs hF hp
  have hj : j < n := by rw [← (hl (gt xs i)).1]; exact (List.getElem?_eq_some_iff.1 hv).1
  obtain ⟨cs, hr, u, hu, hrun⟩ := read_sc (P := P) ht (bor_now hb hp) hi.1 hi.2 (j := j) hj
  have e : cs = enc (gt xs i) := hr
  subst e
  obtain rfl := Option.some.inj (hu.symm.trans hv)
  refine runs_value (w' := w) (v := u) ?_ ⟨(), rfl, Step.refl hs fun b hb => (hF b hb).2⟩
  simp only [execOp, hv' x _ (List.mem_singleton_self _)]
  exact (run_bind_ok P (Instr.loadAt t (EP a i n j)) _ w w _ hrun).trans rfl
theorem OT.loadFA {t : TypeId} {x : Operand} {n m : Nat} {enc : α → List Value} {hl : ∀ x, (enc x).length = n ∧ (enc x).all cellV = true} {a : Option Addr} {cap : Nat} {xs : List α} {i : Int} {j : Nat} {vs : List Value}
    (ht : Tag P t = true) (hn : Tsz P t = some m) (hb : BorS (.flat n enc hl) a cap xs w0.heap Pr) (hi : 0 ≤ i ∧ i < (xs.length : Int))
    (hv : ((enc (gt xs i)).drop j).take m = vs) (hj : (Nat.ble (j + m) n && Nat.blt 0 m) = true) :
    OT P w0 Pr ⟨d, .load t x, ty, ps, af, none⟩ [(x, EP a i n j)] [] (ι := Unit) (fun _ => .agg vs.toArray) (fun _ => []) := by
  intro ρ w F hv' hs hF hp
  simp only [Bool.and_eq_true, Nat.ble_eq, Nat.blt_eq] at hj
  obtain ⟨cs, hr, hrun⟩ := read_ag (P := P) ht hn (bor_now hb hp) hi.1 hi.2 (j := j) hj.1 hj.2
  have e : cs = enc (gt xs i) := hr
  subst e; subst hv
  refine runs_value (w' := w) (v := _) ?_ ⟨(), rfl, Step.refl hs fun b hb => (hF b hb).2⟩
  simp only [execOp, hv' x _ (List.mem_singleton_self _)]
  exact (run_bind_ok P (Instr.loadAt t (EP a i n j)) _ w w _ hrun).trans rfl
end
end Go.Proofs.Sx

