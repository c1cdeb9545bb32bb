/- Part of a program logic; see the notes. -/
import Derived.Test.YtkhommmhkeohbaaL3
namespace Go.Proofs.Sx
open Go.RowKit
set_option linter.unusedVariables false
set_option linter.unusedSimpArgs false
def Tsz (P : Program) (t : TypeId) : Option Nat := (P.info? t).map (·.size)
def Tby (P : Program) (t : TypeId) : Option Nat := (P.info? t).map (·.bytes)
def Tzc (P : Program) (t : TypeId) : Option (List Value) := (P.info? t).bind fun i => i.zero.map fun z => z.cells.toList
def Tsc (P : Program) (t : TypeId) : Bool := match P.underlying t with
  | none | some (.struct _) | some (.array _ _) => false
  | _ => true
def Tag (P : Program) (t : TypeId) : Bool := match P.underlying t with
  | some (.struct _) | some (.array _ _) => true
  | _ => false
section
variable {P : Program} {w : World}
theorem run_sizeOf {t : TypeId} {n : Nat} (h : Tsz P t = some n) : (sizeOf t).run P w = .ok n w := by
  unfold Tsz at h
  cases hi : P.info? t with
  | none => rw [hi] at h; cases h
  | some i =>
    rw [hi] at h
    obtain rfl := Option.some.inj h
    simp [sizeOf, typeInfo, bind, Sem.bind, program, Sem.run, hi, pure]
theorem run_bytes {t : TypeId} {n : Nat} (h : Tby P t = some n) : ∃ i, (typeInfo t).run P w = .ok i w ∧ i.bytes = n := by
  unfold Tby at h
  cases hi : P.info? t with
  | none => rw [hi] at h; cases h
  | some i =>
    rw [hi] at h
    exact ⟨i, by simp [typeInfo, bind, Sem.bind, program, Sem.run, hi, pure], Option.some.inj h⟩
theorem run_zero {t : TypeId} {zs : List Value} (h : Tzc P t = some zs) : ∃ z, (zeroValue t).run P w = .ok z w ∧ z.cells.toList = zs := by
  unfold Tzc at h
  cases hi : P.info? t with
  | none => rw [hi] at h; cases h
  | some i =>
    rw [hi] at h
    cases hz : i.zero with
    | none => simp [hz] at h
    | some z =>
      simp [hz] at h
      exact ⟨z, by simp [zeroValue, typeInfo, bind, Sem.bind, program, Sem.run, hi, pure, hz], h⟩
theorem run_underlying {t : TypeId} {d : TypeDesc} (h : P.underlying t = some d) : (underlying t).run P w = .ok d w := by
  simp [underlying, bind, Sem.bind, program, Sem.run, h, pure]
theorem run_isAgg_sc {t : TypeId} (h : Tsc P t = true) : (isAgg t).run P w = .ok false w := by
  unfold Tsc at h
  cases hd : P.underlying t with
  | none => rw [hd] at h; cases h
  | some d =>
    rw [hd] at h
    unfold isAgg
    rw [run_bind_ok P _ _ w w d (run_underlying hd)]
    cases d <;> first | rfl | (cases h; done)
theorem run_isAgg_ag {t : TypeId} (h : Tag P t = true) : (isAgg t).run P w = .ok true w := by
  unfold Tag at h
  cases hd : P.underlying t with
  | none => rw [hd] at h; cases h
  | some d =>
    rw [hd] at h
    unfold isAgg
    rw [run_bind_ok P _ _ w w d (run_underlying hd)]
    cases d <;> first | rfl | (cases h; done)
theorem Addr.add_eq (b o n : Nat) : (Addr.add ⟨b, o, none⟩ n) = ⟨b, o + n, none⟩ := by
  unfold Addr.add; split
  · rename_i h; subst h; rfl
  · rfl
theorem cell_at {b o : Nat} {c : Array Value} {ty : TypeId} {fz : Nat × Nat} {v : Value} (h : w.heap[b]? = some (.cells c ty fz)) (hv : c.toList[o]? = some v) :
    w.cell? ⟨b, o, none⟩ = some v := by
  simp only [World.cell?, h]
  simpa using hv
theorem run_load {b o : Nat} {c : Array Value} {ty : TypeId} {fz : Nat × Nat} {v : Value} (h : w.heap[b]? = some (.cells c ty fz)) (hv : c.toList[o]? = some v) :
    (load ⟨b, o, none⟩).run P w = .ok v w := by
  simp [load, Sem.run, cell_at h hv]
theorem run_loadCellsFrom {b o : Nat} {c : Array Value} {ty : TypeId} {fz : Nat × Nat} (h : w.heap[b]? = some (.cells c ty fz)) : ∀ (n i : Nat) (acc : Array Value),
    o + i + n ≤ c.size → (loadCellsFrom ⟨b, o, none⟩ i n acc).run P w = .ok (acc ++ ((c.toList.drop (o + i)).take n).toArray) w
  | 0, i, acc, _ => by simp [loadCellsFrom, pure, Sem.run]
  | n + 1, i, acc, hn => by
    have hlt : o + i < c.toList.length := by simp; omega
    rw [loadCellsFrom, Addr.add_eq, run_bind_ok P _ _ w w _ (run_load h (List.getElem?_eq_getElem hlt))]
    rw [run_loadCellsFrom h n (i + 1) _ (by omega)]
    rw [List.drop_eq_getElem_cons hlt, List.take_succ_cons]
    congr 1
    apply Array.ext'
    simp [Nat.add_assoc]
theorem run_loadCells {b o n : Nat} {c : Array Value} {ty : TypeId} {fz : Nat × Nat} (h : w.heap[b]? = some (.cells c ty fz)) (hn : o + n ≤ c.size) :
    (loadCells ⟨b, o, none⟩ n).run P w = .ok ((c.toList.drop o).take n).toArray w := by
  have := run_loadCellsFrom (P := P) (o := o) h n 0 #[] (by omega)
  simpa [loadCells] using this
theorem run_loadVar_sc {t : TypeId} {b o : Nat} {c : Array Value} {ty : TypeId} {fz : Nat × Nat} {v : Value} (ht : Tsc P t = true) (h : w.heap[b]? = some (.cells c ty fz))
    (hv : c.toList[o]? = some v) : (loadVar t ⟨b, o, none⟩).run P w = .ok v w := by
  unfold loadVar
  rw [run_bind_ok P _ _ w w false (run_isAgg_sc ht)]
  exact run_load h hv
theorem run_loadVar_ag {t : TypeId} {b o n : Nat} {c : Array Value} {ty : TypeId} {fz : Nat × Nat} (ht : Tag P t = true) (hn : Tsz P t = some n) (h : w.heap[b]? = some (.cells c ty fz))
    (hv : o + n ≤ c.size) : (loadVar t ⟨b, o, none⟩).run P w = .ok (.agg ((c.toList.drop o).take n).toArray) w := by
  unfold loadVar
  rw [run_bind_ok P _ _ w w true (run_isAgg_ag ht)]
  show (Sem.bind _ _).run P w = _
  have := run_bind_ok P (sizeOf t) (fun m => do pure (Value.agg (← loadCells ⟨b, o, none⟩ m))) w w n (run_sizeOf hn)
  refine this.trans ?_
  rw [run_bind_ok P _ _ w w _ (run_loadCells h hv)]; rfl
def splice (cs : List Value) (o : Nat) (vs : List Value) : List Value := cs.take o ++ vs ++ cs.drop (o + vs.length)
theorem splice_length {cs : List Value} {o : Nat} {vs : List Value} (h : o + vs.length ≤ cs.length) : (splice cs o vs).length = cs.length := by
  simp [splice]; omega
structure Wrote (w w' : World) (b : Nat) (c : Array Value) (ty : TypeId) : Prop where
  os : w'.os = w.os
  tape : w'.tape = w.tape
  output : w'.output = w.output
  size : w'.heap.size = w.heap.size
  new : w'.heap[b]? = some (.cells c ty (0, 0))
  keep : ∀ x, x ≠ b → w'.heap[x]? = w.heap[x]?
theorem run_store {b o : Nat} {c : Array Value} {ty : TypeId} {v : Value} (h : w.heap[b]? = some (.cells c ty (0, 0))) (ho : o < c.size) (hv : cellV v = true) :
    ∃ w', (store ⟨b, o, none⟩ v).run P w = .ok () w' ∧ Wrote w w' b (c.setIfInBounds o v) ty := by
  have hb : b < w.heap.size := by
    rcases Nat.lt_or_ge b w.heap.size with h' | h'
    · exact h'
    · rw [Array.getElem?_eq_none h'] at h; cases h
  refine ⟨w.setCell ⟨b, o, none⟩ v, ?_, rfl, rfl, rfl, by simp [World.setCell], ?_, fun x hx => ?_⟩
  · have hc : w.cell? ⟨b, o, none⟩ = some c[o] := cell_at h (by simp [ho])
    have hf : w.frozen? ⟨b, o, none⟩ = false := by simp [World.frozen?, h]
    cases v <;> first
      | (cases hv; done)
      | simp [store, Sem.run, hc, hf]
  · simp only [World.setCell, Array.getElem?_modify, if_true, h]; rfl
  · simp only [World.setCell, Array.getElem?_modify]
    rw [if_neg (fun e => hx e.symm)]
theorem Wrote.trans {w1 w2 w3 : World} {b : Nat} {c c' : Array Value} {ty ty' : TypeId} (h : Wrote w1 w2 b c ty) (k : Wrote w2 w3 b c' ty') : Wrote w1 w3 b c' ty' :=
  ⟨k.os.trans h.os, k.tape.trans h.tape, k.output.trans h.output, k.size.trans h.size, k.new, fun x hx => (k.keep x hx).trans (h.keep x hx)⟩
theorem run_storeCells {b o : Nat} {ty : TypeId} : ∀ {vs : List Value} {i : Nat} {w : World} {c : Array Value}, w.heap[b]? = some (.cells c ty (0, 0)) → o + i + vs.length ≤ c.size →
    vs.all cellV = true → ∃ w', (storeCells ⟨b, o, none⟩ vs i).run P w = .ok () w' ∧ Wrote w w' b (splice c.toList (o + i) vs).toArray ty
  | [], i, w, c, h, _, _ => ⟨w, rfl, rfl, rfl, rfl, rfl, by simp [splice, h], fun _ _ => rfl⟩
  | v :: vs, i, w, c, h, hl, hv => by
    simp only [List.all_cons, Bool.and_eq_true, List.length_cons] at hv hl
    obtain ⟨w1, h1, hw1⟩ := run_store (P := P) (o := o + i) h (by omega) hv.1
    obtain ⟨w2, h2, hw2⟩ := run_storeCells (o := o) (vs := vs) (i := i + 1) (w := w1) hw1.new (by simp; omega) hv.2
    refine ⟨w2, ?_, ?_⟩
    · rw [storeCells, Addr.add_eq]
      exact (run_bind_ok P _ _ w w1 () h1).trans h2
    · have := hw1.trans hw2
      have e : splice (c.setIfInBounds (o + i) v).toList (o + (i + 1)) vs = splice c.toList (o + i) (v :: vs) := by
        simp only [splice, Array.toList_setIfInBounds, List.length_cons]
        rw [show o + (i + 1) = o + i + 1 by omega, List.take_set, List.drop_set_of_lt (by omega)]
        rw [List.take_succ_eq_append_getElem (by simp; omega), List.set_append_right _ _ (by simp; omega)]
        simp
        rw [show min (o + i) c.size = o + i by omega]
        simp
        congr 1; omega
      rw [e] at this; exact this
theorem run_storeVar {t : TypeId} {b o n : Nat} {c : Array Value} {ty : TypeId} {v : Value} {vs : List Value} (hn : Tsz P t = some n) (hvs : v.cells.toList = vs) (hl : vs.length = n)
    (h : w.heap[b]? = some (.cells c ty (0, 0))) (ho : o + n ≤ c.size) (hv : vs.all cellV = true) :
    ∃ w', (storeVar t ⟨b, o, none⟩ v).run P w = .ok () w' ∧ Wrote w w' b (splice c.toList o vs).toArray ty := by
  subst hvs
  obtain ⟨w', h1, h2⟩ := run_storeCells (P := P) (o := o) (i := 0) h (by omega) hv
  refine ⟨w', ?_, h2⟩
  unfold storeVar
  rw [run_bind_ok P _ _ w w n (run_sizeOf hn)]
  have : v.cells.size = n := by simpa using hl
  rw [if_neg (by omega)]
  exact h1
end
end Go.Proofs.Sx

