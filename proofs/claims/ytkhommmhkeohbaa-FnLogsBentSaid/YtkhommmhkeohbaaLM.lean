/- Part of a program logic; see the notes. -/
import Derived.Test.YtkhommmhkeohbaaLI
namespace Go.Proofs.Sx
open Go.RowKit
set_option linter.unusedVariables false
set_option linter.unusedSimpArgs false
set_option linter.unusedSectionVars false
def mget : List (Int × Int) → Int → Int
  | [], _ => 0
  | (a, b) :: l, n => if n = a then b else mget l n
def mput : List (Int × Int) → Int → Int → List (Int × Int)
  | [], n, v => [(n, v)]
  | (a, b) :: l, n, v => if n = a then (n, v) :: l else (a, b) :: mput l n v
def encM (q : Int × Int) : Value × Value := (.int .i64 q.1, .int .i64 q.2)
def decM (e : MapEntry) : Value × Value := (e.key, e.val)
def MapS (β : Nat) (l : List (Int × Int)) : HP := ⟨fun h F => (∀ b, F b ↔ b = β) ∧ ∃ es clock, h[β]? = some (.map es clock) ∧ es.toList.map decM = l.map encM,
  fun ⟨h1, es, c, h2, h3⟩ hk => ⟨h1, es, c, (hk β ((h1 β).2 rfl)).trans h2, h3⟩⟩
theorem mget_mput {l : List (Int × Int)} {n v m : Int} : mget (mput l n v) m = if m = n then v else mget l m := by
  induction l with
  | nil => simp [mput, mget]
  | cons q l ih =>
    obtain ⟨a, b⟩ := q
    simp only [mput]
    by_cases h : n = a
    · rw [if_pos h]; subst h; simp only [mget]
      by_cases h2 : m = n <;> simp [h2]
    · rw [if_neg h]; simp only [mget, ih]
      by_cases h2 : m = a
      · subst h2; simp [fun e => h e, show ¬ m = n from fun e => h e.symm]
      · simp [h2]
section
variable {P : Program} {w0 : World} {Pr : Fp} {d : Option Tmp} {ty : TypeId} {ps : String} {af : Array Edge}
theorem find_put (n v : Int) : ∀ (l : List (Int × Int)) (el : List MapEntry) (i : Nat), el.map decM = l.map encM →
    (Instr.findNow (.int .i64) (.int .i64 n) el i = some none ∧ mget l n = 0 ∧ mput l n v = l ++ [(n, v)]) ∨
    ∃ j e, Instr.findNow (.int .i64) (.int .i64 n) el i = some (some (i + j, e.val)) ∧ el[j]? = some e ∧ e.key = .int .i64 n ∧ e.val = .int .i64 (mget l n) ∧
      ∀ f : MapEntry → MapEntry, (∀ e, decM (f e) = encM (n, v)) → (el.modify j f).map decM = (mput l n v).map encM
  | [], [], i, _ => .inl ⟨rfl, rfl, rfl⟩
  | [], _ :: _, _, h => by simp at h
  | _ :: _, [], _, h => by simp at h
  | (a, b) :: l, e :: el, i, h => by
    simp only [List.map_cons, List.cons.injEq] at h
    obtain ⟨h1, h2⟩ := h
    simp only [decM, encM, Prod.mk.injEq] at h1
    obtain ⟨hk, hv⟩ := h1
    by_cases hn : n = a
    · subst hn
      refine .inr ⟨0, e, ?_, rfl, hk, by simp [mget, hv], fun f hf => ?_⟩
      · simp [Instr.findNow, Instr.sameNow, hk]
      · simp [mput, hf, h2]
    · have hs : Instr.findNow (.int .i64) (.int .i64 n) (e :: el) i = Instr.findNow (.int .i64) (.int .i64 n) el (i + 1) := by
        have hb : (n == a) = false := by simp [hn]
        simp only [Instr.findNow, Instr.sameNow, hk, if_true, hb]
      rcases find_put n v l el (i + 1) h2 with ⟨q1, q2, q3⟩ | ⟨j, e', q1, q2, q3, q4, q5⟩
      · exact .inl ⟨by rw [hs, q1], by simp [mget, hn, q2], by simp [mput, hn, q3]⟩
      · refine .inr ⟨j + 1, e', by rw [hs, q1]; congr 3; omega, by simpa using q2, q3, by simp [mget, hn, q4], fun f hf => ?_⟩
        simp only [List.modify_succ_cons, List.map_cons, mput, if_neg hn, q5 f hf]
        simp [decM, encM, hk, hv]
theorem run_checkKey {k : TypeId} (hk : P.underlying k = some (.int .i64)) {emp : Bool} {n : Int} {w : World} : (Instr.checkKey emp 10000 k (.int .i64 n)).run P w = .ok () w := by
  unfold Instr.checkKey
  exact (run_bind_ok P _ _ w w _ (run_underlying hk)).trans rfl
theorem OT.makeMap {t : TypeId} : OT P w0 Pr ⟨d, .makeMap t none, ty, ps, af, none⟩ [] [] (ι := Nat) (fun β => .map (some β)) (fun β => [MapS β []]) := by
  intro ρ w F hv hs hF hp
  refine runs_value (w' := { w with heap := w.heap.push (.map #[] 0) }) (v := .map (some w.heap.size)) rfl ⟨w.heap.size, rfl, step_push (fun G hG => ⟨G, ?_, fun b hb => .inr hb⟩) fun b hb => (hF b hb).2⟩
  exact Sat.one' ⟨hG, #[], 0, by simp, rfl⟩
def Tz (P : Program) (t : TypeId) : Option Value := (P.info? t).bind (·.zero)
theorem run_zeroV {t : TypeId} {z : Value} {w : World} (h : Tz P t = some z) : (zeroValue t).run P w = .ok z w := by
  unfold Tz at h
  cases hi : P.info? t with
  | none => rw [hi] at h; cases h
  | some i =>
    rw [hi] at h
    simp at h
    simp [zeroValue, typeInfo, bind, Sem.bind, program, Sem.run, hi, pure, h]
theorem run_getObj {r : Nat} {o : Obj} {w : World} (h : w.heap[r]? = some o) (hc : ∀ c t f, o ≠ .cells c t f) : (getObj r).run P w = .ok o w := by
  unfold getObj
  cases o with
  | cells c t f => exact absurd rfl (hc c t f)
  | _ => simp [Sem.run, h]
theorem run_findKey {k : TypeId} (hk : P.underlying k = some (.int .i64)) {v : Value} {es : List MapEntry} {r : Option (Nat × Value)} {w : World} (h : Instr.findNow (.int .i64) v es 0 = some r) : (Instr.findKey k v es).run P w = .ok r w := by
  unfold Instr.findKey
  refine (run_bind_ok P _ _ w w _ (run_underlying hk)).trans ?_
  simp only [h]; rfl
theorem OT.lookup {t k e : TypeId} {x y : Operand} {β : Nat} {l : List (Int × Int)} {n : Int} (ht : P.underlying t = some (.map k e)) (hk : P.underlying k = some (.int .i64)) (hz : Tz P e = some (.int .i64 0)) :
    OT P w0 Pr ⟨d, .lookup t x y false, ty, ps, af, none⟩ [(x, .map (some β)), (y, .int .i64 n)] [MapS β l] (ι := Unit) (fun _ => .int .i64 (mget l n)) (fun _ => [MapS β l]) := by
  intro ρ w F hv hs hF hp
  obtain ⟨_, es, clock, hh, he⟩ := hs.one
  refine runs_value (w' := w) (v := .int .i64 (mget l n)) ?_ ⟨(), rfl, Step.refl hs fun b hb => (hF b hb).2⟩
  simp only [execOp, hv x (.map (some β)) (by simp), hv y (.int .i64 n) (by simp)]
  refine (run_bind_ok P (Instr.lookup t (.map (some β)) (.int .i64 n) false) _ w w _ ?_).trans rfl
  unfold Instr.lookup
  refine (run_bind_ok P _ _ w w _ (run_underlying ht)).trans ?_
  refine (run_bind_ok P _ _ w w _ (run_getObj hh (by intro c t f h; cases h))).trans ?_
  refine (run_bind_ok P _ _ w w _ (run_checkKey hk)).trans ?_
  rcases find_put n 0 l es.toList 0 he with ⟨q1, q2, q3⟩ | ⟨j, e', q1, q2, q3, q4, q5⟩
  · refine (run_bind_ok P _ _ w w _ (run_findKey hk q1)).trans ?_
    refine (run_bind_ok P _ _ w w _ (run_zeroV hz)).trans (by rw [q2]; rfl)
  · refine (run_bind_ok P _ _ w w _ (run_findKey hk q1)).trans ?_
    rw [q4]; rfl
theorem run_setObj {r : Nat} {o o' : Obj} {w : World} (h : w.heap[r]? = some o) (hc : ∀ c t f, o ≠ .cells c t f) : (setObj r o').run P w = .ok () { w with heap := w.heap.setIfInBounds r o' } := by
  unfold setObj
  cases o with
  | cells c t f => exact absurd rfl (hc c t f)
  | _ => simp [Sem.run, h]
theorem step_map {w : World} {β : Nat} {es : Array MapEntry} {clock : Nat} {es' : Array MapEntry} {clock' : Nat} {l : List (Int × Int)} {F : Fp} (hf : ∀ b, F b ↔ b = β) (hh : w.heap[β]? = some (.map es clock)) (hF : ∀ b, F b → b < w.heap.size)
    (he : es'.toList.map decM = l.map encM) : Step w F { w with heap := w.heap.setIfInBounds β (.map es' clock') } [MapS β l] := by
  refine ⟨rfl, rfl, rfl, by simp, fun b hb hn => ?_, F, Sat.one' ⟨hf, es', clock', ?_, he⟩, fun b hb => ⟨.inl hb, by simpa using hF b hb⟩⟩
  · have : b ≠ β := fun e => hn ((hf b).2 e)
    simp only [Array.getElem?_setIfInBounds]
    rw [if_neg (fun e => this e.symm)]
  · simp only [Array.getElem?_setIfInBounds, if_true]
    rw [if_pos (heap_lt hh)]
theorem run_mapUpdate {t k e : TypeId} {β : Nat} {l : List (Int × Int)} {n v : Int} {w : World} {F : Fp} (ht : P.underlying t = some (.map k e)) (hk : P.underlying k = some (.int .i64)) (hs : (MapS β l).p w.heap F) (hF : ∀ b, F b → b < w.heap.size) :
    ∃ w', (Instr.mapUpdate t (.map (some β)) (.int .i64 n) (.int .i64 v)).run P w = .ok () w' ∧ Step w F w' [MapS β (mput l n v)] := by
  obtain ⟨hf, es, clock, hh, he⟩ := hs
  have hnc : ∀ c t f, Obj.map es clock ≠ .cells c t f := by intro c t f h; cases h
  rcases find_put n v l es.toList 0 he with ⟨q1, q2, q3⟩ | ⟨j, e', q1, q2, q3, q4, q5⟩
  · refine ⟨_, ?_, step_map (es' := es.push { key := .int .i64 n, val := .int .i64 v, born := clock }) (clock' := clock + 1) hf hh hF (by simp [he, q3, decM, encM])⟩
    unfold Instr.mapUpdate
    refine (run_bind_ok P _ _ w w _ (run_underlying ht)).trans ?_
    refine (run_bind_ok P _ _ w w _ (run_getObj hh hnc)).trans ?_
    refine (run_bind_ok P _ _ w w _ (run_checkKey hk)).trans ?_
    refine (run_bind_ok P _ _ w w _ (run_findKey hk q1)).trans ?_
    exact run_setObj hh hnc
  · refine ⟨_, ?_, step_map (es' := es.modify j fun e => { e with key := .int .i64 n, val := .int .i64 v }) (clock' := clock) hf hh hF ?_⟩
    · unfold Instr.mapUpdate
      refine (run_bind_ok P _ _ w w _ (run_underlying ht)).trans ?_
      refine (run_bind_ok P _ _ w w _ (run_getObj hh hnc)).trans ?_
      refine (run_bind_ok P _ _ w w _ (run_checkKey hk)).trans ?_
      refine (run_bind_ok P _ _ w w _ (run_findKey hk q1)).trans ?_
      simp only [Nat.zero_add]
      refine (run_bind_ok P _ _ w w (.int .i64 n) ?_).trans (run_setObj hh hnc)
      have : es[j]? = some e' := by rw [← Array.getElem?_toList]; exact q2
      simp only [Instr.keyThatStays, this, Option.map_some, Option.getD_some, q3, Instr.sameBits, BEq.rfl, Bool.and_self, if_true]
      rfl
    · rw [Array.toList_modify]
      exact q5 _ fun e => rfl
theorem OT.mapUpdate {t k e : TypeId} {x y z : Operand} {β : Nat} {l : List (Int × Int)} {n v : Int} (ht : P.underlying t = some (.map k e)) (hk : P.underlying k = some (.int .i64)) :
    OT P w0 Pr ⟨d, .mapUpdate t x y z, ty, ps, af, none⟩ [(x, .map (some β)), (y, .int .i64 n), (z, .int .i64 v)] [MapS β l] (ι := Unit) (fun _ => undef) (fun _ => [MapS β (mput l n v)]) := by
  intro ρ w F hv hs hF hp
  obtain ⟨w', h1, h2⟩ := run_mapUpdate (P := P) (n := n) (v := v) ht hk hs.one (fun b hb => (hF b hb).2)
  refine runs_skip (w' := w') ?_ ⟨(), rfl, h2⟩
  simp only [execOp, hv x (.map (some β)) (by simp), hv y (.int .i64 n) (by simp), hv z (.int .i64 v) (by simp)]
  exact (run_bind_ok P (Instr.mapUpdate t (.map (some β)) (.int .i64 n) (.int .i64 v)) _ w w' () h1).trans rfl
theorem Pu.rem8 {t u : TypeId} {x y : Operand} {m n : Int} (h : n ≠ 0) : Pu P ⟨d, .binOp .rem t x y u, ty, ps, af, none⟩ [(x, .int .u8 m), (y, .int .u8 n)] (.int .u8 (m.tmod n)) :=
  Pu.bin (fun _ => eqGuard_int) fun w => by
    simp only [binOp]
    show (Op.intDiv .rem .u8 m n).run P w = _
    simp only [Op.intDiv, if_neg h]; rfl
end
end Go.Proofs.Sx

