/- Part of a program logic; see the notes. -/
import Derived.Test.YtkhommmhkeohbaaL5
namespace Go.Proofs.Sx
open Go.RowKit
set_option linter.unusedVariables false
set_option linter.unusedSimpArgs false
set_option linter.unusedSectionVars false
def Tfo (P : Program) (s : TypeId) (f : Nat) : Option Nat := match P.underlying s with
  | some (.struct fs) => match fs[f]? with
    | some fd => match Tsz P fd.type with
      | some 0 => none
      | some _ => some fd.offset
      | none => none
    | none => none
  | _ => none
section
variable {P : Program} {w0 : World} {Pr : Fp} {d : Option Tmp} {ty : TypeId} {ps : String} {af : Array Edge}
theorem run_fieldAt {s : TypeId} {f off : Nat} {b o : Nat} {w : World} (h : Tfo P s f = some off) :
    (Instr.fieldAt s (.pointer (some ⟨b, o, none⟩)) f).run P w = .ok (.pointer (some ⟨b, o + off, none⟩)) w := by
  unfold Tfo at h
  split at h <;> try (cases h; done)
  rename_i fs hs
  split at h <;> try (cases h; done)
  rename_i fd hf
  split at h <;> try (cases h; done)
  rename_i n hnz hn
  obtain rfl := Option.some.inj h
  unfold Instr.fieldAt
  rw [run_bind_ok P _ _ w w _ (run_underlying hs)]
  simp only [hf]
  show (Sem.bind _ _).run P w = _
  refine (run_bind_ok P (fieldPlace ⟨b, o, none⟩ fd) _ w w ⟨b, o + fd.offset, none⟩ ?_).trans rfl
  unfold fieldPlace
  rw [run_bind_ok P _ _ w w n (run_sizeOf hn)]
  rw [if_neg hnz, Addr.add_eq]; rfl
theorem Pu.fieldB {s : TypeId} {f off : Nat} {x : Operand} {β k k' : Nat} (h : Tfo P s f = some off) (hk : k + off = k') :
    Pu P ⟨d, .fieldAddr s x f, ty, ps, af, none⟩ [(x, BP β k)] (BP β k') := fun ρ w hv => by
  subst hk
  simp only [execOp, hv x _ (List.mem_singleton_self _)]
  exact (run_bind_ok P (Instr.fieldAt s (BP β k) f) _ w w _ (run_fieldAt h)).trans rfl
theorem Pu.fieldE {s : TypeId} {f off : Nat} {x : Operand} {a : Option Addr} {i : Int} {sz j j' : Nat} (h : Tfo P s f = some off) (hk : j + off = j') :
    Pu P ⟨d, .fieldAddr s x f, ty, ps, af, none⟩ [(x, EP a i sz j)] (EP a i sz j') := fun ρ w hv => by
  subst hk
  simp only [execOp, hv x _ (List.mem_singleton_self _)]
  refine (run_bind_ok P (Instr.fieldAt s (EP a i sz j) f) _ w w _ (run_fieldAt h)).trans ?_
  simp only [EP, Nat.add_assoc]; rfl
theorem run_indexAt {t e : TypeId} {sz : Nat} {a : Option Addr} {n c : Nat} {k : IntKind} {i : Int} {b off : Nat} {w : World} (ht : P.underlying t = some (.slice e)) (hsz : Tsz P e = some sz)
    (ha : a = some ⟨b, off, none⟩) (h0 : 0 ≤ i) (hi : i < (n : Int)) : (Instr.indexAt t (.slice a n c) (.int k i)).run P w = .ok (EP a i sz 0) w := by
  subst ha
  unfold Tsz at hsz
  cases he : P.info? e with
  | none => rw [he] at hsz; cases hsz
  | some inf =>
    rw [he] at hsz
    obtain rfl := Option.some.inj hsz
    simp [Instr.indexAt, asIntOf, underlying, sizeOf, typeInfo, bind, Sem.bind, program, Sem.run, pure, ht, he, h0, hi, Addr.add_eq, EP]
variable {α β : Type} [Inhabited α]
theorem BorS.some {K : Kd α} {a : Option Addr} {cap : Nat} {xs : List α} {h : Heap} {F : Fp} (hb : BorS K a cap xs h F) {i : Int} (h0 : 0 ≤ i) (hi : i < (xs.length : Int)) :
    ∃ b off, a = some ⟨b, off, none⟩ := by
  obtain ⟨b, off, _, _, _, ha, _⟩ := hb.get h0 hi
  exact ⟨b, off, ha⟩
theorem OT.indexB {t e : TypeId} {sz : Nat} {x y : Operand} {K : Kd α} {a : Option Addr} {cap : Nat} {xs : List α} {k : IntKind} {i : Int} (ht : P.underlying t = some (.slice e)) (hsz : Tsz P e = some sz)
    (hb : BorS K a cap xs w0.heap Pr) (hi : 0 ≤ i ∧ i < (xs.length : Int)) :
    OT P w0 Pr ⟨d, .indexAddr t x y, ty, ps, af, none⟩ [(x, .slice a xs.length cap), (y, .int k i)] [] (ι := Unit) (fun _ => EP a i sz 0) (fun _ => []) := by
  intro ρ w F hv hs hF hp
  obtain ⟨b, off, ha⟩ := hb.some hi.1 hi.2
  refine runs_value (w' := w) (v := EP a i sz 0) ?_ ⟨(), rfl, Step.refl hs fun b hb => (hF b hb).2⟩
  simp only [execOp, hv x (.slice a xs.length cap) (by simp), hv y (.int k i) (by simp)]
  exact (run_bind_ok P _ _ w w _ (run_indexAt ht hsz ha hi.1 hi.2)).trans rfl
theorem OT.indexO {t e : TypeId} {sz : Nat} {x y : Operand} {K : Kd α} {a : Option Addr} {cap : Nat} {xs : List α} {k : IntKind} {i : Int} (ht : P.underlying t = some (.slice e)) (hsz : Tsz P e = some sz)
    (hi : 0 ≤ i ∧ i < (xs.length : Int)) :
    OT P w0 Pr ⟨d, .indexAddr t x y, ty, ps, af, none⟩ [(x, .slice a xs.length cap), (y, .int k i)] [OwnS K a cap xs] (ι := Unit) (fun _ => EP a i sz 0) (fun _ => [OwnS K a cap xs]) := by
  intro ρ w F hv hs hF hp
  obtain ⟨b, off, ha⟩ := (OwnS.bor hs.one).some hi.1 hi.2
  refine runs_value (w' := w) (v := EP a i sz 0) ?_ ⟨(), rfl, Step.refl hs fun b hb => (hF b hb).2⟩
  simp only [execOp, hv x (.slice a xs.length cap) (by simp), hv y (.int k i) (by simp)]
  exact (run_bind_ok P _ _ w w _ (run_indexAt ht hsz ha hi.1 hi.2)).trans rfl
omit [Inhabited α] in
theorem Els.focus {K : Kd α} : ∀ {xs : List α} {cs : List Value} {h : Heap} {F : Fp}, (Els K cs xs).p h F → ∀ i (hi : i < xs.length),
    ∃ F1 F2, Spl F F1 F2 ∧ (K.own ((cs.drop (i * K.sz)).take K.sz) xs[i]).p h F1 ∧
      ∀ (h' : Heap) x' ch' F1', (∀ b, F2 b → h'[b]? = h[b]?) → (K.own ch' x').p h' F1' → (∀ b, F1' b → ¬ F2 b) →
        (Els K (splice cs (i * K.sz) ch') (xs.set i x')).p h' (fun b => F1' b ∨ F2 b)
  | [], _, _, _, _, i, hi => by simp at hi
  | x :: xs, cs, h, F, ⟨F1, F2, sp, h1, h2⟩, 0, _ => by
    refine ⟨F1, F2, sp, by simpa using h1, fun h' x' ch' F1' hk ho hd => ?_⟩
    have hl := K.len ho
    have hl1 := K.len h1
    refine ⟨F1', F2, ⟨fun b => Iff.rfl, hd⟩, ?_, ?_⟩
    · simpa [splice, ← hl] using ho
    · have : (splice cs (0 * K.sz) ch').drop K.sz = cs.drop K.sz := by
        rw [Nat.zero_mul]
        simp only [splice, List.take_zero, List.nil_append, Nat.zero_add, hl]
        exact List.drop_left' hl
      rw [this]
      exact (Els K _ xs).loc h2 hk
  | x :: xs, cs, h, F, ⟨F1, F2, sp, h1, h2⟩, i + 1, hi => by
    obtain ⟨G1, G2, sq, k1, k2⟩ := Els.focus h2 i (by simpa using hi)
    have e : K.sz + i * K.sz = (i + 1) * K.sz := by rw [Nat.add_mul]; omega
    have hl1 := K.len h1
    refine ⟨G1, fun b => F1 b ∨ G2 b, ⟨fun b => ?_, fun b hb hx => ?_⟩, ?_, fun h' x' ch' F1' hk ho hd => ?_⟩
    · rw [sp.1 b, sq.1 b]; constructor <;> (rintro (h | h | h) <;> simp [h])
    · rcases hx with hx | hx
      · exact sp.2 b hx (sq.left hb)
      · exact sq.2 b hb hx
    · rw [List.drop_drop, e] at k1; simpa using k1
    · have hh := k2 h' x' ch' F1' (fun b hb => hk b (.inr hb)) ho (fun b hb hx => hd b hb (.inr hx))
      have hl : K.sz ≤ cs.length := by simp only [List.length_take] at hl1; omega
      refine ⟨F1, fun b => F1' b ∨ G2 b, ⟨fun b => ?_, fun b hb hx => ?_⟩, ?_, ?_⟩
      · constructor <;> (rintro (h | h | h) <;> simp [h])
      · rcases hx with hx | hx
        · exact hd b hx (.inl hb)
        · exact sp.2 b hb (sq.right hx)
      · have : (splice cs ((i + 1) * K.sz) ch').take K.sz = cs.take K.sz := by
          simp only [splice, ← e]
          rw [List.append_assoc, List.take_append_of_le_length (by simp; omega), List.take_take, Nat.min_eq_left (by omega)]
        rw [this]
        exact (K.own _ x).loc h1 fun b hb => hk b (.inl hb)
      · have : (splice cs ((i + 1) * K.sz) ch').drop K.sz = splice (cs.drop K.sz) (i * K.sz) ch' := by
          simp only [splice, ← e]
          rw [List.append_assoc, List.drop_append_of_le_length (by simp; omega), List.drop_take, List.drop_drop]
          simp only [List.append_assoc, Nat.add_sub_cancel_left, Nat.add_assoc]
        rw [this]
        exact hh
omit [Inhabited α] in
theorem OwnS.write {K : Kd α} {a : Option Addr} {cap : Nat} {xs : List α} {w w' : World} {F : Fp} {i : Nat} {j : Nat} {vs : List Value} {b off : Nat}
    (ho : (OwnS K a cap xs).p w.heap F) (hi : i < xs.length) (ha : a = some ⟨b, off, none⟩) (hj : j + vs.length ≤ K.sz) :
    ∃ c t, w.heap[b]? = some (.cells c t (0, 0)) ∧ off + i * K.sz + j + vs.length ≤ c.size ∧ F b ∧ ∃ (cs : List Value) (F1 F2 : Fp), (K.own cs xs[i]).p w.heap F1 ∧ (∀ x, F1 x → F x) ∧ (∀ x, F2 x → F x) ∧ ¬ F1 b ∧ ¬ F2 b ∧ (∀ x, F1 x → ¬ F2 x) ∧
      ∀ w', Wrote w w' b (splice c.toList (off + i * K.sz + j) vs).toArray t → ∀ x' F1', (K.own (splice cs j vs) x').p w'.heap F1' → (∀ x, F1' x → ¬ F2 x ∧ x ≠ b) →
        (OwnS K a cap (xs.set i x')).p w'.heap (fun x => x = b ∨ F1' x ∨ F2 x) := by
  rcases ho with ⟨_, hc, hx, _⟩ | ⟨b', off', c, t, F2, ha', hh, hl, hc, hs, he⟩
  · subst hx; simp at hi
  · rw [ha] at ha'
    obtain ⟨rfl, rfl, _⟩ := Addr.mk.inj (Option.some.inj ha')
    obtain ⟨G1, G2, sq, k1, k2⟩ := Els.focus he i hi
    have hcl := K.len k1
    have hsz : off + i * K.sz + K.sz ≤ c.size := by
      have : (i + 1) * K.sz ≤ cap * K.sz := Nat.mul_le_mul_right _ (by omega)
      rw [Nat.add_mul] at this; omega
    refine ⟨c, t, hh, by omega, hs.left rfl, _, G1, G2, k1, fun x hx => hs.right (sq.left hx), fun x hx => hs.right (sq.right hx), fun h => hs.2 b rfl (sq.left h), fun h => hs.2 b rfl (sq.right h), sq.2, ?_⟩
    intro w' hw x' F1' hx' hd
    have hk := k2 w'.heap x' _ F1' (fun x hx => hw.keep x fun e => hs.2 b rfl (e ▸ sq.right hx)) hx' (fun x hx => (hd x hx).1)
    refine .inr ⟨b, off, _, t, fun x => F1' x ∨ G2 x, ha, hw.new, by simpa using hl, ?_, ⟨fun x => Iff.rfl, ?_⟩, ?_⟩
    · simp only [List.size_toArray]
      rw [splice_length (by simp; omega)]; simpa using hc
    · rintro x rfl (hx | hx)
      · exact (hd x hx).2 rfl
      · exact hs.2 x rfl (sq.right hx)
    · have : (splice c.toList (off + i * K.sz + j) vs).toArray.toList.drop off = splice (c.toList.drop off) (i * K.sz) (splice (((c.toList.drop off).drop (i * K.sz)).take K.sz) j vs) := by
        have hL : c.toList.length = c.size := by simp
        generalize c.toList = L at hL ⊢
        simp only [splice, List.length_append, List.length_take, List.length_drop]
        have e1 : min j (min K.sz (L.length - off - i * K.sz)) + vs.length + (min K.sz (L.length - off - i * K.sz) - (j + vs.length)) = K.sz := by omega
        rw [e1]
        rw [List.append_assoc, List.drop_append_of_le_length (by simp; omega), List.drop_take]
        simp only [List.drop_drop, List.drop_take, List.take_take, List.append_assoc]
        have e2 : off + i * K.sz + j - off = i * K.sz + j := by omega
        rw [e2, List.take_add, List.drop_drop, List.append_assoc]
        congr 1
        have e3 : min j K.sz = j := by omega
        rw [e3]
        congr 2
        rw [← List.take_append_drop (K.sz - (j + vs.length)) (List.drop (off + i * K.sz + j + vs.length) L), List.drop_drop]
        congr 2
        · congr 1; omega
        · omega
      rw [this]; exact hk
end
end Go.Proofs.Sx

