/- Part of a program logic; see the notes. -/
import Derived.Test.YtkhommmhkeohbaaLC
import Derived.Orders
namespace Go.Proofs.Sx
open Go.RowKit
set_option linter.unusedVariables false
set_option linter.unusedSimpArgs false
set_option linter.unusedSectionVars false
def optB (p : Option Nat) (i : Nat) : Bool := match p with
  | some j => Nat.beq j i
  | none => false
theorem optB_iff {p : Option Nat} {i : Nat} : optB p i = true ↔ p = some i := by
  cases p with
  | none => simp [optB]
  | some j => simp [optB]
structure DOp where
  needs : List Nat
  makes : List Nat
  ins : List Nat
structure DRes where
  prod : Option Nat
  cons : Option Nat
def avail (R : List DRes) (S : Nat → Bool) (r : Nat) : Bool := match R[r]? with
  | none => false
  | some x => (match x.prod with | some i => S i | none => true) && (match x.cons with | some i => !S i | none => true)
def dstOf (ops : Array Oper) (i : Nat) : Option Nat := (ops[i]?).bind (·.dst)
def envOf (ops : Array Oper) (vals : List Value) (js : List Nat) : Env := js.filterMap fun j => match dstOf ops j, vals[j]? with
  | some d, some v => some (d, v)
  | _, _ => none
def pickR (L : List HP) (ids : List Nat) : List HP := ids.filterMap fun r => L[r]?
def sameBut : List DRes → Nat → List HP → List HP → Prop
  | x :: R, i, a :: as, b :: bs => (bif optB x.prod i then b else a) = b ∧ sameBut R i as bs
  | [], _, [], [] => True
  | _, _, _, _ => False
def resOk (B : Array Nat) (D : List DOp) (m r : Nat) (x : DRes) : Bool :=
  (match x.prod with | some p => Nat.blt p m && (match D[p]? with | some o => has o.makes r && !has o.needs r | none => false) | none => true) &&
  (match x.cons with
   | some c => Nat.blt c m && (match D[c]? with | some o => has o.needs r && !has o.makes r | none => false) && (match x.prod with | some p => (B.getD c 0).testBit p | none => true)
   | none => true)
def needOk (B : Array Nat) (R : List DRes) (i : Nat) (o : DOp) (r : Nat) : Bool := match R[r]? with
  | none => false
  | some x => (match x.prod with | some p => (B.getD i 0).testBit p | none => true) &&
      (match x.cons with | some c => Nat.beq c i || (B.getD c 0).testBit i | none => true) &&
      (has o.makes r || optB x.cons i)
def makeOk (B : Array Nat) (R : List DRes) (i : Nat) (o : DOp) (r : Nat) : Bool := match R[r]? with
  | none => false
  | some x => (has o.needs r && !optB x.cons i) || (!has o.needs r && optB x.prod i)
def opOk (ops : Array Oper) (B : Array Nat) (R : List DRes) (E0 : Env) (N m i : Nat) (o : DOp) : Bool :=
  nodupB o.needs && nodupB o.makes && o.needs.all (needOk B R i o) && o.makes.all (makeOk B R i o) && o.ins.all (fun j => Nat.blt j m && (B.getD i 0).testBit j) &&
  (match dstOf ops i with
   | some d => Nat.blt d N && (look E0 d).isNone && (List.range m).all fun j => Nat.beq j i || !optB (dstOf ops j) d
   | none => true)
def edgesOk (ops : Array Oper) : Bool := (List.range ops.size).all fun i => match ops[i]? with
  | some o => o.after.all fun e => !Region.binds .any e || Nat.blt e.on i
  | none => true
def chk (ops : Array Oper) (N m : Nat) (E0 : Env) (D : List DOp) (R : List DRes) : Bool :=
  let B := Region.before ops
  edgesOk ops && Nat.ble m ops.size && Nat.beq D.length m && (D.zipIdx.all fun (o, i) => opOk ops B R E0 N m i o) && (R.zipIdx.all fun (x, r) => resOk B D m r x) &&
  ((List.range ops.size).all fun i => Nat.blt i m || (List.range i).all fun j => (B.getD i 0).testBit j)
section before
variable {ops : Array Oper}
theorem before_closed (S : Nat → Bool) (hS : ∀ i o, S i = true → ops[i]? = some o → ∀ e ∈ o.after, Region.binds .any e = true → S e.on = true) :
    ∀ i, (S i = true ∨ ∃ o, ops[i]? = some o ∧ ∀ e ∈ o.after, Region.binds .any e = true → S e.on = true) → ∀ j, ((Region.before ops).getD i 0).testBit j = true → S j = true := by
  have key : ∀ (l pre : List Oper) (acc : Array Nat), ops.toList = pre ++ l → acc.size = pre.length →
      (∀ i, i < pre.length → (S i = true ∨ ∃ o, ops[i]? = some o ∧ ∀ e ∈ o.after, Region.binds .any e = true → S e.on = true) → ∀ j, (acc.getD i 0).testBit j = true → S j = true) →
      (∀ i, (S i = true ∨ ∃ o, ops[i]? = some o ∧ ∀ e ∈ o.after, Region.binds .any e = true → S e.on = true) → ∀ j,
        ((l.foldl (fun acc o => acc.push (o.after.foldl (fun s e => if Region.binds .any e then s ||| 2 ^ e.on ||| acc.getD e.on 0 else s) 0)) acc).getD i 0).testBit j = true → S j = true) := by
    intro l
    induction l with
    | nil =>
      intro pre acc hl hs h i hi j hj
      rcases Nat.lt_or_ge i pre.length with h1 | h1
      · exact h i h1 hi j hj
      · simp [Array.getD_eq_getD_getElem?, Array.getElem?_eq_none (show acc.size ≤ i by omega)] at hj
    | cons o l ih =>
      intro pre acc hl hs h
      simp only [List.foldl_cons]
      refine ih (pre ++ [o]) _ (by rw [hl]; simp) (by simp [hs]) ?_
      intro i hi hSi j hj
      simp only [List.length_append, List.length_cons, List.length_nil] at hi
      rcases Nat.lt_or_ge i pre.length with h1 | h1
      · have e : (acc.push (o.after.foldl (fun s e => if Region.binds .any e then s ||| 2 ^ e.on ||| acc.getD e.on 0 else s) 0)).getD i 0 = acc.getD i 0 := by
          simp only [Array.getD_eq_getD_getElem?]
          rw [Array.getElem?_push, if_neg (by omega)]
        rw [e] at hj; exact h i h1 hSi j hj
      · have hi' : i = pre.length := by omega
        subst hi'
        have ho : ops[pre.length]? = some o := by
          rw [← Array.getElem?_toList, hl, List.getElem?_append_right (Nat.le_refl _)]; simp
        have e : (acc.push (o.after.foldl (fun s e => if Region.binds .any e then s ||| 2 ^ e.on ||| acc.getD e.on 0 else s) 0)).getD pre.length 0 = o.after.foldl (fun s e => if Region.binds .any e then s ||| 2 ^ e.on ||| acc.getD e.on 0 else s) 0 := by
          simp only [Array.getD_eq_getD_getElem?]
          rw [Array.getElem?_push, if_pos hs.symm]; rfl
        rw [e] at hj
        have hpre : ∀ e ∈ o.after, Region.binds .any e = true → S e.on = true := by
          rcases hSi with h2 | ⟨o', ho', h2⟩
          · exact hS _ o h2 ho
          · rw [ho] at ho'; obtain rfl := Option.some.inj ho'; exact h2
        rw [← Array.foldl_toList] at hj
        have hfold : ∀ (es : List Edge) (s : Nat), (∀ e ∈ es, e ∈ o.after) → (s.testBit j = true → S j = true) →
            ((es.foldl (fun s e => if Region.binds .any e then s ||| 2 ^ e.on ||| acc.getD e.on 0 else s) s).testBit j = true → S j = true) := by
          intro es
          induction es with
          | nil => exact fun s _ h => h
          | cons e es ihe =>
            intro s hm hs'
            simp only [List.foldl_cons]
            refine ihe _ (fun e' he' => hm e' (by simp [he'])) ?_
            by_cases hb : Region.binds .any e = true
            · rw [if_pos hb]
              intro ht
              simp only [Nat.testBit_or, Bool.or_eq_true] at ht
              have hSe := hpre e (hm e (by simp)) hb
              rcases ht with (ht | ht) | ht
              · exact hs' ht
              · rw [Nat.testBit_two_pow] at ht
                have : e.on = j := by simpa using ht
                rw [← this]; exact hSe
              · rcases Nat.lt_or_ge e.on pre.length with h3 | h3
                · exact h e.on h3 (.inl hSe) j ht
                · simp [Array.getD_eq_getD_getElem?, Array.getElem?_eq_none (show acc.size ≤ e.on by omega)] at ht
            · rw [if_neg hb]; exact hs'
        exact hfold o.after.toList 0 (fun e he => by simpa using he) (by simp) hj
  have := key ops.toList [] #[] rfl rfl (by simp)
  rw [Region.before, ← Array.foldl_toList]
  exact this
end before
section lists
theorem nodupB_iff : ∀ {l : List Nat}, nodupB l = true → l.Nodup
  | [], _ => List.nodup_nil
  | x :: l, h => by
    simp only [nodupB, Bool.and_eq_true, Bool.not_eq_true'] at h
    refine List.nodup_cons.2 ⟨fun hx => ?_, nodupB_iff h.2⟩
    have := has_iff.2 hx
    rw [h.1] at this; cases this
theorem range_split (n : Nat) (p : Nat → Bool) (ids : List Nat) (hn : ids.Nodup) (hi : ∀ r ∈ ids, r < n ∧ p r = true) :
    ((List.range n).filter p).Perm (ids ++ (List.range n).filter fun r => p r && !has ids r) := by
  refine (List.perm_ext_iff_of_nodup (List.nodup_range.sublist List.filter_sublist) ?_).2 ?_
  · refine List.nodup_append.2 ⟨hn, List.nodup_range.sublist List.filter_sublist, ?_⟩
    intro a ha b hb e
    subst e
    simp only [List.mem_filter, Bool.and_eq_true, Bool.not_eq_true'] at hb
    have := has_iff.2 ha
    rw [hb.2.2] at this; cases this
  · intro a
    simp only [List.mem_filter, List.mem_append, List.mem_range, Bool.and_eq_true, Bool.not_eq_true']
    constructor
    · rintro ⟨h1, h2⟩
      by_cases h : has ids a = true
      · exact .inl (has_iff.1 h)
      · exact .inr ⟨h1, h2, by simpa using h⟩
    · rintro (h | ⟨h1, h2, _⟩)
      · exact hi a h
      · exact ⟨h1, h2⟩
end lists
theorem live_idx : ∀ (L : List HP) (i : Nat) (s : List Nat), (∀ x ∈ s, x < i) → live s (idx i L) = L
  | [], _, _, _ => rfl
  | P :: L, i, s, h => by
    rw [idx, live_out (fun hi => by have := h i hi; omega), live_idx L (i + 1) (i :: s) (by intro x hx; rcases List.mem_cons.1 hx with h' | h'; omega; have := h x h'; omega)]
section draw
variable {P : Program} {w0 : World} {Pr : Fp} {N : Nat} {E0 : Env}
theorem St.perm {L M : List HP} {a : Act} {w : World} (hs : St w0 Pr N E0 (idx 0 L) a w) (hp : L.Perm M) : St w0 Pr N E0 (idx 0 M) a w := by
  obtain ⟨F, hF, hb⟩ := hs.sat
  rw [live_idx L 0 [] (by simp)] at hF
  exact { hs with sat := ⟨F, by rw [live_idx M 0 [] (by simp)]; exact Sat.perm hp hF, hb⟩ }
theorem St.op {Pre L : List HP} {a : Act} {w : World} {o : Oper} {vs : List (Operand × Value)} {ι : Type} {val : ι → Value} {Post : ι → List HP} (hs : St w0 Pr N E0 (idx 0 (Pre ++ L)) a w)
    (h : OT P w0 Pr o vs Pre val Post) (hv : ∀ x v, (x, v) ∈ vs → a.eval x = v) : Runs P o a.eval w fun v w' => ∃ x, v = val x ∧ St w0 Pr N E0 (idx 0 (Post x ++ L)) a w' := by
  obtain ⟨F, hF, hb⟩ := hs.sat
  rw [live_idx _ 0 [] (by simp)] at hF
  obtain ⟨F1, F2, hsp, h1, h2⟩ := Sat.append.1 hF
  refine (h a.eval w F1 hv h1 (fun b hf => hb b (hsp.left hf)) (fun b hp => ⟨Nat.lt_of_lt_of_le (hs.pres b hp).1 hs.size, (hs.pres b hp).2⟩)).mono ?_
  rintro v w' ⟨x, rfl, st⟩
  refine ⟨x, rfl, ?_⟩
  obtain ⟨F', hF', hb'⟩ := st.sat
  refine { hs with os := st.os.trans hs.os, tape := st.tape.trans hs.tape, output := st.output.trans hs.output, size := Nat.le_trans hs.size st.size, pres := ?_, sat := ?_ }
  · intro b hp
    have := hs.pres b hp
    refine ⟨this.1, (st.keep b (Nat.lt_of_lt_of_le this.1 hs.size) fun hf => ?_).trans this.2⟩
    exact (hb b (hsp.left hf)).1 hp
  · rw [live_idx _ 0 [] (by simp)]
    refine ⟨fun b => F' b ∨ F2 b, Sat.append.2 ⟨F', F2, ⟨fun b => Iff.rfl, fun b hf h2' => ?_⟩, hF', Sat.loc h2 fun b hf => st.keep b (hb b (hsp.right hf)).2 fun h => hsp.2 b h hf⟩, fun b hf => ?_⟩
    · rcases (hb' b hf).1 with h | h
      · exact hsp.2 b h h2'
      · have := (hb b (hsp.right h2')).2; omega
    · rcases hf with hf | hf
      · refine ⟨fun hp => ?_, (hb' b hf).2⟩
        rcases (hb' b hf).1 with h | h
        · exact (hb b (hsp.left h)).1 hp
        · have := (hs.pres b hp).1; have := hs.size; omega
      · exact ⟨(hb b (hsp.right hf)).1, Nat.lt_of_lt_of_le (hb b (hsp.right hf)).2 st.size⟩
def DS (w0 : World) (Pr : Fp) (N : Nat) (E0 : Env) (ops : Array Oper) (m : Nat) (R : List DRes) {G : Type} (vals : G → List Value) (res : G → List HP) (Rest : List HP) (S : Nat → Bool) (g : G) (a : Act) (w : World) : Prop :=
  St w0 Pr N E0 (idx 0 (pickR (res g) ((List.range R.length).filter (avail R S)) ++ Rest)) a w ∧
    ∀ j, j < m → S j = true → ∀ d, dstOf ops j = some d → ∃ v, (vals g)[j]? = some v ∧ a.tmps[d]? = some v
def OpOK (P : Program) (w0 : World) (Pr : Fp) (E0 : Env) (ops : Array Oper) (R : List DRes) {G : Type} (vals : G → List Value) (res : G → List HP) (i : Nat) (D : DOp) : Prop :=
  ∀ g, ∃ (o : Oper) (ι : Type) (val : ι → Value) (Post : ι → List HP) (upd : ι → G) (vs : List (Operand × Value)), ops[i]? = some o ∧ o.guard = none ∧ Evs (envOf ops (vals g) D.ins ++ E0) vs ∧
    OT P w0 Pr o vs (pickR (res g) D.needs) val Post ∧ ∀ x, vals (upd x) = (vals g).set i (val x) ∧ Post x = pickR (res (upd x)) D.makes ∧ sameBut R i (res g) (res (upd x))
theorem sameBut_get : ∀ {R : List DRes} {i : Nat} {as bs : List HP}, sameBut R i as bs → ∀ (r : Nat) (x : DRes), R[r]? = some x → x.prod ≠ some i → as[r]? = bs[r]?
  | [], i, as, bs, h, r, x, hr, hx => by simp at hr
  | y :: R, i, [], _, h, _, _, _, _ => h.elim
  | y :: R, i, _ :: _, [], h, _, _, _, _ => h.elim
  | y :: R, i, a :: as, b :: bs, ⟨h1, h2⟩, 0, x, hr, hx => by
    have hy : y = x := by simpa using hr
    subst hy
    have : optB y.prod i = false := by
      cases e : optB y.prod i with
      | false => rfl
      | true => exact absurd (optB_iff.1 e) hx
    rw [this] at h1
    simpa using h1
  | y :: R, i, a :: as, b :: bs, ⟨h1, h2⟩, r + 1, x, hr, hx => by
    simpa using sameBut_get h2 r x (by simpa using hr) hx
theorem look_app {α : Type} : ∀ {A B : List (Nat × α)} {t : Nat}, look (A ++ B) t = match look A t with | some v => some v | none => look B t
  | [], B, t => rfl
  | (k, v) :: A, B, t => by
    rw [List.cons_append, look_cons, look_cons]
    split
    · rfl
    · exact look_app
theorem look_mem {α : Type} : ∀ {A : List (Nat × α)} {t : Nat} {v : α}, look A t = some v → (t, v) ∈ A
  | [], t, v, h => by simp [look] at h
  | (k, u) :: A, t, v, h => by
    rw [look_cons] at h
    split at h
    · rename_i hk; subst hk; obtain rfl := Option.some.inj h; simp
    · exact List.mem_cons_of_mem _ (look_mem h)
end draw
end Go.Proofs.Sx

