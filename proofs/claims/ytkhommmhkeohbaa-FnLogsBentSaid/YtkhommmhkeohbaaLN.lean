/- Part of a program logic; see the notes. -/
import Derived.Test.YtkhommmhkeohbaaLF
namespace Go.Proofs.Sx
open Go.RowKit
set_option linter.unusedVariables false
set_option linter.unusedSimpArgs false
set_option linter.unusedSectionVars false
def cutB (ops : Array Oper) (c : Nat) : Bool :=
  let B := Region.before ops
  (List.range ops.size).all fun i => Nat.blt i c || (List.range c).all fun j => (B.getD i 0).testBit j
def chk2 (ops : Array Oper) (N c0 m : Nat) (E0 : Env) (D : List DOp) (R : List DRes) : Bool :=
  let B := Region.before ops
  edgesOk ops && Nat.ble m ops.size && Nat.beq D.length m && (D.zipIdx.all fun (o, i) => Nat.blt i c0 || (opOk ops B R E0 N m i o && o.ins.all fun j => Nat.ble c0 j)) && (R.zipIdx.all fun (x, r) => resOk B D m r x) &&
  ((List.range ops.size).all fun i => Nat.blt i m || (List.range m).all fun j => (B.getD i 0).testBit j)
section draw
variable {P : Program} {w0 : World} {Pr : Fp} {N : Nat} {E0 : Env} {ops : Array Oper} {c0 m : Nat} {D : List DOp} {R : List DRes} {G : Type} {vals : G → List Value} {res : G → List HP} {Rest : List HP} {Q : Exit → Act → World → Prop} {T : Act → World → Prop}
def AgreeV (ops : Array Oper) (i : Nat) (v0 v1 : List Value) (u : Value) : Prop := v1[i]? = some u ∧ ∀ j, j ≠ i → ((Region.before ops).getD j 0).testBit i = false → v1[j]? = v0[j]?
theorem AgreeV.of_set {ops : Array Oper} {i : Nat} {v0 v1 : List Value} {u : Value} (h : v1 = v0.set i u) (hi : i < v0.length) : AgreeV ops i v0 v1 u := by
  subst h
  exact ⟨List.getElem?_set_self hi, fun j hj _ => List.getElem?_set_ne fun e => hj e.symm⟩
def sameD (i : Nat) (dep : List Nat) (u : Value) : Nat → List Value → List Value → Prop
  | _, [], [] => True
  | j, v :: vs, w :: ws => (match Nat.beq j i with
    | true => w = u
    | false => match has dep j with
      | true => True
      | false => w = v) ∧ sameD i dep u (j + 1) vs ws
  | _, _, _ => False
theorem sameD.get {i : Nat} {dep : List Nat} {u : Value} : ∀ {k : Nat} {v0 v1 : List Value}, sameD i dep u k v0 v1 → ∀ j, (k + j = i → j < v0.length → v1[j]? = some u) ∧ (k + j ≠ i → k + j ∉ dep → v1[j]? = v0[j]?)
  | k, [], [], _, j => ⟨fun _ h => by simp at h, fun _ _ => rfl⟩
  | k, v :: vs, w :: ws, ⟨h1, h2⟩, 0 => by
    refine ⟨fun e _ => ?_, fun hn hd => ?_⟩
    · have : Nat.beq k i = true := by rw [← e]; simp
      rw [this] at h1
      simpa using h1
    · have e1 : Nat.beq k i = false := by
        cases e : Nat.beq k i with
        | false => rfl
        | true => exact absurd (Nat.eq_of_beq_eq_true e) hn
      have e2 : has dep k = false := by
        cases e : has dep k with
        | false => rfl
        | true => exact absurd (has_iff.1 e) hd
      rw [e1] at h1
      simp only [e2] at h1
      simpa using h1
  | k, v :: vs, w :: ws, ⟨h1, h2⟩, j + 1 => by
    have := sameD.get h2 j
    rw [show k + 1 + j = k + (j + 1) by omega] at this
    refine ⟨fun e hj => ?_, fun hn hd => ?_⟩
    · have := this.1 e (by simpa using hj); simpa using this
    · have := this.2 hn hd; simpa using this
theorem sameD.agree {ops : Array Oper} {i : Nat} {dep : List Nat} {u : Value} {v0 v1 : List Value} (h : sameD i dep u 0 v0 v1) (hd : (dep.all fun j => ((Region.before ops).getD j 0).testBit i) = true) (hi : i < v0.length) : AgreeV ops i v0 v1 u := by
  refine ⟨(h.get i).1 (by omega) hi, fun j hj hb => (h.get j).2 (by omega) fun hm => ?_⟩
  have := List.all_eq_true.1 hd j (by simpa using hm)
  rw [hb] at this; cases this
def AgreeR (ops : Array Oper) (R : List DRes) (i : Nat) (a b : List HP) : Prop := ∀ (r : Nat) (x : DRes), R[r]? = some x → x.prod ≠ some i → (∀ p, x.prod = some p → ((Region.before ops).getD p 0).testBit i = false) → a[r]? = b[r]?
theorem AgreeR.of {ops : Array Oper} {R : List DRes} {i : Nat} {a b : List HP} (h : sameBut R i a b) : AgreeR ops R i a b := fun r x hr hx _ => sameBut_get h r x hr hx
def sameButD : List DRes → List Nat → List HP → List HP → Prop
  | x :: R, dep, a :: as, b :: bs => (bif (match x.prod with | some p => has dep p | none => false) then b else a) = b ∧ sameButD R dep as bs
  | [], _, [], [] => True
  | _, _, _, _ => False
theorem sameButD.get : ∀ {R : List DRes} {dep : List Nat} {as bs : List HP}, sameButD R dep as bs → ∀ (r : Nat) (x : DRes), R[r]? = some x → (∀ p, x.prod = some p → p ∉ dep) → as[r]? = bs[r]?
  | [], dep, as, bs, h, r, x, hr, hx => by simp at hr
  | y :: R, dep, [], _, h, _, _, _, _ => h.elim
  | y :: R, dep, _ :: _, [], h, _, _, _, _ => h.elim
  | y :: R, dep, a :: as, b :: bs, ⟨h1, h2⟩, 0, x, hr, hx => by
    have hy : y = x := by simpa using hr
    subst hy
    have : (match y.prod with | some p => has dep p | none => false) = false := by
      cases e : y.prod with
      | none => rfl
      | some p =>
        have hn := hx p e
        cases e2 : has dep p with
        | false => exact e2
        | true => exact absurd (has_iff.1 e2) hn
    rw [this] at h1
    simpa using h1
  | y :: R, dep, a :: as, b :: bs, ⟨h1, h2⟩, r + 1, x, hr, hx => by
    simpa using sameButD.get h2 r x (by simpa using hr) hx
theorem sameButD.agree {ops : Array Oper} {R : List DRes} {i : Nat} {dep : List Nat} {a b : List HP} (h : sameButD R (i :: dep) a b) (hd : (dep.all fun j => ((Region.before ops).getD j 0).testBit i) = true) : AgreeR ops R i a b := by
  refine fun r x hr hx hp => h.get r x hr fun p hpp hm => ?_
  rcases List.mem_cons.1 hm with rfl | hm
  · exact hx hpp
  · have := List.all_eq_true.1 hd p hm
    rw [hp p hpp] at this; cases this
def OpOK2 (P : Program) (w0 : World) (Pr : Fp) (E0 : Env) (ops : Array Oper) (R : List DRes) {G : Type} (vals : G → List Value) (res : G → List HP) (i : Nat) (D : DOp) : Prop :=
  ∀ g, ∃ (o : Oper) (ι : Type) (val : ι → Value) (Post : ι → List HP) (upd : ι → G) (vs : List (Operand × Value)), ops[i]? = some o ∧
    (((∀ a : Act, (∀ t v, look E0 t = some v → a.tmps[t]? = some v) → Region.wanted o (yielded ops a.tmps) = true) ∧ Evs (envOf ops (vals g) D.ins ++ E0) vs ∧ OT P w0 Pr o vs (pickR (res g) D.needs) val Post) ∨
      ((∀ a : Act, (∀ t v, look E0 t = some v → a.tmps[t]? = some v) → Region.wanted o (yielded ops a.tmps) = false) ∧ D.needs = [] ∧ ∃ x, val x = undef ∧ Post x = [])) ∧
    ∀ x, (i < (vals g).length → AgreeV ops i (vals g) (vals (upd x)) (val x)) ∧ Post x = pickR (res (upd x)) D.makes ∧ AgreeR ops R i (res g) (res (upd x))
def DSeg (w0 : World) (Pr : Fp) (N : Nat) (E0 : Env) (ops : Array Oper) (c0 m : Nat) (R : List DRes) {G : Type} (vals : G → List Value) (res : G → List HP) (Rest : List HP) (S : Nat → Bool) (a : Act) (w : World) : Prop :=
  ∃ g, (St w0 Pr N E0 (idx 0 (pickR (res g) ((List.range R.length).filter (avail R S)) ++ Rest)) a w ∧
    ∀ j, c0 ≤ j → j < m → S j = true → ∀ d, dstOf ops j = some d → ∃ v, (vals g)[j]? = some v ∧ a.tmps[d]? = some v) ∧ ¬ (∀ i, i < m → S i = true) ∧ (∀ i, m ≤ i → S i = false) ∧ ∀ i, i < c0 → S i = true
theorem seg_step (hchk : chk2 ops N c0 m E0 D R = true) (hvl : ∀ g, (vals g).length = m) (hop : ∀ i D', c0 ≤ i → D[i]? = some D' → OpOK2 P w0 Pr E0 ops R vals res i D')
    (tail : ∀ g a w, St w0 Pr N E0 (idx 0 (pickR (res g) ((List.range R.length).filter (avail R fun i => Nat.blt i m)) ++ Rest)) a w →
      (∀ j, c0 ≤ j → j < m → ∀ d, dstOf ops j = some d → ∃ v, (vals g)[j]? = some v ∧ a.tmps[d]? = some v) → T a w)
    {S : Nat → Bool} (hS : ∀ i o, S i = true → ops[i]? = some o → ∀ e ∈ o.after, Region.binds .any e = true → S e.on = true) {i : Nat} {o : Oper} (hi : S i = false) (ho : ops[i]? = some o)
    (hpre : ∀ e ∈ o.after, Region.binds .any e = true → S e.on = true) {a : Act} {w : World} (hI : DSeg w0 Pr N E0 ops c0 m R vals res Rest S a w) (K : Act → World → Prop)
    (hK : ∀ a w, DSeg w0 Pr N E0 ops c0 m R vals res Rest (fun j => S j || Nat.beq j i) a w → K a w)
    (hK2 : ∀ a w, (∀ j, (S j || Nat.beq j i) = true ↔ j < m) → T a w → K a w) :
    if Region.wanted o (yielded ops a.tmps) then Runs P o a.eval w fun v w' => K (a.put o.dst v) w' else K (a.put o.dst undef) w := by
  have hbc := before_closed S hS
  have hbi : ∀ j, ((Region.before ops).getD i 0).testBit j = true → S j = true := hbc i (.inr ⟨o, ho, hpre⟩)
  simp only [chk2, Bool.and_eq_true] at hchk
  obtain ⟨⟨⟨⟨⟨c1, c2⟩, c3⟩, c4⟩, c5⟩, c6⟩ := hchk
  have hisz : i < ops.size := by
    rcases Nat.lt_or_ge i ops.size with h | h
    · exact h
    · rw [Array.getElem?_eq_none h] at ho; cases ho
  have htl : m ≤ i → ∀ j, j < m → S j = true := fun hm j hj => by
    have := List.all_eq_true.1 c6 i (by simpa using hisz)
    simp only [Bool.or_eq_true, Nat.blt_eq] at this
    rcases this with h | h
    · omega
    · exact hbi j (List.all_eq_true.1 h j (by simpa using hj))
  obtain ⟨g, ⟨hst, htm⟩, hnot, hge, hlo⟩ := hI
  · -- one of those whose order is drawn
    have him : i < m := by
      rcases Nat.lt_or_ge i m with h | h
      · exact h
      · exact absurd (fun j hj => htl h j hj) hnot
    have hic : c0 ≤ i := by
      rcases Nat.lt_or_ge i c0 with h | h
      · rw [hlo i h] at hi; cases hi
      · exact h
    have hDl : D.length = m := by simpa using c3
    obtain ⟨D', hD'⟩ : ∃ D', D[i]? = some D' := ⟨D[i], List.getElem?_eq_getElem (by omega)⟩
    have hchkop := all_zip c4 hD'
    simp only [Bool.or_eq_true, Nat.blt_eq] at hchkop
    replace hchkop := hchkop.resolve_left (by omega)
    simp only [opOk, Bool.and_eq_true] at hchkop
    obtain ⟨⟨⟨⟨⟨⟨n1, n2⟩, n3⟩, n4⟩, n5⟩, n6⟩, n9⟩ := hchkop
    obtain ⟨o', ι, val, Post, upd, vs, ho', hcase, hx⟩ := hop i D' hic hD' g
    rw [ho] at ho'
    obtain rfl := Option.some.inj ho'
    have hnd := nodupB_iff n1
    have hmd := nodupB_iff n2
    have hR : ∀ r x, R[r]? = some x → (∀ p, x.prod = some p → p < m ∧ ∃ o, D[p]? = some o ∧ r ∈ o.makes ∧ r ∉ o.needs) ∧
        (∀ c, x.cons = some c → c < m ∧ (∃ o, D[c]? = some o ∧ r ∈ o.needs ∧ r ∉ o.makes) ∧ ∀ p, x.prod = some p → ((Region.before ops).getD c 0).testBit p = true) := by
      intro r x hr
      have h := all_zip c5 hr
      simp only [resOk, Bool.and_eq_true] at h
      refine ⟨fun p hp => ?_, fun c hc => ?_⟩
      · have h1 := h.1
        rw [hp] at h1
        simp only [Bool.and_eq_true, Nat.blt_eq] at h1
        refine ⟨h1.1, ?_⟩
        have h2 := h1.2
        split at h2
        · rename_i o ho
          simp only [Bool.and_eq_true, Bool.not_eq_true'] at h2
          exact ⟨o, ho, has_iff.1 h2.1, fun hh => by rw [has_iff.2 hh] at h2; exact absurd h2.2 (by simp)⟩
        · cases h2
      · have h1 := h.2
        rw [hc] at h1
        simp only [Bool.and_eq_true, Nat.blt_eq] at h1
        refine ⟨h1.1.1, ?_, fun p hp => ?_⟩
        · have h2 := h1.1.2
          split at h2
          · rename_i o ho
            simp only [Bool.and_eq_true, Bool.not_eq_true'] at h2
            exact ⟨o, ho, has_iff.1 h2.1, fun hh => by rw [has_iff.2 hh] at h2; exact absurd h2.2 (by simp)⟩
          · cases h2
        · have h2 := h1.2
          rw [hp] at h2; exact h2
    have av : ∀ (S : Nat → Bool) r, avail R S r = true ↔ ∃ x, R[r]? = some x ∧ (∀ p, x.prod = some p → S p = true) ∧ ∀ c, x.cons = some c → S c = false := by
      intro S r
      unfold avail
      cases hr : R[r]? with
      | none => simp
      | some x =>
        simp only [Bool.and_eq_true]
        constructor
        · rintro ⟨h1, h2⟩
          refine ⟨x, rfl, fun p hp => by rw [hp] at h1; exact h1, fun c hc => by rw [hc] at h2; simpa using h2⟩
        · rintro ⟨y, hy, h1, h2⟩
          obtain rfl := Option.some.inj hy
          constructor
          · cases hp : x.prod with
            | none => rfl
            | some p => exact h1 p hp
          · cases hc : x.cons with
            | none => rfl
            | some c => simp [h2 c hc]
    have hneed : ∀ r ∈ D'.needs, ∃ x, R[r]? = some x ∧ (∀ p, x.prod = some p → S p = true ∧ p ≠ i) ∧ (∀ c, x.cons = some c → S c = false) ∧ (r ∈ D'.makes ∨ x.cons = some i) := by
      intro r hr
      have h := List.all_eq_true.1 n3 r hr
      unfold needOk at h
      split at h
      · cases h
      · rename_i x hx'
        simp only [Bool.and_eq_true, Bool.or_eq_true] at h
        refine ⟨x, hx', fun p hp => ?_, fun c hc => ?_, h.2.imp has_iff.1 optB_iff.1⟩
        · have h1 := h.1.1
          rw [hp] at h1
          have := hbi p h1
          exact ⟨this, fun e => by rw [e, hi] at this; cases this⟩
        · have h1 := h.1.2
          rw [hc] at h1
          simp only [Bool.or_eq_true, Nat.beq_eq] at h1
          rcases h1 with h1 | h1
          · rw [h1]; exact hi
          · cases hsc : S c with
            | false => rfl
            | true => have := hbc c (.inl hsc) i h1; rw [hi] at this; cases this
    have hmake : ∀ r ∈ D'.makes, ∃ x, R[r]? = some x ∧ ((r ∈ D'.needs ∧ x.cons ≠ some i) ∨ (r ∉ D'.needs ∧ x.prod = some i)) := by
      intro r hr
      have h := List.all_eq_true.1 n4 r hr
      unfold makeOk at h
      split at h
      · cases h
      · rename_i x hx'
        simp only [Bool.or_eq_true, Bool.and_eq_true, Bool.not_eq_true'] at h
        refine ⟨x, hx', h.imp (fun h => ⟨has_iff.1 h.1, fun e => by rw [optB_iff.2 e] at h; exact absurd h.2 (by simp)⟩) fun h => ⟨fun hh => by rw [has_iff.2 hh] at h; exact absurd h.1 (by simp), optB_iff.1 h.2⟩⟩
    have hS' : ∀ j, (S j || Nat.beq j i) = true ↔ S j = true ∨ j = i := fun j => by simp [Bool.or_eq_true]
    have hS'f : ∀ j, (S j || Nat.beq j i) = false ↔ S j = false ∧ j ≠ i := fun j => by
      rw [← Bool.not_eq_true, hS']; simp
    have p1 := range_split R.length (avail R S) D'.needs hnd (fun r hr => by
      obtain ⟨x, h1, h2, h3, _⟩ := hneed r hr
      refine ⟨(List.getElem?_eq_some_iff.1 h1).1, (av S r).2 ⟨x, h1, fun p hp => (h2 p hp).1, h3⟩⟩)
    have p2 := range_split R.length (avail R fun j => S j || Nat.beq j i) D'.makes hmd (fun r hr => by
      obtain ⟨x, h1, h2⟩ := hmake r hr
      refine ⟨(List.getElem?_eq_some_iff.1 h1).1, (av _ r).2 ⟨x, h1, fun p hp => ?_, fun c hc => ?_⟩⟩
      · rcases h2 with ⟨h2, _⟩ | ⟨_, h2⟩
        · obtain ⟨y, hy, h3, _, _⟩ := hneed r h2
          rw [h1] at hy; obtain rfl := Option.some.inj hy
          exact (hS' p).2 (.inl (h3 p hp).1)
        · rw [h2] at hp; obtain rfl := Option.some.inj hp; exact (hS' i).2 (.inr rfl)
      · rcases h2 with ⟨h2, h4⟩ | ⟨hnn, h2⟩
        · obtain ⟨y, hy, _, h3, _⟩ := hneed r h2
          rw [h1] at hy; obtain rfl := Option.some.inj hy
          exact (hS'f c).2 ⟨h3 c hc, fun e => h4 (e ▸ hc)⟩
        · have h5 := (hR r x h1).2 c hc
          refine (hS'f c).2 ⟨?_, fun e => ?_⟩
          · cases hsc : S c with
            | false => rfl
            | true => have := hbc c (.inl hsc) i (h5.2.2 i h2); rw [hi] at this; cases this
          · subst e
            obtain ⟨oo, h6, h7, _⟩ := h5.2.1
            rw [hD'] at h6; obtain rfl := Option.some.inj h6
            exact hnn h7)
    have hrest : ((List.range R.length).filter fun r => avail R (fun j => S j || Nat.beq j i) r && !has D'.makes r) = (List.range R.length).filter fun r => avail R S r && !has D'.needs r := by
      refine List.filter_congr fun r hr => ?_
      rw [Bool.eq_iff_iff]
      simp only [Bool.and_eq_true, Bool.not_eq_true', ← Bool.not_eq_true, has_iff]
      constructor
      · rintro ⟨h1, h2⟩
        obtain ⟨x, hx', h3, h4⟩ := (av _ r).1 h1
        have hnn : r ∉ D'.needs := fun h => by
          obtain ⟨y, hy, _, _, h5⟩ := hneed r h
          rw [hx'] at hy; obtain rfl := Option.some.inj hy
          rcases h5 with h5 | h5
          · exact h2 h5
          · exact ((hS'f i).1 (h4 i h5)).2 rfl
        refine ⟨(av S r).2 ⟨x, hx', fun p hp => ?_, fun c hc => ((hS'f c).1 (h4 c hc)).1⟩, hnn⟩
        rcases (hS' p).1 (h3 p hp) with h | h
        · exact h
        · subst h
          obtain ⟨_, oo, h6, h7, _⟩ := (hR r x hx').1 p hp
          rw [hD'] at h6; obtain rfl := Option.some.inj h6
          exact absurd h7 h2
      · rintro ⟨h1, h2⟩
        obtain ⟨x, hx', h3, h4⟩ := (av _ r).1 h1
        have hnm : r ∉ D'.makes := fun h => by
          obtain ⟨y, hy, h5⟩ := hmake r h
          rw [hx'] at hy; obtain rfl := Option.some.inj hy
          rcases h5 with ⟨h5, _⟩ | ⟨_, h5⟩
          · exact h2 h5
          · have := h3 i h5; rw [hi] at this; cases this
        refine ⟨(av _ r).2 ⟨x, hx', fun p hp => (hS' p).2 (.inl (h3 p hp)), fun c hc => (hS'f c).2 ⟨h4 c hc, fun e => ?_⟩⟩, hnm⟩
        subst e
        obtain ⟨_, ⟨oo, h6, h7, _⟩, _⟩ := (hR r x hx').2 c hc
        rw [hD'] at h6; obtain rfl := Option.some.inj h6
        exact h2 h7
    have hst1 : St w0 Pr N E0 (idx 0 (pickR (res g) D'.needs ++ (pickR (res g) ((List.range R.length).filter fun r => avail R S r && !has D'.needs r) ++ Rest))) a w := by
      refine hst.perm ?_
      rw [← List.append_assoc]
      refine List.Perm.append_right _ ?_
      have := p1.filterMap (fun r => (res g)[r]?)
      rwa [List.filterMap_append] at this
    have fin : ∀ v w', (∃ x, v = val x ∧ St w0 Pr N E0 (idx 0 (Post x ++ (pickR (res g) ((List.range R.length).filter fun r => avail R S r && !has D'.needs r) ++ Rest))) a w') → K (a.put o.dst v) w' := by
     rintro v w' ⟨x, rfl, hst2⟩
     obtain ⟨hx0, hx2, hx3⟩ := hx x
     have hx1 := hx0 (by rw [hvl]; exact him)
     have hbt : ∀ j, S j = true → ((Region.before ops).getD j 0).testBit i = false := fun j hj => by
       cases hb : ((Region.before ops).getD j 0).testBit i with
       | false => rfl
       | true => have := hbc j (.inl hj) i hb; rw [hi] at this; cases this
     have hst3 : St w0 Pr N E0 (idx 0 (pickR (res (upd x)) ((List.range R.length).filter (avail R fun j => S j || Nat.beq j i)) ++ Rest)) a w' := by
       refine hst2.perm ?_
       rw [hx2]
       have e : pickR (res g) ((List.range R.length).filter fun r => avail R S r && !has D'.needs r) = pickR (res (upd x)) ((List.range R.length).filter fun r => avail R S r && !has D'.needs r) := by
         refine filterMap_congr' fun r hr => ?_
         simp only [List.mem_filter, Bool.and_eq_true] at hr
         obtain ⟨x', hx', h3, _⟩ := (av S r).1 hr.2.1
         refine hx3 r x' hx' (fun hp => ?_) fun p hp => hbt p (h3 p hp)
         have := h3 i hp; rw [hi] at this; cases this
       rw [e, ← List.append_assoc]
       refine List.Perm.append_right _ ?_
       have := p2.filterMap (fun r => (res (upd x))[r]?)
       rw [List.filterMap_append, hrest] at this
       exact this.symm
     have hput : St w0 Pr N E0 (idx 0 (pickR (res (upd x)) ((List.range R.length).filter (avail R fun j => S j || Nat.beq j i)) ++ Rest)) (a.put o.dst (val x)) w' ∧
         ∀ j, c0 ≤ j → j < m → (S j || Nat.beq j i) = true → ∀ d, dstOf ops j = some d → ∃ v, (vals (upd x))[j]? = some v ∧ (a.put o.dst (val x)).tmps[d]? = some v := by
       have hdi : dstOf ops i = o.dst := by simp [dstOf, ho]
       cases hd : o.dst with
       | none =>
         refine ⟨hst3, fun j hcj hj hSj d hjd => ?_⟩
         rcases (hS' j).1 hSj with h | h
         · obtain ⟨v, h1, h2⟩ := htm j hcj hj h d hjd
           refine ⟨v, ?_, h2⟩
           rw [hx1.2 j (fun e => by rw [e] at h; rw [h] at hi; cases hi) (hbt j h)]; exact h1
         · subst h; rw [hdi, hd] at hjd; cases hjd
       | some dd =>
         rw [hdi, hd] at n6
         simp only [Bool.and_eq_true, Nat.blt_eq] at n6
         obtain ⟨⟨n6, n7⟩, n8⟩ := n6
         refine ⟨{ hst3 with siz := by simp [Act.put, hst3.siz], env := fun t u ht => ?_ }, fun j hcj hj hSj d hjd => ?_⟩
         · simp only [Act.put, Array.getElem?_setIfInBounds]
           rw [if_neg (fun e => by subst e; rw [ht] at n7; cases n7)]
           exact hst3.env t u ht
         · simp only [Act.put, Array.getElem?_setIfInBounds]
           by_cases hji : j = i
           · subst hji
             rw [hdi, hd] at hjd
             obtain rfl := Option.some.inj hjd
             rw [if_pos rfl, if_pos (by rw [hst3.siz]; exact n6)]
             refine ⟨val x, ?_, rfl⟩
             exact hx1.1
           · rcases (hS' j).1 hSj with h | h
             · obtain ⟨v, h1, h2⟩ := htm j hcj hj h d hjd
               have hne : ¬ dd = d := fun e => by
                 subst e
                 have := List.all_eq_true.1 n8 j (by simpa using hj)
                 simp only [Bool.or_eq_true, Nat.beq_eq, Bool.not_eq_true'] at this
                 rcases this with h3 | h3
                 · exact hji h3
                 · rw [optB_iff.2 hjd] at h3; cases h3
               rw [if_neg hne]
               exact ⟨v, by rw [hx1.2 j hji (hbt j h)]; exact h1, h2⟩
             · exact absurd h hji
     by_cases hall : ∀ j, j < m → (S j || Nat.beq j i) = true
     · refine hK2 _ _ (fun j => ⟨fun h => ?_, fun h => hall j h⟩) ?_
       · rcases (hS' j).1 h with h | h
         · rcases Nat.lt_or_ge j m with h' | h'
           · exact h'
           · rw [hge j h'] at h; cases h
         · subst h; exact him
       · have hfun : (fun j => S j || Nat.beq j i) = fun j => Nat.blt j m := by
           funext j
           rw [Bool.eq_iff_iff, Nat.blt_eq]
           constructor
           · intro h
             rcases (hS' j).1 h with h | h
             · rcases Nat.lt_or_ge j m with h' | h'
               · exact h'
               · rw [hge j h'] at h; cases h
             · subst h; exact him
           · exact fun h => hall j h
         rw [hfun] at hput
         exact tail (upd x) _ _ hput.1 fun j hcj hj d hd => hput.2 j hcj hj (hall j hj) d hd
     · exact hK _ _ ⟨upd x, hput, hall, fun j hj => (hS'f j).2 ⟨hge j hj, fun e => by omega⟩, fun j hj => (hS' j).2 (.inl (hlo j hj))⟩
    rcases hcase with ⟨hwt, hev, hot⟩ | ⟨hwt, hnd0, x0, hv0, hp0⟩
    · have hval : ∀ x v, (x, v) ∈ vs → a.eval x = v := by
        have henv : ∀ t v, look (envOf ops (vals g) D'.ins ++ E0) t = some v → a.tmps[t]? = some v := by
          intro t v ht
          rw [look_app] at ht
          split at ht
          · rename_i u hu
            obtain rfl := Option.some.inj ht
            have hmem := look_mem hu
            unfold envOf at hmem
            obtain ⟨j, hj, hjv⟩ := List.mem_filterMap.1 hmem
            split at hjv
            · rename_i d v' hd hv'
              obtain ⟨rfl, rfl⟩ := Prod.mk.inj (Option.some.inj hjv)
              have h := List.all_eq_true.1 n5 j hj
              simp only [Bool.and_eq_true, Nat.blt_eq] at h
              obtain ⟨v2, h1, h2⟩ := htm j (Nat.le_of_ble_eq_true (List.all_eq_true.1 n9 j hj)) h.1 (hbi j h.2) d hd
              rw [hv'] at h1; obtain rfl := Option.some.inj h1
              exact h2
            · cases hjv
          · exact hst.env t v ht
        have hs2 : St w0 Pr N (envOf ops (vals g) D'.ins ++ E0) (idx 0 (pickR (res g) ((List.range R.length).filter (avail R S)) ++ Rest)) a w := { hst with env := henv }
        exact Evs.get hs2 hev
      rw [if_pos (hwt a hst.env)]
      exact (hst1.op hot hval).mono fun v w' h => fin v w' h
    · rw [if_neg (by rw [hwt a hst.env]; simp)]
      refine fin undef w ⟨x0, hv0.symm, ?_⟩
      rw [hp0]
      rw [hnd0] at hst1
      simpa [hnd0, pickR] using hst1
def wpD (P : Program) (ops : Array Oper) (Q : Exit → Act → World → Prop) (m : Nat) (a : Act) (w : World) : Prop :=
  ∀ (fuel : Nat) (listed : Array Bool), listed.size = ops.size → (listed.toList.filter (!·)).length ≤ fuel → (∀ i, listed.getD i false = true ↔ i < m) → wpAny P .any ops Q fuel listed a w
theorem ready_all (hedge : edgesOk ops = true) (listed : Array Bool) (hsz : listed.size = ops.size) (hr : Region.ready .any ops listed = []) : ∀ i, i < ops.size → listed.getD i false = true := by
  have hedge' : ∀ i o, ops[i]? = some o → ∀ e ∈ o.after, Region.binds .any e = true → e.on < i := by
    intro i o ho e he hb
    have hisz : i < ops.size := by
      rcases Nat.lt_or_ge i ops.size with h | h
      · exact h
      · rw [Array.getElem?_eq_none h] at ho; cases ho
    have := List.all_eq_true.1 hedge i (by simpa using hisz)
    rw [ho] at this
    have := Array.all_eq_true'.1 this e he
    simpa [hb, Nat.blt_eq] using this
  intro i
  induction i using Nat.strongRecOn with
  | _ i ih =>
    intro hi
    cases hl : listed.getD i false with
    | true => rfl
    | false =>
      exfalso
      have ho : ops[i]? = some ops[i] := Array.getElem?_eq_getElem hi
      have : i ∈ Region.ready .any ops listed := by
        unfold Region.ready
        simp only [List.mem_filter, List.mem_range, Bool.and_eq_true]
        refine ⟨hi, ?_, ?_⟩
        · have : listed.getD i true = listed.getD i false := by
            simp only [Array.getD_eq_getD_getElem?]
            rw [Array.getElem?_eq_getElem (by omega)]; rfl
          rw [this, hl]; rfl
        · rw [ho]
          simp only [Option.map_some, Option.getD_some]
          refine Array.all_eq_true'.2 fun e he => ?_
          by_cases hb : Region.binds .any e = true
          · have h1 := hedge' i _ ho e he hb
            simp [hb, ih e.on h1 (by omega)]
          · simp [Bool.not_eq_true] at hb; simp [hb]
      rw [hr] at this; cases this
theorem count_all (listed : Array Bool) (hsz : listed.size = ops.size) (hc : (listed.toList.filter (!·)).length ≤ 0) : ∀ i, i < ops.size → listed.getD i false = true := by
  intro i hi
  cases hl : listed.getD i false with
  | true => rfl
  | false =>
    exfalso
    have h1 : listed[i]? = some false := by
      simp only [Array.getD_eq_getD_getElem?] at hl
      rw [Array.getElem?_eq_getElem (by omega)] at hl ⊢
      simpa using hl
    have : false ∈ listed.toList.filter (!·) := by
      simp only [List.mem_filter, Bool.not_false, and_true]
      exact List.mem_of_getElem? (by rw [Array.getElem?_toList]; exact h1)
    have := List.length_pos_of_mem this
    omega
theorem set_listed {listed : Array Bool} {i : Nat} (hi : i < listed.size) (j : Nat) : (listed.setIfInBounds i true).getD j false = (listed.getD j false || Nat.beq j i) := by
  simp only [Array.getD_eq_getD_getElem?, Array.getElem?_setIfInBounds]
  by_cases hij : i = j
  · subst hij
    rw [if_pos rfl, if_pos hi]; simp
  · rw [if_neg hij]
    have : Nat.beq j i = false := by
      cases e : Nat.beq j i with
      | false => rfl
      | true => exact absurd (Nat.eq_of_beq_eq_true e).symm hij
    rw [this, Bool.or_false]
theorem set_count {listed : Array Bool} {i : Nat} (hi : i < listed.size) (hf : listed.getD i false = false) : ((listed.setIfInBounds i true).toList.filter (!·)).length + 1 = (listed.toList.filter (!·)).length := by
  have h1 : listed.toList[i]? = some false := by
    rw [Array.getElem?_toList, Array.getElem?_eq_getElem hi]
    simp only [Array.getD_eq_getD_getElem?] at hf
    rw [Array.getElem?_eq_getElem hi] at hf
    simpa using hf
  rw [Array.toList_setIfInBounds]
  exact all_set_count listed.toList i h1
theorem mem_ready' {listed : Array Bool} (hsz : listed.size = ops.size) {i : Nat} (hi : i ∈ Region.ready .any ops listed) :
    ∃ o, ops[i]? = some o ∧ i < ops.size ∧ listed.getD i false = false ∧ ∀ e ∈ o.after, Region.binds .any e = true → listed.getD e.on false = true := by
  unfold Region.ready at hi
  simp only [List.mem_filter, List.mem_range, Bool.and_eq_true, Bool.not_eq_true'] at hi
  obtain ⟨hisz, hil, hpre⟩ := hi
  have ho : ops[i]? = some ops[i] := Array.getElem?_eq_getElem hisz
  rw [ho] at hpre
  simp only [Option.map_some, Option.getD_some] at hpre
  refine ⟨_, ho, hisz, ?_, fun e he hb => ?_⟩
  · simp only [Array.getD_eq_getD_getElem?] at hil ⊢
    rw [Array.getElem?_eq_getElem (by omega)] at hil ⊢
    simpa using hil
  · have := Array.all_eq_true'.1 hpre e he
    simpa [hb] using this
theorem wpOp_of {i : Nat} {o : Oper} {K : Act → World → Prop} {a : Act} {w : World} (ho : ops[i]? = some o)
    (h : if Region.wanted o (yielded ops a.tmps) then Runs P o a.eval w fun v w' => K (a.put o.dst v) w' else K (a.put o.dst undef) w) : wpOp P ops Q i K a w := by
  unfold wpOp
  rw [ho]
  simp only
  split at h
  · rename_i hw
    rw [if_pos hw]
    exact .inl (Runs.wp h)
  · rename_i hw
    rw [if_neg hw]
    exact h
theorem seg_any (hchk : chk2 ops N c0 m E0 D R = true) (hvl : ∀ g, (vals g).length = m) (hop : ∀ i D', c0 ≤ i → D[i]? = some D' → OpOK2 P w0 Pr E0 ops R vals res i D')
    (tail : ∀ g a w, St w0 Pr N E0 (idx 0 (pickR (res g) ((List.range R.length).filter (avail R fun i => Nat.blt i m)) ++ Rest)) a w →
      (∀ j, c0 ≤ j → j < m → ∀ d, dstOf ops j = some d → ∃ v, (vals g)[j]? = some v ∧ a.tmps[d]? = some v) → wpD P ops Q m a w) :
    ∀ (fuel : Nat) (listed : Array Bool) (a : Act) (w : World), listed.size = ops.size → (listed.toList.filter (!·)).length ≤ fuel →
      (∀ i o, listed.getD i false = true → ops[i]? = some o → ∀ e ∈ o.after, Region.binds .any e = true → listed.getD e.on false = true) →
      DSeg w0 Pr N E0 ops c0 m R vals res Rest (fun i => listed.getD i false) a w → wpAny P .any ops Q fuel listed a w := by
  have h := hchk
  simp only [chk2, Bool.and_eq_true] at h
  have hed := h.1.1.1.1.1
  have hm : m ≤ ops.size := by simpa [Nat.ble_eq] using h.1.1.1.1.2
  intro fuel
  induction fuel with
  | zero =>
    intro listed a w hsz hc hcl ⟨g, _, hnot, _⟩
    exact absurd (fun i hi => count_all listed hsz hc i (by omega)) hnot
  | succ fuel ih =>
    intro listed a w hsz hc hcl hI
    refine ⟨fun hr => ?_, fun i hi => ?_⟩
    · obtain ⟨g, _, hnot, _⟩ := hI
      exact absurd (fun i hi => ready_all hed listed hsz hr i (by omega)) hnot
    · obtain ⟨o, ho, hisz, hif, hpre⟩ := mem_ready' hsz hi
      have hset := set_listed (listed := listed) (i := i) (by omega)
      have hcnt := set_count (listed := listed) (i := i) (by omega) hif
      refine wpOp_of ho (seg_step hchk hvl hop tail hcl hif ho hpre hI (wpAny P .any ops Q fuel (listed.setIfInBounds i true)) (fun a w hI' => ?_) fun a w hlt hT => ?_)
      · refine ih _ a w (by simpa using hsz) (by omega) ?_ ?_
        · intro j o' hj hoj e he hb
          rw [hset] at hj ⊢
          simp only [Bool.or_eq_true, Nat.beq_eq] at hj ⊢
          rcases hj with hj | hj
          · exact .inl (hcl j o' hj hoj e he hb)
          · subst hj
            rw [ho] at hoj; obtain rfl := Option.some.inj hoj
            exact .inl (hpre e he hb)
        · have : (fun j => (listed.setIfInBounds i true).getD j false) = fun j => listed.getD j false || Nat.beq j i := funext hset
          rw [this]; exact hI'
      · refine hT fuel _ (by simpa using hsz) (by omega) fun j => ?_
        rw [hset]; exact hlt j
end draw
section rules
variable {P : Program} {w0 : World} {Pr : Fp} {N : Nat} {E : Env} {Γ : Gam} {ops : Array Oper} {Q : Exit → Act → World → Prop}
theorem HQ.dEnd {n : Nat} (hn : ops.size = n) (h : HQ w0 Pr N E Γ (Q .normal)) : HQ w0 Pr N E Γ (wpD P ops Q n) := by
  subst hn
  intro a w hs fuel listed hsz hc hl
  have hall : Region.ready .any ops listed = [] := by
    cases hr : Region.ready .any ops listed with
    | nil => rfl
    | cons x xs =>
      obtain ⟨o, ho, hisz, hif, _⟩ := mem_ready' hsz (i := x) (by rw [hr]; simp)
      rw [(hl x).2 hisz] at hif; cases hif
  cases fuel with
  | zero => exact ⟨hall, h a w hs⟩
  | succ fuel => exact ⟨fun _ => h a w hs, fun i hi => by rw [hall] at hi; cases hi⟩
theorem wpD_one {c : Nat} {o : Oper} {a : Act} {w : World} (ho : ops[c]? = some o) (hc2 : cutB ops (c + 1) = true) (h : wpS P ops (wpD P ops Q (c + 1)) [o] a w) (hcl : ∀ i, i < c → ∀ o, ops[i]? = some o → ∀ e ∈ o.after, Region.binds .any e = true → e.on < c) (hed : edgesOk ops = true) : wpD P ops Q c a w := by
  intro fuel listed hsz hc hl
  have hcs : c < ops.size := by
    rcases Nat.lt_or_ge c ops.size with h | h
    · exact h
    · rw [Array.getElem?_eq_none h] at ho; cases ho
  have hcf : listed.getD c false = false := by
    cases e : listed.getD c false with
    | false => rfl
    | true => have := (hl c).1 e; omega
  cases fuel with
  | zero => have := count_all listed hsz hc c hcs; rw [hcf] at this; cases this
  | succ fuel =>
    refine ⟨fun hr => ?_, fun i hi => ?_⟩
    · have := ready_all hed listed hsz hr c hcs; rw [hcf] at this; cases this
    · obtain ⟨o', ho', hisz, hif, hpre⟩ := mem_ready' hsz hi
      have hcl' : ∀ i o, listed.getD i false = true → ops[i]? = some o → ∀ e ∈ o.after, Region.binds .any e = true → listed.getD e.on false = true := fun i o h1 h2 e he hb => (hl _).2 (hcl i ((hl i).1 h1) o h2 e he hb)
      have hic : i = c := by
        rcases Nat.lt_trichotomy i c with h | h | h
        · rw [(hl i).2 h] at hif; cases hif
        · exact h
        · have h1 := List.all_eq_true.1 hc2 i (by simpa using hisz)
          simp only [Bool.or_eq_true, Nat.blt_eq] at h1
          have h2 := List.all_eq_true.1 (h1.resolve_left (by omega)) c (by simp)
          have := before_closed (fun i => listed.getD i false) hcl' i (.inr ⟨o', ho', hpre⟩) c h2
          rw [hcf] at this; cases this
      subst hic
      rw [ho] at ho'; obtain rfl := Option.some.inj ho'
      have hset := set_listed (listed := listed) (i := i) (by omega)
      have hcnt := set_count (listed := listed) (i := i) (by omega) hif
      have fin : ∀ a w, wpD P ops Q (i + 1) a w → wpAny P .any ops Q fuel (listed.setIfInBounds i true) a w := fun a w hw => hw fuel _ (by simpa using hsz) (by omega) fun j => by
        rw [hset]; simp only [Bool.or_eq_true, hl j, Nat.beq_eq]; omega
      refine wpOp_of ho ?_
      simp only [wpS] at h
      split at h
      · rename_i hw
        rw [if_pos hw]; exact h.mono fun v w' hh => fin _ _ hh
      · rename_i hw
        rw [if_neg hw]; exact fin _ _ h
def lowB (ops : Array Oper) (c : Nat) : Bool := (List.range c).all fun i => match ops[i]? with
  | some o => o.after.all fun e => !Region.binds .any e || Nat.blt e.on c
  | none => true
theorem lowB_iff {c : Nat} (h : lowB ops c = true) : ∀ i, i < c → ∀ o, ops[i]? = some o → ∀ e ∈ o.after, Region.binds .any e = true → e.on < c := by
  intro i hi o ho e he hb
  have := List.all_eq_true.1 h i (by simpa using hi)
  rw [ho] at this
  have := Array.all_eq_true'.1 this e he
  simpa [hb, Nat.blt_eq] using this
def runB (ops : Array Oper) (c : Nat) : Nat → Bool
  | 0 => true
  | n + 1 => cutB ops (c + 1) && lowB ops c && runB ops (c + 1) n
theorem HQ.dRun {c : Nat} (n : Nat) {l : List Oper} (hl : (ops.toList.drop c).take n = l) (hn : l.length = n) (hr : runB ops c n = true) (hed : edgesOk ops = true) (h : HQ w0 Pr N E Γ (wpS P ops (wpD P ops Q (c + n)) l)) : HQ w0 Pr N E Γ (wpD P ops Q c) := by
  have key : ∀ (l : List Oper) (c : Nat) (a : Act) (w : World), (ops.toList.drop c).take l.length = l → runB ops c l.length = true → wpS P ops (wpD P ops Q (c + l.length)) l a w → wpD P ops Q c a w := by
    intro l
    induction l with
    | nil => intro c a w _ _ h; exact h
    | cons o l ih =>
      intro c a w hl hr h
      simp only [List.length_cons, runB, Bool.and_eq_true] at hr hl h
      have hd : ops.toList.drop c = o :: (ops.toList.drop c).drop 1 := by
        cases hx : ops.toList.drop c with
        | nil => rw [hx] at hl; simp at hl
        | cons y ys => rw [hx] at hl; simp only [List.take_succ_cons, List.cons.injEq] at hl; rw [hl.1]; rfl
      have ho : ops[c]? = some o := by
        have := congrArg (·[0]?) hd
        simp only [List.getElem?_drop, List.getElem?_cons_zero, Nat.add_zero] at this
        rw [Array.getElem?_toList] at this; exact this
      refine wpD_one ho hr.1.1 ?_ (lowB_iff hr.1.2) hed
      rw [hd, List.take_succ_cons, List.drop_drop] at hl
      have hl' := (List.cons.inj hl).2
      have e : c + (l.length + 1) = c + 1 + l.length := by omega
      rw [e] at h
      simp only [wpS] at h ⊢
      split at h
      · rename_i hw
        rw [if_pos hw]; exact h.mono fun v w' hh => ih (c + 1) _ _ hl' hr.2 hh
      · rename_i hw
        rw [if_neg hw]; exact ih (c + 1) _ _ hl' hr.2 h
  intro a w hs
  subst hn
  exact key l c a w hl hr (h a w hs)
theorem HQ.dSeg {c : Nat} {G : Type} (E0 : Env) (m : Nat) (D : List DOp) (R : List DRes) (vals : G → List Value) (res : G → List HP) (g0 : G)
    (rs ks ds : List Nat) (hE0 : Sub E E0) (ht : Takes Γ rs (pickR (res g0) ((List.range R.length).filter (avail R fun i => Nat.blt i c)))) (hcm : Nat.blt c m = true) (hchk : chk2 ops N c m E0 D R = true) (hlow : lowB ops c = true) (hvl : ∀ g, (vals g).length = m)
    (hu : updOk Γ rs (ks ++ ds) = true) (hlen : ∀ g, (pickR (res g) ((List.range R.length).filter (avail R fun i => Nat.blt i m))).length = ks.length)
    (hop : ∀ i D', c ≤ i → D[i]? = some D' → OpOK2 P w0 Pr E0 ops R vals res i D')
    (k : ∀ g, HQ w0 Pr N (envOf ops (vals g) (List.range' c (m - c)) ++ E0) ((ks ++ ds).zip (pickR (res g) ((List.range R.length).filter (avail R fun i => Nat.blt i m)) ++ emps ds) ++ Γ) (wpD P ops Q m)) :
    HQ w0 Pr N E Γ (wpD P ops Q c) := by
  intro a w hs fuel listed hsz hc hl
  simp only [updOk, Bool.and_eq_true] at hu
  obtain ⟨⟨⟨u1, u2⟩, u3⟩, u4⟩ := hu
  have hcm' : c < m := by simpa [Nat.blt_eq] using hcm
  have hperm := live_takes (s := []) ht u1 (by simp)
  rw [List.append_nil] at hperm
  obtain ⟨F0, hF0, hb0⟩ := hs.sat
  have hSf : (fun i => listed.getD i false) = fun i => Nat.blt i c := by
    funext i
    rw [Bool.eq_iff_iff, Nat.blt_eq]; exact hl i
  have hs1 : St w0 Pr N E0 (idx 0 (pickR (res g0) ((List.range R.length).filter (avail R fun i => Nat.blt i c)) ++ live rs Γ)) a w :=
    { (hs.sub hE0) with sat := ⟨F0, by rw [live_idx _ 0 [] (by simp)]; exact Sat.perm hperm hF0, hb0⟩ }
  refine seg_any (Rest := live rs Γ) hchk hvl hop ?_ fuel listed a w hsz hc ?_ ⟨g0, ⟨?_, ?_⟩, ?_, ?_, ?_⟩
  · intro g a w hst htm
    refine k g a w ?_
    have hlen' : (pickR (res g) ((List.range R.length).filter (avail R fun i => Nat.blt i m)) ++ emps ds).length = (ks ++ ds).length := by simp [hlen g, emps_len]
    have z1 : ((ks ++ ds).zip (pickR (res g) ((List.range R.length).filter (avail R fun i => Nat.blt i m)) ++ emps ds)).map (·.1) = ks ++ ds := List.map_fst_zip (by rw [hlen']; exact Nat.le_refl _)
    have z2 : ((ks ++ ds).zip (pickR (res g) ((List.range R.length).filter (avail R fun i => Nat.blt i m)) ++ emps ds)).map (·.2) = pickR (res g) ((List.range R.length).filter (avail R fun i => Nat.blt i m)) ++ emps ds :=
      List.map_snd_zip (by rw [hlen']; exact Nat.le_refl _)
    obtain ⟨F', hF', hb'⟩ := hst.sat
    rw [live_idx _ 0 [] (by simp)] at hF'
    have hkk : live (ks ++ ds) Γ = live rs Γ := by
      rw [← live_union u3]
      exact live_congr fun x => by simp only [List.mem_append]; exact ⟨.inl, fun h => h.elim (fun h => by simpa using h) fun h => by simpa using subB_mem u4 x h⟩
    refine { hst with env := ?_, sat := ⟨F', ?_, hb'⟩ }
    · intro t v ht'
      rw [look_app] at ht'
      split at ht'
      · rename_i u hu'
        obtain rfl := Option.some.inj ht'
        have hmem := look_mem hu'
        unfold envOf at hmem
        obtain ⟨j, hj, hjv⟩ := List.mem_filterMap.1 hmem
        simp only [List.mem_range'_1] at hj
        split at hjv
        · rename_i d v' hd hv'
          obtain ⟨rfl, rfl⟩ := Prod.mk.inj (Option.some.inj hjv)
          obtain ⟨v2, h1, h2⟩ := htm j hj.1 (by omega) d hd
          rw [hv'] at h1; obtain rfl := Option.some.inj h1
          exact h2
        · cases hjv
      · exact hst.env t v ht'
    · rw [live_app (by rw [z1]; exact u2) (by simp), List.append_nil, z1, z2, hkk]
      obtain ⟨A, B, sp, h1, h2⟩ := Sat.append.1 hF'
      exact Sat.append.2 ⟨A, B, sp, h1.emps ds, h2⟩
  · intro i o h1 h2 e he hb
    exact (hl _).2 (lowB_iff hlow i ((hl i).1 h1) o h2 e he hb)
  · rw [hSf]; exact hs1
  · intro j hj hjm hS
    have := (hl j).1 hS; omega
  · intro h
    have := (hl c).1 (h c hcm'); omega
  · intro i hi
    show listed.getD i false = false
    cases e : listed.getD i false with
    | false => rfl
    | true => have := (hl i).1 e; omega
  · exact fun i hi => (hl i).2 hi
theorem HQ.dStart {id : Nat} (hmx : P.follows .mixedOrders = true) (h : HQ w0 Pr N E Γ (wpD P ops Q 0)) : HQ w0 Pr N E Γ ((Code.region id ops true).wp P Q) := by
  intro a w hs
  refine wp_region_any hmx (h a { w with drawn := w.drawn + 1 } { hs with } ops.size (Array.replicate ops.size false) (by simp) (by simp [List.filter_replicate]) fun i => ?_)
  simp only [Array.getD_eq_getD_getElem?, Array.getElem?_replicate]
  split <;> simp
theorem OpOK2.of {E0 : Env} {R : List DRes} {G : Type} {vals : G → List Value} {res : G → List HP} {i : Nat} {D : DOp} {ι : Type} {o : Oper} (vs : G → List (Operand × Value)) (val : G → ι → Value) (Post : G → ι → List HP) (upd : G → ι → G)
    (ho : ops[i]? = some o) (hg : o.guard = none) (hev : ∀ g, Evs (envOf ops (vals g) D.ins ++ E0) (vs g)) (hot : ∀ g, OT P w0 Pr o (vs g) (pickR (res g) D.needs) (val g) (Post g))
    (hx : ∀ g x, vals (upd g x) = (vals g).set i (val g x) ∧ Post g x = pickR (res (upd g x)) D.makes ∧ sameBut R i (res g) (res (upd g x))) : OpOK2 P w0 Pr E0 ops R vals res i D :=
  fun g => ⟨o, ι, val g, Post g, upd g, vs g, ho, .inl ⟨fun a _ => wanted_none hg _, hev g, hot g⟩, fun x => ⟨AgreeV.of_set (hx g x).1, (hx g x).2.1, AgreeR.of (hx g x).2.2⟩⟩
theorem OpOK2.on {E0 : Env} {R : List DRes} {G : Type} {vals : G → List Value} {res : G → List HP} {i j : Nat} {D : DOp} {ι : Type} {d : Option Tmp} {op : Op} {ty : TypeId} {ps : String} {af : Array Edge} {want b : Bool} {t : Tmp}
    (vs : G → List (Operand × Value)) (val : G → ι → Value) (Post : G → ι → List HP) (upd : G → ι → G)
    (ho : ops[i]? = some ⟨d, op, ty, ps, af, some (j, want)⟩) (hj : (ops[j]?).bind (·.dst) = some t) (hE : look E0 t = some (.bool b)) (hb : b = want) (hev : ∀ g, Evs (envOf ops (vals g) D.ins ++ E0) (vs g)) (hot : ∀ g, OT P w0 Pr ⟨d, op, ty, ps, af, none⟩ (vs g) (pickR (res g) D.needs) (val g) (Post g))
    (hx : ∀ g x, vals (upd g x) = (vals g).set i (val g x) ∧ Post g x = pickR (res (upd g x)) D.makes ∧ sameBut R i (res g) (res (upd g x))) : OpOK2 P w0 Pr E0 ops R vals res i D :=
  fun g => ⟨_, ι, val g, Post g, upd g, vs g, ho, .inl ⟨fun a ha => by subst hb; simp [Region.wanted, yielded, hj, ha t _ hE], hev g, hot g⟩, fun x => ⟨AgreeV.of_set (hx g x).1, (hx g x).2.1, AgreeR.of (hx g x).2.2⟩⟩
theorem OpOK2.ofD {E0 : Env} {R : List DRes} {G : Type} {vals : G → List Value} {res : G → List HP} {i : Nat} {D : DOp} {ι : Type} {o : Oper} (dep : List Nat) (hd : (dep.all fun j => ((Region.before ops).getD j 0).testBit i) = true) (vs : G → List (Operand × Value)) (val : G → ι → Value) (Post : G → ι → List HP) (upd : G → ι → G)
    (ho : ops[i]? = some o) (hg : o.guard = none) (hev : ∀ g, Evs (envOf ops (vals g) D.ins ++ E0) (vs g)) (hot : ∀ g, OT P w0 Pr o (vs g) (pickR (res g) D.needs) (val g) (Post g))
    (hx : ∀ g x, sameD i dep (val g x) 0 (vals g) (vals (upd g x)) ∧ Post g x = pickR (res (upd g x)) D.makes ∧ sameButD R (i :: dep) (res g) (res (upd g x))) : OpOK2 P w0 Pr E0 ops R vals res i D :=
  fun g => ⟨o, ι, val g, Post g, upd g, vs g, ho, .inl ⟨fun a _ => wanted_none hg _, hev g, hot g⟩, fun x => ⟨(hx g x).1.agree hd, (hx g x).2.1, (hx g x).2.2.agree hd⟩⟩
theorem OpOK2.off {E0 : Env} {R : List DRes} {G : Type} {vals : G → List Value} {res : G → List HP} {i j : Nat} {D : DOp} {d : Option Tmp} {op : Op} {ty : TypeId} {ps : String} {af : Array Edge} {want b : Bool} {t : Tmp}
    (ho : ops[i]? = some ⟨d, op, ty, ps, af, some (j, want)⟩) (hj : (ops[j]?).bind (·.dst) = some t) (hE : look E0 t = some (.bool b)) (hb : b = !want) (hn : D.needs = []) (hm : D.makes = [])
    (hx : ∀ g, vals g = (vals g).set i undef ∧ sameBut R i (res g) (res g)) : OpOK2 P w0 Pr E0 ops R vals res i D :=
  fun g => ⟨_, Unit, fun _ => undef, fun _ => [], fun _ => g, [], ho, .inr ⟨fun a ha => by subst hb; simp only [Region.wanted, yielded, hj, Option.bind_some, ha t _ hE]; cases want <;> simp, hn, (), rfl, rfl⟩, fun _ => ⟨AgreeV.of_set (hx g).1, by rw [hm]; rfl, AgreeR.of (hx g).2⟩⟩
theorem OpOK2.offU {E0 : Env} {R : List DRes} {G : Type} {vals : G → List Value} {res : G → List HP} {i j : Nat} {D : DOp} {d : Option Tmp} {op : Op} {ty : TypeId} {ps : String} {af : Array Edge} {want : Bool} {t : Tmp}
    (ho : ops[i]? = some ⟨d, op, ty, ps, af, some (j, want)⟩) (hj : (ops[j]?).bind (·.dst) = some t) (hE : look E0 t = some undef) (hn : D.needs = []) (hm : D.makes = [])
    (hx : ∀ g, vals g = (vals g).set i undef ∧ sameBut R i (res g) (res g)) : OpOK2 P w0 Pr E0 ops R vals res i D :=
  fun g => ⟨_, Unit, fun _ => undef, fun _ => [], fun _ => g, [], ho, .inr ⟨fun a ha => by simp only [Region.wanted, yielded, hj, Option.bind_some, ha t _ hE, undef]; cases want <;> simp, hn, (), rfl, rfl⟩, fun _ => ⟨AgreeV.of_set (hx g).1, by rw [hm]; rfl, AgreeR.of (hx g).2⟩⟩
def OpAll2 (P : Program) (w0 : World) (Pr : Fp) (E0 : Env) (ops : Array Oper) (R : List DRes) {G : Type} (vals : G → List Value) (res : G → List HP) : Nat → List DOp → Prop
  | _, [] => True
  | i, d :: D => OpOK2 P w0 Pr E0 ops R vals res i d ∧ OpAll2 P w0 Pr E0 ops R vals res (i + 1) D
theorem OpAll2.get {E0 : Env} {R : List DRes} {G : Type} {vals : G → List Value} {res : G → List HP} : ∀ {D : List DOp} {i : Nat}, OpAll2 P w0 Pr E0 ops R vals res i D → ∀ k d, D[k]? = some d → OpOK2 P w0 Pr E0 ops R vals res (i + k) d
  | [], _, _, k, d, h => by simp at h
  | x :: D, i, ⟨h1, _⟩, 0, d, h => by obtain rfl : x = d := by simpa using h
                                      exact h1
  | x :: D, i, ⟨_, h2⟩, k + 1, d, h => by
    have := h2.get k d (by simpa using h)
    rwa [show i + 1 + k = i + (k + 1) by omega] at this
theorem HQ.dPart {c : Nat} {G : Type} (E0 : Env) (m : Nat) (D : List DOp) (R : List DRes) (vals : G → List Value) (res : G → List HP) (g0 : G)
    (rs ks ds : List Nat) (hE0 : Sub E E0) (ht : Takes Γ rs (pickR (res g0) ((List.range R.length).filter (avail R fun i => Nat.blt i c)))) (hcm : Nat.blt c m = true) (hchk : chk2 ops N c m E0 D R = true) (hlow : lowB ops c = true) (hvl : ∀ g, (vals g).length = m)
    (hu : updOk Γ rs (ks ++ ds) = true) (hlen : ∀ g, (pickR (res g) ((List.range R.length).filter (avail R fun i => Nat.blt i m))).length = ks.length)
    {D' : List DOp} (hD' : D.drop c = D') (hop : OpAll2 P w0 Pr E0 ops R vals res c D')
    (k : ∀ g, HQ w0 Pr N (envOf ops (vals g) (List.range' c (m - c)) ++ E0) ((ks ++ ds).zip (pickR (res g) ((List.range R.length).filter (avail R fun i => Nat.blt i m)) ++ emps ds) ++ Γ) (wpD P ops Q m)) :
    HQ w0 Pr N E Γ (wpD P ops Q c) := by
  subst hD'
  refine HQ.dSeg E0 m D R vals res g0 rs ks ds hE0 ht hcm hchk hlow hvl hu hlen (fun i d hi hd => ?_) k
  have := hop.get (i - c) d (by rw [List.getElem?_drop, show c + (i - c) = i by omega]; exact hd)
  rwa [show c + (i - c) = i by omega] at this
theorem HQ.dUse {m' : Nat} {E' : Env} {Γ' : Gam} (h : HQ w0 Pr N E' Γ' (wpD P ops Q m')) (hE : Sub E E') (hG : GSub Γ Γ') (hn : nodupB (Γ'.map (·.1)) = true) : HQ w0 Pr N E Γ (wpD P ops Q m') := HQ.keep E' hE (HQ.keepR Γ' hG hn h)
theorem HQ.dMid {k m' : Nat} (E' : Env) (Γ' : Gam) (h1 : HQ w0 Pr N E' Γ' (wpD P ops Q m') → HQ w0 Pr N E Γ (wpD P ops Q k)) (h2 : HQ w0 Pr N E' Γ' (wpD P ops Q m')) : HQ w0 Pr N E Γ (wpD P ops Q k) := h1 h2
end rules
end Go.Proofs.Sx

