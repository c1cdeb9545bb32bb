/- Part of a program logic; see the notes. -/
import Derived.Test.YtkhommmhkeohbaaL0
import Derived.RowKit
import Derived.IntWalk
namespace Go.Proofs.Sx
open Go.RowKit
set_option linter.unusedVariables false
set_option linter.unusedSimpArgs false
structure St (w0 : World) (Pr : Fp) (N : Nat) (E : Env) (Γ : Gam) (a : Act) (w : World) : Prop where
  dfr : a.defers = []
  siz : a.tmps.size = N
  env : ∀ t v, look E t = some v → a.tmps[t]? = some v
  os : w.os = w0.os
  tape : w.tape = w0.tape
  output : w.output = w0.output
  size : w0.heap.size ≤ w.heap.size
  pres : ∀ b, Pr b → b < w0.heap.size ∧ w.heap[b]? = w0.heap[b]?
  sat : ∃ F, Sat (live [] Γ) w.heap F ∧ ∀ b, F b → ¬ Pr b ∧ b < w.heap.size
structure Step (w : World) (F : Fp) (w' : World) (L : List HP) : Prop where
  os : w'.os = w.os
  tape : w'.tape = w.tape
  output : w'.output = w.output
  size : w.heap.size ≤ w'.heap.size
  keep : ∀ b, b < w.heap.size → ¬ F b → w'.heap[b]? = w.heap[b]?
  sat : ∃ F', Sat L w'.heap F' ∧ ∀ b, F' b → (F b ∨ w.heap.size ≤ b) ∧ b < w'.heap.size
theorem Step.refl {w : World} {F : Fp} {L : List HP} (h : Sat L w.heap F) (hb : ∀ b, F b → b < w.heap.size) : Step w F w L :=
  ⟨rfl, rfl, rfl, Nat.le_refl _, fun _ _ _ => rfl, F, h, fun b hf => ⟨.inl hf, hb b hf⟩⟩
def HQ (w0 : World) (Pr : Fp) (N : Nat) (E : Env) (Γ : Gam) (Q : Act → World → Prop) : Prop := ∀ a w, St w0 Pr N E Γ a w → Q a w
def Runs (P : Program) (o : Oper) (ρ : Operand → Value) (w : World) (R : Value → World → Prop) : Prop :=
  match (execOp ρ o).run P w with
  | .ok (.value v) w' => R v w'
  | .ok .skip w' => R undef w'
  | .ok (.enter f args) w' => Calls P f args w' fun e w'' => ∃ v, e = .returned v ∧ R v w''
  | _ => False
theorem Runs.mono {P : Program} {o : Oper} {ρ : Operand → Value} {w : World} {R R' : Value → World → Prop} (h : Runs P o ρ w R)
    (k : ∀ v w', R v w' → R' v w') : Runs P o ρ w R' := by
  unfold Runs at *
  split at h
  · exact k _ _ h
  · exact k _ _ h
  · exact h.mono fun e w'' ⟨v, he, hr⟩ => ⟨v, he, k _ _ hr⟩
  · exact h
theorem Runs.wp {P : Program} {o : Oper} {a : Act} {w : World} {next : Act → World → Prop} {Q : Exit → Act → World → Prop}
    (h : Runs P o a.eval w fun v w' => next (a.put o.dst v) w') : o.wp P a w next Q := by
  unfold Runs at h
  unfold Oper.wp
  split at h <;> rename_i hr
  · rw [hr]; exact h
  · rw [hr]; exact h
  · rw [hr]
    refine h.mono fun e w'' hx => ?_
    obtain ⟨v, he, hx⟩ := hx
    subst he
    exact hx
  · exact h.elim
def wpS (P : Program) (ops : Array Oper) (K : Act → World → Prop) : List Oper → Act → World → Prop
  | [], a, w => K a w
  | o :: rest, a, w =>
    if Region.wanted o (yielded ops a.tmps) then Runs P o a.eval w fun v w' => wpS P ops K rest (a.put o.dst v) w'
    else wpS P ops K rest (a.put o.dst undef) w
theorem wpS_ops {P : Program} {ops : Array Oper} {Q : Exit → Act → World → Prop} : ∀ (l pre : List Oper), ops.toList = pre ++ l → ∀ a w,
    wpS P ops (Q .normal) l a w → wpOps P ops Q (List.range' pre.length l.length) a w
  | [], pre, _, a, w, h => h
  | o :: l, pre, hl, a, w, h => by
    have ho : ops[pre.length]? = some o := by
      rw [← Array.getElem?_toList, hl, List.getElem?_append_right (Nat.le_refl _)]; simp
    have ih := wpS_ops (P := P) (Q := Q) l (pre ++ [o]) (by rw [hl]; simp)
    simp only [List.length_append, List.length_cons, List.length_nil, Nat.zero_add] at ih
    simp only [List.length_cons, List.range'_succ, wpOps, ho]
    simp only [wpS] at h
    split at h
    · rename_i hw
      rw [if_pos hw]
      exact .inl (Runs.wp (h.mono fun v w' hh => ih _ _ hh))
    · rename_i hw
      rw [if_neg hw]
      exact ih _ _ h
section rules
variable {P : Program} {w0 : World} {Pr : Fp} {N : Nat} {E : Env} {Γ : Gam}
theorem HQ.mono {Q Q' : Act → World → Prop} (h : HQ w0 Pr N E Γ Q) (k : ∀ a w, Q a w → Q' a w) : HQ w0 Pr N E Γ Q' := fun a w hs => k a w (h a w hs)
theorem HQ.seq {x y : Code} {Q : Exit → Act → World → Prop} (h : HQ w0 Pr N E Γ (x.wp P (Exit.then (y.wp P Q) Q))) : HQ w0 Pr N E Γ ((Code.seq x y).wp P Q) :=
  fun a w hs => wp_seq (h a w hs)
theorem HQ.region {id : Nat} {ops : Array Oper} {K : Act → World → Prop} {Q : Exit → Act → World → Prop} (h : HQ w0 Pr N E Γ (wpS P ops K ops.toList)) :
    HQ w0 Pr N E Γ ((Code.region id ops false).wp P (Exit.then K Q)) :=
  fun a w hs => wp_region (by
    have := wpS_ops (P := P) (ops := ops) (Q := Exit.then K Q) ops.toList [] rfl a w (h a w hs)
    simpa [List.range_eq_range'] using this)
theorem HQ.regionQ {id : Nat} {ops : Array Oper} {Q : Exit → Act → World → Prop} (h : HQ w0 Pr N E Γ (wpS P ops (Q .normal) ops.toList)) :
    HQ w0 Pr N E Γ ((Code.region id ops false).wp P Q) :=
  fun a w hs => wp_region (by
    have := wpS_ops (P := P) (ops := ops) (Q := Q) ops.toList [] rfl a w (h a w hs)
    simpa [List.range_eq_range'] using this)
theorem HQ.rseq {id : Nat} {ops : Array Oper} {y : Code} {Q : Exit → Act → World → Prop} (h : HQ w0 Pr N E Γ (wpS P ops (y.wp P Q) ops.toList)) :
    HQ w0 Pr N E Γ ((Code.seq (.region id ops false) y).wp P Q) := .seq (.region h)
theorem HQ.done {ops : Array Oper} {K : Act → World → Prop} (h : HQ w0 Pr N E Γ K) : HQ w0 Pr N E Γ (wpS P ops K []) := h
theorem HQ.skip {Q : Exit → Act → World → Prop} (h : HQ w0 Pr N E Γ (Q .normal)) : HQ w0 Pr N E Γ (Code.skip.wp P Q) := fun a w hs => wp_skip (h a w hs)
theorem HQ.skipThen {K : Act → World → Prop} {Q : Exit → Act → World → Prop} (h : HQ w0 Pr N E Γ K) : HQ w0 Pr N E Γ (Code.skip.wp P (Exit.then K Q)) := fun a w hs => wp_skip (h a w hs)
theorem HQ.exit {id : Nat} {Q : Exit → Act → World → Prop} (h : HQ w0 Pr N E Γ (Q (.exit id))) : HQ w0 Pr N E Γ ((Code.exit id).wp P Q) := fun a w hs => wp_exit (h a w hs)
theorem HQ.ret {Q : Exit → Act → World → Prop} (h : HQ w0 Pr N E Γ (Q .ret)) : HQ w0 Pr N E Γ (Code.ret.wp P Q) := fun a w hs => wp_ret (h a w hs)
theorem HQ.block {id : Nat} {c : Code} {Q : Exit → Act → World → Prop} (h : HQ w0 Pr N E Γ (c.wp P (Exit.inBlock id Q))) : HQ w0 Pr N E Γ ((Code.block id c).wp P Q) :=
  fun a w hs => wp_block (h a w hs)
def ev (E : Env) : Operand → Option Value
  | .tmp t => look E t
  | .const v => some v
  | .global g => some (.pointer (some ⟨g, 0, none⟩))
  | .func f => some (.func (.func f) #[] #[])
theorem St.ev {a : Act} {w : World} (hs : St w0 Pr N E Γ a w) {x : Operand} {v : Value} (h : ev E x = some v) : a.eval x = v := by
  cases x with
  | tmp t =>
    have := hs.env t v h
    simp [Act.eval, Array.getD_eq_getD_getElem?, this]
  | const u => exact Option.some.inj h
  | global g => exact Option.some.inj h
  | func f => exact Option.some.inj h
theorem HQ.cond {c : Operand} {x y : Code} {Q : Exit → Act → World → Prop} {t : Bool} (hc : ev E c = some (.bool t)) (ht : t = true → HQ w0 Pr N E Γ (x.wp P Q))
    (hf : t = false → HQ w0 Pr N E Γ (y.wp P Q)) : HQ w0 Pr N E Γ ((Code.cond c x y).wp P Q) :=
  fun a w hs => wp_cond_split (hs.ev hc) (fun h => ht h a w hs) (fun h => hf h a w hs)
theorem HQ.condT {c : Operand} {x y : Code} {Q : Exit → Act → World → Prop} {t : Bool} (hc : ev E c = some (.bool t)) (h : t = true) (ht : HQ w0 Pr N E Γ (x.wp P Q)) :
    HQ w0 Pr N E Γ ((Code.cond c x y).wp P Q) := .cond hc (fun _ => ht) (fun h' => by rw [h] at h'; cases h')
theorem HQ.condF {c : Operand} {x y : Code} {Q : Exit → Act → World → Prop} {t : Bool} (hc : ev E c = some (.bool t)) (h : t = false) (ht : HQ w0 Pr N E Γ (y.wp P Q)) :
    HQ w0 Pr N E Γ ((Code.cond c x y).wp P Q) := .cond hc (fun h' => by rw [h] at h'; cases h') (fun _ => ht)
def Sub (E : Env) : Env → Prop
  | [] => True
  | (t, v) :: E' => look E t = some v ∧ Sub E E'
theorem Sub.lk : ∀ {E' : Env}, Sub E E' → ∀ t v, look E' t = some v → look E t = some v
  | [], _, t, v, h => by simp [look] at h
  | (k, u) :: E', ⟨h1, h2⟩, t, v, h => by
    rw [look_cons] at h
    by_cases hk : k = t
    · rw [if_pos hk] at h; rw [← hk, h1]; exact h
    · rw [if_neg hk] at h; exact Sub.lk h2 t v h
theorem St.sub {a : Act} {w : World} {E' : Env} (hs : St w0 Pr N E Γ a w) (h : Sub E E') : St w0 Pr N E' Γ a w :=
  { hs with env := fun t v ht => hs.env t v (h.lk t v ht) }
theorem HQ.keep {Q : Act → World → Prop} (E' : Env) (h : Sub E E') (k : HQ w0 Pr N E' Γ Q) : HQ w0 Pr N E Γ Q := fun a w hs => k a w (hs.sub h)
theorem Sat.drop {L M : List HP} {h : Heap} {F : Fp} (hs : Sat (L ++ M) h F) : ∃ F', Sat L h F' ∧ ∀ b, F' b → F b := by
  obtain ⟨F1, F2, hsp, h1, h2⟩ := Sat.append.1 hs
  exact ⟨F1, h1, fun b hb => hsp.left hb⟩
def GSub (Γ : Gam) (Γ' : Gam) : Prop := Takes Γ (Γ'.map (·.1)) (Γ'.map (·.2))
theorem live_nodup : ∀ {Γ : Gam} {s : List Nat}, nodupB (Γ.map (·.1)) = true → (∀ x ∈ Γ.map (·.1), x ∉ s) → live s Γ = Γ.map (·.2) := by
  intro Γ s h hs
  have := live_app (N := Γ) (Γ := []) (s := s) h hs
  simpa [live] using this
theorem St.gsub {a : Act} {w : World} {Γ' : Gam} (hs : St w0 Pr N E Γ a w) (h : GSub Γ Γ') (hn : nodupB (Γ'.map (·.1)) = true) : St w0 Pr N E Γ' a w := by
  obtain ⟨F, hF, hb⟩ := hs.sat
  have a := Sat.perm (live_takes (s := []) h hn (by simp)) hF
  obtain ⟨F', h1, h2⟩ := Sat.drop a
  refine { hs with sat := ⟨F', ?_, fun b hf => hb b (h2 b hf)⟩ }
  rw [live_nodup hn (by simp)]; exact h1
theorem HQ.keepR {Q : Act → World → Prop} (Γ' : Gam) (h : GSub Γ Γ') (hn : nodupB (Γ'.map (·.1)) = true) (k : HQ w0 Pr N E Γ' Q) : HQ w0 Pr N E Γ Q :=
  fun a w hs => k a w (hs.gsub h hn)
def Evs (E : Env) : List (Operand × Value) → Prop
  | [] => True
  | (x, v) :: r => ev E x = some v ∧ Evs E r
theorem Evs.get {a : Act} {w : World} (hs : St w0 Pr N E Γ a w) : ∀ {vs : List (Operand × Value)}, Evs E vs → ∀ x v, (x, v) ∈ vs → a.eval x = v
  | [], _, x, v, h => by simp at h
  | (y, u) :: r, ⟨h1, h2⟩, x, v, h => by
    rcases List.mem_cons.1 h with h | h
    · obtain ⟨rfl, rfl⟩ := Prod.mk.inj h; exact hs.ev h1
    · exact Evs.get hs h2 x v h
def Pu (P : Program) (o : Oper) (vs : List (Operand × Value)) (v : Value) : Prop :=
  ∀ (ρ : Operand → Value) (w : World), (∀ x u, (x, u) ∈ vs → ρ x = u) → (execOp ρ o).run P w = .ok (.value v) w
theorem St.put {a : Act} {w : World} (hs : St w0 Pr N E Γ a w) (d : Nat) (hd : d < N) (v : Value) : St w0 Pr N ((d, v) :: E) Γ (a.put (some d) v) w :=
  { hs with
    siz := by simp [Act.put, hs.siz]
    env := fun t u ht => by
      rw [look_cons] at ht
      simp only [Act.put, Array.getElem?_setIfInBounds]
      by_cases h : d = t
      · rw [if_pos h] at ht ⊢
        rw [if_pos (by rw [hs.siz]; exact hd)]; exact ht
      · rw [if_neg h] at ht ⊢
        exact hs.env t u ht }
theorem wanted_none {o : Oper} (h : o.guard = none) (y : Nat → Option Bool) : Region.wanted o y = true := by simp [Region.wanted, h]
theorem HQ.pu {o : Oper} {rest : List Oper} {ops : Array Oper} {K : Act → World → Prop} {vs : List (Operand × Value)} {v : Value} {d : Nat}
    (h : Pu P o vs v) (hv : Evs E vs) (hg : o.guard = none) (hd : o.dst = some d) (hl : Nat.blt d N = true)
    (k : HQ w0 Pr N ((d, v) :: E) Γ (wpS P ops K rest)) : HQ w0 Pr N E Γ (wpS P ops K (o :: rest)) := by
  intro a w hs
  simp only [wpS]
  rw [if_pos (wanted_none hg _)]
  unfold Runs
  rw [h a.eval w (Evs.get hs hv), hd]
  exact k _ _ (hs.put d (by simpa [Nat.blt_eq] using hl) v)
def OT (P : Program) (w0 : World) (Pr : Fp) (o : Oper) (vs : List (Operand × Value)) (Pre : List HP) {ι : Type} (val : ι → Value) (Post : ι → List HP) : Prop :=
  ∀ (ρ : Operand → Value) (w : World) (F : Fp), (∀ x u, (x, u) ∈ vs → ρ x = u) → Sat Pre w.heap F → (∀ b, F b → ¬ Pr b ∧ b < w.heap.size) →
    (∀ b, Pr b → b < w.heap.size ∧ w.heap[b]? = w0.heap[b]?) → Runs P o ρ w fun v w' => ∃ i, v = val i ∧ Step w F w' (Post i)
theorem St.step {a : Act} {w w' : World} (hs : St w0 Pr N E Γ a w) {rs : List Nat} {Ps : List HP} {M : Gam} (ht : Takes Γ rs Ps) (hn : nodupB rs = true)
    (hN : nodupB (M.map (·.1)) = true) (hk : newOk Γ rs (M.map (·.1)) = true) (hsub : ∀ r ∈ rs, r ∈ M.map (·.1)) :
    ∃ F, Sat Ps w.heap F ∧ (∀ b, F b → ¬ Pr b ∧ b < w.heap.size) ∧ ∀ w', Step w F w' (M.map (·.2)) → St w0 Pr N E (M ++ Γ) a w' := by
  obtain ⟨F, hF, hb⟩ := hs.sat
  obtain ⟨F1, F2, hsp, h1, h2, hup⟩ := Sat.upd (h' := w.heap) ht hn hN hk hF
  refine ⟨F1, h1, fun b hf => hb b (hsp.left hf), fun w' st => ?_⟩
  obtain ⟨F', hF', hb'⟩ := st.sat
  refine { hs with os := st.os.trans hs.os, tape := st.tape.trans hs.tape, output := st.output.trans hs.output, size := Nat.le_trans hs.size st.size, pres := ?_, sat := ?_ }
  · intro b hp
    have := hs.pres b hp
    refine ⟨this.1, (st.keep b (Nat.lt_of_lt_of_le this.1 hs.size) fun hf => ?_).trans this.2⟩
    exact (hb b (hsp.left hf)).1 hp
  · refine ⟨fun b => F' b ∨ F2 b, hup w'.heap F' (fun b hf => ?_) hF' (fun b hf h2' => ?_) hsub, fun b hf => ?_⟩
    · exact st.keep b (hb b (hsp.right hf)).2 fun h => hsp.2 b h hf
    · rcases (hb' b hf).1 with h | h
      · exact hsp.2 b h h2'
      · have := (hb b (hsp.right h2')).2; omega
    · rcases hf with hf | hf
      · refine ⟨fun hp => ?_, (hb' b hf).2⟩
        rcases (hb' b hf).1 with h | h
        · exact (hb b (hsp.left h)).1 hp
        · have := (hs.pres b hp).1; have := hs.size; omega
      · exact ⟨(hb b (hsp.right hf)).1, Nat.lt_of_lt_of_le (hb b (hsp.right hf)).2 st.size⟩
def subB (rs ks : List Nat) : Bool := rs.all (has ks)
theorem subB_mem {rs ks : List Nat} (h : subB rs ks = true) : ∀ r ∈ rs, r ∈ ks := fun r hr => has_iff.1 (List.all_eq_true.1 h r hr)
def updOk (Γ : Gam) (rs ks : List Nat) : Bool := nodupB rs && nodupB ks && newOk Γ rs ks && subB rs ks
theorem HQ.op {o : Oper} {rest : List Oper} {ops : Array Oper} {K : Act → World → Prop} {vs : List (Operand × Value)} {Pre : List HP} {ι : Type} {val : ι → Value} {Post : ι → List HP} {d : Nat}
    (rs : List Nat) (ks : List Nat) (h : OT P w0 Pr o vs Pre val Post) (hv : Evs E vs) (ht : Takes Γ rs Pre) (hg : o.guard = none) (hd : o.dst = some d) (hl : Nat.blt d N = true)
    (hu : updOk Γ rs ks = true) (hlen : ∀ i, (Post i).length = ks.length)
    (k : ∀ i, HQ w0 Pr N ((d, val i) :: E) (ks.zip (Post i) ++ Γ) (wpS P ops K rest)) : HQ w0 Pr N E Γ (wpS P ops K (o :: rest)) := by
  intro a w hs
  simp only [wpS]
  rw [if_pos (wanted_none hg _)]
  simp only [updOk, Bool.and_eq_true] at hu
  obtain ⟨⟨⟨u1, u2⟩, u3⟩, u4⟩ := hu
  have z1 : ∀ i, (ks.zip (Post i)).map (·.1) = ks := fun i => List.map_fst_zip (by rw [hlen i]; exact Nat.le_refl _)
  have z2 : ∀ i, (ks.zip (Post i)).map (·.2) = Post i := fun i => List.map_snd_zip (by rw [hlen i]; exact Nat.le_refl _)
  obtain ⟨F0, hF0, hb0⟩ := hs.sat
  obtain ⟨F1, F2, hsp, h1, h2, _⟩ := Sat.upd (h' := w.heap) (N := []) ht u1 rfl rfl hF0
  have hr := h a.eval w F1 (Evs.get hs hv) h1 (fun b hf => hb0 b (hsp.left hf)) (fun b hp => ⟨Nat.lt_of_lt_of_le (hs.pres b hp).1 hs.size, (hs.pres b hp).2⟩)
  refine hr.mono fun v w' hx => ?_
  obtain ⟨i, rfl, st⟩ := hx
  rw [hd]
  refine k i _ _ (St.put ?_ d (by simpa [Nat.blt_eq] using hl) _)
  obtain ⟨F', hF', hb'⟩ := st.sat
  refine { hs with os := st.os.trans hs.os, tape := st.tape.trans hs.tape, output := st.output.trans hs.output, size := Nat.le_trans hs.size st.size, pres := ?_, sat := ?_ }
  · intro b hp
    have := hs.pres b hp
    refine ⟨this.1, (st.keep b (Nat.lt_of_lt_of_le this.1 hs.size) fun hf => ?_).trans this.2⟩
    exact (hb0 b (hsp.left hf)).1 hp
  · refine ⟨fun b => F' b ∨ F2 b, ?_, fun b hf => ?_⟩
    · have hkk : live ks Γ = live rs Γ := by
        rw [← live_union u3]
        exact live_congr fun x => by simp only [List.mem_append]; exact ⟨.inl, fun h => h.elim id (subB_mem u4 x)⟩
      have hl1 : live [] (ks.zip (Post i) ++ Γ) = Post i ++ live rs Γ := by
        rw [live_app (by rw [z1]; exact u2) (by simp), List.append_nil, z1, z2, hkk]
      rw [hl1]
      refine Sat.append.2 ⟨F', F2, ⟨fun b => Iff.rfl, fun b hf h2' => ?_⟩, hF', Sat.loc h2 fun b hf => st.keep b (hb0 b (hsp.right hf)).2 fun h => hsp.2 b h hf⟩
      rcases (hb' b hf).1 with h | h
      · exact hsp.2 b h h2'
      · have := (hb0 b (hsp.right h2')).2; omega
    · rcases hf with hf | hf
      · refine ⟨fun hp => ?_, (hb' b hf).2⟩
        rcases (hb' b hf).1 with h | h
        · exact (hb0 b (hsp.left h)).1 hp
        · have := (hs.pres b hp).1; have := hs.size; omega
      · exact ⟨(hb0 b (hsp.right hf)).1, Nat.lt_of_lt_of_le (hb0 b (hsp.right hf)).2 st.size⟩
end rules
end Go.Proofs.Sx

