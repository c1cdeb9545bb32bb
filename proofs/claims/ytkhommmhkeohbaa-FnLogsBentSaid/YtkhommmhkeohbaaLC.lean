/- Part of a program logic; see the notes. -/
import Derived.Test.YtkhommmhkeohbaaLB
namespace Go.Proofs.Sx
open Go.RowKit
set_option linter.unusedVariables false
set_option linter.unusedSimpArgs false
set_option linter.unusedSectionVars false
def Nil : Fp := fun _ => False
def Lt (w : World) (F : Fp) : Fp := fun b => b < w.heap.size ∧ ¬ F b
def Rt (w : World) (F : Fp) {ι : Type} (val : ι → Value) (Post : ι → List HP) (e : Ending) (w' : World) : Prop := ∃ i, e = .returned (val i) ∧ Step w F w' (Post i)
section
variable {P : Program} {w0 : World} {Pr : Fp} {N : Nat} {E : Env} {Γ : Gam} {d : Option Tmp} {ty : TypeId} {ps : String} {af : Array Edge}
theorem Step.frame {w w' : World} {F : Fp} {L M : List HP} (h : Step w Nil w' L) (hs : Sat M w.heap F) (hF : ∀ b, F b → b < w.heap.size) : Step w F w' (L ++ M) := by
  obtain ⟨F', h1, h2⟩ := h.sat
  refine ⟨h.os, h.tape, h.output, h.size, fun b hb _ => h.keep b hb fun h => h, fun b => F' b ∨ F b, Sat.append.2 ⟨F', F, ⟨fun b => Iff.rfl, fun b h3 h4 => ?_⟩, h1, Sat.loc hs fun b hb => h.keep b (hF b hb) fun h => h⟩, fun b hb => ?_⟩
  · rcases (h2 b h3).1 with h | h
    · exact h
    · have := hF b h4; omega
  · rcases hb with hb | hb
    · exact ⟨.inr ((h2 b hb).1.elim (fun h => h.elim) id), (h2 b hb).2⟩
    · exact ⟨.inl hb, Nat.lt_of_lt_of_le (hF b hb) h.size⟩
theorem Rt.frame {w w' : World} {F : Fp} {ι : Type} {val : ι → Value} {Post : ι → List HP} {M : List HP} {e : Ending} (h : Rt w Nil val Post e w') (hs : Sat M w.heap F) (hF : ∀ b, F b → b < w.heap.size) :
    Rt w F val (fun i => Post i ++ M) e w' := by
  obtain ⟨i, h1, h2⟩ := h
  exact ⟨i, h1, h2.frame hs hF⟩
theorem BorS.pass {α : Type} {K : Kd α} {a : Option Addr} {cap : Nat} {xs : List α} {w : World} (hb : BorS K a cap xs w0.heap Pr)
    (hp : ∀ b, Pr b → b < w.heap.size ∧ w.heap[b]? = w0.heap[b]?) : BorS K a cap xs w.heap (Lt w Nil) := hb.mono fun b hb => ⟨⟨(hp b hb).1, fun h => h⟩, (hp b hb).2⟩
theorem OwnS.pass {α : Type} {K : Kd α} {a : Option Addr} {cap : Nat} {xs : List α} {w : World} {F : Fp} (ho : (OwnS K a cap xs).p w.heap F) (hF : ∀ b, F b → b < w.heap.size) :
    BorS K a cap xs w.heap (Lt w Nil) := (OwnS.bor ho).mono fun b hb => ⟨⟨hF b hb, fun h => h⟩, rfl⟩
theorem Sat.get {L : List HP} {h : Heap} {F : Fp} (hs : Sat L h F) (i : Nat) {Q : HP} (hi : L[i]? = some Q) : ∃ G, Q.p h G ∧ ∀ b, G b → F b := by
  induction L generalizing i F with
  | nil => simp at hi
  | cons R L ih =>
    obtain ⟨F1, F2, sp, h1, h2⟩ := hs
    cases i with
    | zero => exact ⟨F1, by simp at hi; exact hi ▸ h1, fun b hb => sp.left hb⟩
    | succ i =>
      obtain ⟨G, h3, h4⟩ := ih h2 i (by simpa using hi)
      exact ⟨G, h3, fun b hb => sp.right (h4 b hb)⟩
theorem Sat.lend {α : Type} {K : Kd α} {a : Option Addr} {cap : Nat} {xs : List α} {L : List HP} {w : World} {F : Fp} (hs : Sat L w.heap F) (hF : ∀ b, F b → ¬ Pr b ∧ b < w.heap.size) (i : Nat) (hi : L[i]? = some (OwnS K a cap xs)) :
    BorS K a cap xs w.heap (Lt w Nil) := by
  obtain ⟨G, h1, h2⟩ := hs.get i hi
  exact OwnS.pass h1 fun b hb => (hF b (h2 b hb)).2
theorem runs_call {f : FuncId} {xs : Array Operand} {ts : Array TypeId} {us : List Value} {ρ : Operand → Value} {w : World} {F : Fp} {ι : Type} {val : ι → Value} {Post : ι → List HP} {g : Operand} {cap : Array Value}
    (hc : ∀ args w, (callFunc f args).run P w = .ok (.enter f args) w) (hg : ρ g = .func (.func f) #[] cap) (hx : xs.toList.map ρ = us) (h : Calls P f (us.toArray ++ cap) w (Rt w F val Post)) :
    Runs P ⟨d, .call ⟨.value g, xs, ts⟩, ty, ps, af, none⟩ ρ w fun v w' => ∃ i, v = val i ∧ Step w F w' (Post i) := by
  have hrun : (execOp ρ ⟨d, .call ⟨.value g, xs, ts⟩, ty, ps, af, none⟩).run P w = .ok (.enter f (us.toArray ++ cap)) w := by
    have hxs : xs.map ρ = us.toArray := by apply Array.ext'; simp [hx]
    simp only [execOp, resolve, hg, hxs, Deferred.ofValue]
    refine (run_bind_ok P _ _ w w _ rfl).trans ?_
    simp only [invoke]
    have : (#[] ++ us.toArray : Array Value) = us.toArray := by simp
    rw [this]; exact hc _ _
  unfold Runs
  rw [hrun]
  exact h.mono fun e w' ⟨i, h1, h2⟩ => ⟨val i, h1, i, rfl, h2⟩
theorem OT.callX {f : FuncId} {xs : Array Operand} {ts : Array TypeId} (ls : List Operand) {us : List Value} {Pre : List HP} {ι : Type} {val : ι → Value} {Post : ι → List HP}
    (hc : ∀ args w, (callFunc f args).run P w = .ok (.enter f args) w) (hls : xs = ls.toArray) (hl : ls.length = us.length)
    (h : ∀ w F, Sat Pre w.heap F → (∀ b, F b → ¬ Pr b ∧ b < w.heap.size) → (∀ b, Pr b → b < w.heap.size ∧ w.heap[b]? = w0.heap[b]?) → Calls P f us.toArray w (Rt w F val Post)) :
    OT P w0 Pr ⟨d, .call ⟨.value (.func f), xs, ts⟩, ty, ps, af, none⟩ ((.func f, .func (.func f) #[] #[]) :: pairs ls us) Pre val Post := by
  intro ρ w F hv hs hF hp
  subst hls
  refine runs_call (us := us) (cap := #[]) hc (hv (.func f) _ (by simp)) ?_ ?_
  · exact pairs_args hl fun x u hx => hv x u (List.mem_cons_of_mem _ hx)
  · simpa using h w F hs hF hp
theorem OT.call {f : FuncId} {xs : Array Operand} {ts : Array TypeId} (ls : List Operand) {us : List Value} {Pre : List HP} {ι : Type} {val : ι → Value} {Post : ι → List HP}
    (hc : ∀ args w, (callFunc f args).run P w = .ok (.enter f args) w) (hls : xs = ls.toArray) (hl : ls.length = us.length)
    (h : ∀ w F, Sat Pre w.heap F → (∀ b, F b → ¬ Pr b ∧ b < w.heap.size) → (∀ b, Pr b → b < w.heap.size ∧ w.heap[b]? = w0.heap[b]?) → Calls P f us.toArray w (Rt w Nil val Post)) :
    OT P w0 Pr ⟨d, .call ⟨.value (.func f), xs, ts⟩, ty, ps, af, none⟩ ((.func f, .func (.func f) #[] #[]) :: pairs ls us) Pre val (fun i => Post i ++ Pre) :=
  OT.callX ls hc hls hl fun w F hs hF hp => (h w F hs hF hp).mono fun e w' hr => Rt.frame hr hs fun b hb => (hF b hb).2
theorem look_idx : ∀ {us : List Value} {i t : Nat} {v : Value}, look (idx i us) t = some v → i ≤ t ∧ us[t - i]? = some v
  | [], i, t, v, h => by simp [idx, look] at h
  | u :: us, i, t, v, h => by
    rw [idx, look_cons] at h
    by_cases ht : i = t
    · rw [if_pos ht] at h; subst ht; exact ⟨Nat.le_refl _, by simpa using h⟩
    · rw [if_neg ht] at h
      have := look_idx h
      refine ⟨by omega, ?_⟩
      rw [show t - i = (t - (i + 1)) + 1 by omega]
      simpa using this.2
theorem Calls.enter {f : FuncId} {fn : Func} {c : Code} {w : World} {R : Ending → World → Prop} {us : List Value} {F0 : Fp} {Γ0 : Gam} (hf : P.funcs[f]? = some fn) (hb : fn.body = some c) (hn : fn.ntmps = N)
    (hl : Nat.ble us.length N = true) (hs : Sat (live [] Γ0) w.heap F0) (hF : ∀ b, F0 b → b < w.heap.size) (h : HQ w (Lt w F0) N (idx 0 us) Γ0 (c.wp P (bodyPost P fn R))) : Calls P f us.toArray w R := by
  simp only [Nat.ble_eq] at hl
  refine calls_of_wp hf hb (h _ _ ⟨rfl, ?_, ?_, rfl, rfl, rfl, Nat.le_refl _, fun b hb => ⟨hb.1, rfl⟩, F0, hs, fun b hb => ⟨fun h => h.2 hb, hF b hb⟩⟩)
  · simp [hn]; omega
  · intro t v ht
    have := (look_idx ht).2
    simp only [Nat.sub_zero] at this
    have hlt := (List.getElem?_eq_some_iff.1 this).1
    rw [Array.getElem?_append_left (by simpa using hlt)]
    simpa using this
theorem Calls.enter0 {f : FuncId} {fn : Func} {c : Code} {w : World} {R : Ending → World → Prop} {us : List Value} (hf : P.funcs[f]? = some fn) (hb : fn.body = some c) (hn : fn.ntmps = N)
    (hl : Nat.ble us.length N = true) (h : HQ w (Lt w Nil) N (idx 0 us) [] (c.wp P (bodyPost P fn R))) : Calls P f us.toArray w R :=
  Calls.enter (F0 := Nil) (Γ0 := []) hf hb hn hl (by exact fun b hb => hb) (fun b hb => hb.elim) h
def RV (P : Program) (E : Env) (Γ : Gam) : ResultVar → Value → Prop
  | .tmp t, v => look E t = some v
  | .cell a t, v => ∃ β cs r, look E a = some (BP β 0) ∧ look Γ r = some (Box β cs) ∧ Tag P t = true ∧ Tsz P t = some cs.length ∧ v = .agg cs.toArray
def RVs (P : Program) (E : Env) (Γ : Gam) : List ResultVar → List Value → Prop
  | [], [] => True
  | r :: rs, v :: vs => RV P E Γ r v ∧ RVs P E Γ rs vs
  | _, _ => False
def resV : List Value → Value
  | [v] => v
  | vs => .tuple vs.toArray
theorem look_sat {Γ : Gam} {r : Nat} {Q : HP} {h : Heap} {F : Fp} (hr : look Γ r = some Q) (hs : Sat (live [] Γ) h F) : ∃ G, Q.p h G := by
  obtain ⟨F1, F2, sp, h1, h2⟩ := Sat.perm (live_look hr (by simp)) hs
  exact ⟨F1, h1⟩
def rvSem (tmps : Array Value) : ResultVar → Sem Value
  | .tmp t => pure (tmps.getD t undef)
  | .cell x t => do loadVar t (← asAddr (tmps.getD x undef))
theorem run_rv {a : Act} {w : World} (hs : St w0 Pr N E Γ a w) {rv : ResultVar} {v : Value} (h : RV P E Γ rv v) :
    (rvSem a.tmps rv).run P w = .ok v w := by
  cases rv with
  | tmp t =>
    have := hs.env t v h
    simp [rvSem, Array.getD_eq_getD_getElem?, this, pure, Sem.run]
  | cell x t =>
    obtain ⟨β, cs, r, h1, h2, h3, h4, rfl⟩ := h
    obtain ⟨F, hF, hb⟩ := hs.sat
    obtain ⟨G, _, u, hh⟩ := look_sat h2 hF
    have := hs.env x _ h1
    simp only [rvSem, Array.getD_eq_getD_getElem?, this, Option.getD_some]
    refine (run_bind_ok P (asAddr (BP β 0)) _ w w ⟨β, 0, none⟩ rfl).trans ?_
    rw [run_loadVar_ag h3 h4 hh (by simp)]
    simp
theorem run_rvs {a : Act} {w : World} (hs : St w0 Pr N E Γ a w) : ∀ {rvs : List ResultVar} {vs : List Value}, RVs P E Γ rvs vs →
    ((rvs.mapM (rvSem a.tmps) : Sem (List Value))).run P w = .ok vs w
  | [], [], _ => rfl
  | [], _ :: _, h => h.elim
  | _ :: _, [], h => h.elim
  | rv :: rvs, v :: vs, ⟨h1, h2⟩ => by
    rw [List.mapM_cons]
    refine (run_bind_ok P _ _ w w v (run_rv hs h1)).trans ?_
    exact (run_bind_ok P _ _ w w vs (run_rvs hs h2)).trans rfl
theorem run_results {a : Act} {w : World} (hs : St w0 Pr N E Γ a w) {fn : Func} {rvs : List ResultVar} {vs : List Value} (hr : fn.results = rvs.toArray) (h : RVs P E Γ rvs vs) : (results fn a.tmps).run P w = .ok (resV vs) w := by
  unfold results
  rw [hr]
  have h1 : ((rvs.toArray.mapM (rvSem a.tmps) : Sem (Array Value))).run P w = .ok vs.toArray w := by
    rw [Array.mapM_eq_mapM_toList]
    exact (run_bind_ok P _ (fun l => (pure l.toArray : Sem (Array Value))) w w _ (run_rvs hs h)).trans rfl
  refine (run_bind_ok P _ _ w w _ h1).trans ?_
  cases vs with
  | nil => simp [pure, Sem.run, resV]
  | cons v vs =>
    cases vs with
    | nil => simp [pure, Sem.run, resV]
    | cons u vs => simp [pure, Sem.run, resV]
theorem HQ.fin {w : World} {F0 : Fp} {E : Env} {Γ : Gam} {fn : Func} {ι : Type} {val : ι → Value} {Post : ι → List HP} {rvs : List ResultVar} {vs : List Value} (hr : fn.results = rvs.toArray) (i : ι) (h : RVs P E Γ rvs vs) (hv : val i = resV vs)
    (rs : List Nat) (ht : Takes Γ rs (Post i)) (hn : nodupB rs = true) : HQ w (Lt w F0) N E Γ (bodyPost P fn (Rt w F0 val Post) .ret) := by
  intro a w' hs
  refine ⟨hs.dfr, resV vs, run_results hs hr h, i, by rw [hv], hs.os, hs.tape, hs.output, hs.size, fun b hb hf => (hs.pres b ⟨hb, hf⟩).2, ?_⟩
  obtain ⟨F, hF, hb⟩ := hs.sat
  obtain ⟨F', h1, h2⟩ := Sat.drop (Sat.perm (live_takes (s := []) ht hn (by simp)) hF)
  refine ⟨F', h1, fun b hf => ⟨?_, (hb b (h2 b hf)).2⟩⟩
  have := (hb b (h2 b hf)).1
  rcases Nat.lt_or_ge b w.heap.size with h3 | h3
  · left
    rcases Classical.em (F0 b) with h4 | h4
    · exact h4
    · exact absurd ⟨h3, h4⟩ this
  · exact .inr h3
theorem HQ.nil {α : Type} {Q : Act → World → Prop} (K : Kd α) (r : Nat) (hr : (look Γ r).isNone = true) (h : HQ w0 Pr N E ((r, OwnS K none 0 []) :: Γ) Q) : HQ w0 Pr N E Γ Q := by
  intro a w hs
  refine h a w { hs with sat := ?_ }
  obtain ⟨F, hF, hb⟩ := hs.sat
  refine ⟨F, ?_, hb⟩
  rw [live_out (by simp), live_fresh (by simpa using hr)]
  exact ⟨fun _ => False, F, Spl.nil_left F, .inl ⟨rfl, rfl, rfl, fun b hb => hb⟩, hF⟩
theorem HQ.thenN {K : Act → World → Prop} {Q : Exit → Act → World → Prop} (h : HQ w0 Pr N E Γ K) : HQ w0 Pr N E Γ (Exit.then K Q .normal) := h
theorem HQ.thenE {K : Act → World → Prop} {Q : Exit → Act → World → Prop} {id : Nat} (h : HQ w0 Pr N E Γ (Q (.exit id))) : HQ w0 Pr N E Γ (Exit.then K Q (.exit id)) := h
theorem HQ.thenR {K : Act → World → Prop} {Q : Exit → Act → World → Prop} (h : HQ w0 Pr N E Γ (Q .ret)) : HQ w0 Pr N E Γ (Exit.then K Q .ret) := h
theorem HQ.blkN {id : Nat} {Q : Exit → Act → World → Prop} (h : HQ w0 Pr N E Γ (Q .normal)) : HQ w0 Pr N E Γ (Exit.inBlock id Q .normal) := h
theorem HQ.blkR {id : Nat} {Q : Exit → Act → World → Prop} (h : HQ w0 Pr N E Γ (Q .ret)) : HQ w0 Pr N E Γ (Exit.inBlock id Q .ret) := h
theorem HQ.blkE {id : Nat} {Q : Exit → Act → World → Prop} (h : HQ w0 Pr N E Γ (Q .normal)) : HQ w0 Pr N E Γ (Exit.inBlock id Q (.exit id)) := by
  intro a w hs; simp only [Exit.inBlock, if_true]; exact h a w hs
theorem HQ.blkO {id id' : Nat} {Q : Exit → Act → World → Prop} (hne : Nat.beq id' id = false) (h : HQ w0 Pr N E Γ (Q (.exit id'))) : HQ w0 Pr N E Γ (Exit.inBlock id Q (.exit id')) := by
  intro a w hs
  have : ¬ id' = id := fun e => by subst e; simp at hne
  simp only [Exit.inBlock, if_neg this]; exact h a w hs
inductive Nx (σ ρ : Type) where
  | next (s : σ)
  | out (s : σ)
  | ret (r : ρ)
def loopM {σ ρ : Type} (body : σ → Option (Nx σ ρ)) : Nat → σ → Option (Nx σ ρ)
  | 0, _ => none
  | k + 1, s => match body s with
    | none => none
    | some (.next s') => loopM body k s'
    | some (.out s') => some (.out s')
    | some (.ret r) => some (.ret r)
def LQ (id : Nat) {σ ρ : Type} (Inv : σ → Act → World → Prop) (R : ρ → Act → World → Prop) : Nx σ ρ → Exit → Act → World → Prop
  | .next s, e, a, w => e = .normal ∧ Inv s a w
  | .out s, e, a, w => e = .exit id ∧ Inv s a w
  | .ret r, e, a, w => e = .ret ∧ R r a w
theorem wp_loopM {σ ρ : Type} {id : Nat} {c : Code} {body : σ → Option (Nx σ ρ)} {Inv : σ → Act → World → Prop} {R : ρ → Act → World → Prop} {o : Nx σ ρ}
    (round : ∀ s a w o, body s = some o → Inv s a w → c.wp P (LQ id Inv R o) a w) {k : Nat} {s : σ} {a : Act} {w : World} (hk : loopM body k s = some o) (hi : Inv s a w) :
    (Code.loop c).wp P (LQ id Inv R o) a w := by
  intro b kk cs
  have key : ∀ n s a w, loopM body n s = some o → Inv s a w →
      ∃ e a' w', LQ id Inv R o e a' w' ∧ Arrives P (lone (b.at a (.code c :: .inLoop c :: kk)) cs w) b kk cs e a' w' := by
    intro n
    induction n with
    | zero => intro s a w h _; simp [loopM] at h
    | succ n ih =>
      intro s a w h hi
      simp only [loopM] at h
      cases hb : body s with
      | none => rw [hb] at h; cases h
      | some o' =>
        rw [hb] at h
        obtain ⟨e, a₁, w₁, hq, harr⟩ := round s a w o' hb hi b (.inLoop c :: kk) cs
        cases o' with
        | next s' =>
          obtain ⟨rfl, hi'⟩ := hq
          obtain ⟨e₂, a₂, w₂, hq₂, harr₂⟩ := ih s' a₁ w₁ h hi'
          exact ⟨e₂, a₂, w₂, hq₂, .of_steps (Steps.trans harr (.one step_inLoop)) harr₂⟩
        | out s' =>
          obtain rfl := Option.some.inj h
          obtain ⟨rfl, hi'⟩ := hq
          exact ⟨_, a₁, w₁, ⟨rfl, hi'⟩, .pass (x := .inLoop c) rfl (fun _ _ => .inl (by simp)) harr⟩
        | ret r =>
          obtain rfl := Option.some.inj h
          obtain ⟨rfl, hi'⟩ := hq
          exact ⟨_, a₁, w₁, ⟨rfl, hi'⟩, .pass (x := .inLoop c) rfl (fun _ _ => .inl (by simp)) harr⟩
  obtain ⟨e, a', w', hq, harr⟩ := key _ s a w hk hi
  exact ⟨e, a', w', hq, .of_steps (.one step_loop) harr⟩
def Inv (w0 : World) (Pr : Fp) (N : Nat) {σ γ : Type} (Ei : σ → γ → Env) (Γi : σ → γ → Gam) (s : σ) (a : Act) (w : World) : Prop := ∃ g, St w0 Pr N (Ei s g) (Γi s g) a w
theorem HQ.loop {σ ρ γ : Type} {c : Code} {Q : Exit → Act → World → Prop} {body : σ → Option (Nx σ ρ)} {k : Nat} {s0 : σ} {o : Nx σ ρ} (hrun : loopM body k s0 = some o) (id : Nat) (Ei : σ → γ → Env) (Γi : σ → γ → Gam)
    (R : ρ → Act → World → Prop) (g0 : γ) (hE : Sub E (Ei s0 g0)) (hG : GSub Γ (Γi s0 g0)) (hn : nodupB ((Γi s0 g0).map (·.1)) = true)
    (round : ∀ s g o, body s = some o → HQ w0 Pr N (Ei s g) (Γi s g) (c.wp P (LQ id (Inv w0 Pr N Ei Γi) R o)))
    (out : ∀ s, o = .out s → ∀ g, HQ w0 Pr N (Ei s g) (Γi s g) (Q (.exit id)))
    (ret : ∀ r, o = .ret r → ∀ a w, R r a w → Q .ret a w) : HQ w0 Pr N E Γ ((Code.loop c).wp P Q) := by
  intro a w hs
  have := wp_loopM (P := P) (id := id) (Inv := Inv w0 Pr N Ei Γi) (R := R) (c := c) (fun s a w o hb hi => by
    obtain ⟨g, hg⟩ := hi
    exact round s g o hb a w hg) hrun ⟨g0, (hs.sub hE).gsub hG hn⟩
  refine wp_mono this fun e a w hq => ?_
  cases o with
  | next s =>
    exfalso
    have : ∀ k s0, loopM body k s0 ≠ some (.next s) := by
      intro k
      induction k with
      | zero => intro s0 h; simp [loopM] at h
      | succ k ih =>
        intro s0 h
        simp only [loopM] at h
        split at h <;> first
          | (cases h; done)
          | exact ih _ h
    exact this k s0 hrun
  | out s =>
    obtain ⟨rfl, g, hg⟩ := hq
    exact out s rfl g a w hg
  | ret r =>
    obtain ⟨rfl, hr⟩ := hq
    exact ret r rfl a w hr
theorem HQ.next {σ ρ γ : Type} {id : Nat} {Ei : σ → γ → Env} {Γi : σ → γ → Gam} {R : ρ → Act → World → Prop} {s : σ} (g : γ) (hE : Sub E (Ei s g)) (hG : GSub Γ (Γi s g)) (hn : nodupB ((Γi s g).map (·.1)) = true) :
    HQ w0 Pr N E Γ (LQ id (Inv w0 Pr N Ei Γi) R (.next s) .normal) := fun a w hs => ⟨rfl, g, (hs.sub hE).gsub hG hn⟩
theorem HQ.out {σ ρ γ : Type} {id : Nat} {Ei : σ → γ → Env} {Γi : σ → γ → Gam} {R : ρ → Act → World → Prop} {s : σ} (g : γ) (hE : Sub E (Ei s g)) (hG : GSub Γ (Γi s g)) (hn : nodupB ((Γi s g).map (·.1)) = true) :
    HQ w0 Pr N E Γ (LQ id (Inv w0 Pr N Ei Γi) R (.out s) (.exit id)) := fun a w hs => ⟨rfl, g, (hs.sub hE).gsub hG hn⟩
theorem HQ.retL {σ ρ γ : Type} {id : Nat} {Ei : σ → γ → Env} {Γi : σ → γ → Gam} {R : ρ → Act → World → Prop} {r : ρ} (h : HQ w0 Pr N E Γ (R r)) :
    HQ w0 Pr N E Γ (LQ id (Inv w0 Pr N Ei Γi) R (.ret r) .ret) := fun a w hs => ⟨rfl, h a w hs⟩
theorem HQ.on {ops : Array Oper} {K : Act → World → Prop} {rest : List Oper} {op : Op} {j : Nat} {want b : Bool} {t : Tmp} (hj : (ops[j]?).bind (·.dst) = some t) (hE : look E t = some (.bool b)) (hb : b = want)
    (h : HQ w0 Pr N E Γ (wpS P ops K (⟨d, op, ty, ps, af, none⟩ :: rest))) : HQ w0 Pr N E Γ (wpS P ops K (⟨d, op, ty, ps, af, some (j, want)⟩ :: rest)) := by
  intro a w hs
  have h1 := h a w hs
  simp only [wpS] at h1 ⊢
  rw [if_pos (wanted_none rfl _)] at h1
  have : Region.wanted ⟨d, op, ty, ps, af, some (j, want)⟩ (yielded ops a.tmps) = true := by
    subst hb
    simp [Region.wanted, yielded, hj, hs.env t _ hE]
  rw [if_pos this]; exact h1
theorem HQ.off {ops : Array Oper} {K : Act → World → Prop} {rest : List Oper} {op : Op} {j : Nat} {want b : Bool} {t d : Tmp} (hj : (ops[j]?).bind (·.dst) = some t) (hE : look E t = some (.bool b)) (hb : b = !want) (hl : Nat.blt d N = true)
    (h : HQ w0 Pr N ((d, undef) :: E) Γ (wpS P ops K rest)) : HQ w0 Pr N E Γ (wpS P ops K (⟨some d, op, ty, ps, af, some (j, want)⟩ :: rest)) := by
  intro a w hs
  simp only [wpS]
  have : ¬ Region.wanted ⟨some d, op, ty, ps, af, some (j, want)⟩ (yielded ops a.tmps) = true := by
    subst hb
    simp only [Region.wanted, yielded, hj, Option.bind_some, hs.env t _ hE]
    cases want <;> simp
  rw [if_neg this]
  exact h _ _ (hs.put d (by simpa [Nat.blt_eq] using hl) _)
theorem HQ.offU {ops : Array Oper} {K : Act → World → Prop} {rest : List Oper} {op : Op} {j : Nat} {want : Bool} {t d : Tmp} (hj : (ops[j]?).bind (·.dst) = some t) (hE : look E t = some undef) (hl : Nat.blt d N = true)
    (h : HQ w0 Pr N ((d, undef) :: E) Γ (wpS P ops K rest)) : HQ w0 Pr N E Γ (wpS P ops K (⟨some d, op, ty, ps, af, some (j, want)⟩ :: rest)) := by
  intro a w hs
  simp only [wpS]
  have : ¬ Region.wanted ⟨some d, op, ty, ps, af, some (j, want)⟩ (yielded ops a.tmps) = true := by
    simp only [Region.wanted, yielded, hj, Option.bind_some, hs.env t _ hE, undef]
    cases want <;> simp
  rw [if_neg this]
  exact h _ _ (hs.put d (by simpa [Nat.blt_eq] using hl) _)
def Mid (w0 : World) (Pr : Fp) (N : Nat) (E : Env) (Γ : Gam) (a : Act) (w : World) : Prop := St w0 Pr N E Γ a w
theorem HQ.cut {ops : Array Oper} {K : Act → World → Prop} {l : List Oper} (E' : Env) (Γ' : Gam) (h : HQ w0 Pr N E Γ (wpS P ops (Mid w0 Pr N E' Γ') l)) (k : HQ w0 Pr N E' Γ' K) : HQ w0 Pr N E Γ (wpS P ops K l) := by
  have mono : ∀ (l : List Oper) (a : Act) (w : World), wpS P ops (Mid w0 Pr N E' Γ') l a w → wpS P ops K l a w := by
    intro l
    induction l with
    | nil => exact fun a w h => k a w h
    | cons o l ih =>
      intro a w h
      simp only [wpS] at h ⊢
      by_cases hw : Region.wanted o (yielded ops a.tmps) = true
      · rw [if_pos hw] at h ⊢; exact h.mono fun v w' hh => ih _ _ hh
      · rw [if_neg hw] at h ⊢; exact ih _ _ h
  exact fun a w hs => mono l a w (h a w hs)
theorem HQ.mid {E' : Env} {Γ' : Gam} (hE : Sub E E') (hG : GSub Γ Γ') (hn : nodupB (Γ'.map (·.1)) = true) : HQ w0 Pr N E Γ (Mid w0 Pr N E' Γ') := fun a w hs => (hs.sub hE).gsub hG hn
theorem Pu.pickAT {c x y : Operand} {b u : Bool} (hb : b = true) : Pu P ⟨d, .pick c x y, ty, ps, af, none⟩ [(c, .bool b), (x, .bool u)] (.bool (b && u)) := fun ρ w h => by
  subst hb
  simp only [execOp, h c (.bool true) (by simp), h x (.bool u) (by simp)]; rfl
theorem Pu.pickAF {c x y : Operand} {b u : Bool} (hb : b = false) : Pu P ⟨d, .pick c x y, ty, ps, af, none⟩ [(c, .bool b), (y, .bool false)] (.bool (b && u)) := fun ρ w h => by
  subst hb
  simp only [execOp, h c (.bool false) (by simp), h y (.bool false) (by simp)]; rfl
theorem Pu.pickOT {c x y : Operand} {b u : Bool} (hb : b = true) : Pu P ⟨d, .pick c x y, ty, ps, af, none⟩ [(c, .bool b), (x, .bool true)] (.bool (b || u)) := fun ρ w h => by
  subst hb
  simp only [execOp, h c (.bool true) (by simp), h x (.bool true) (by simp)]; rfl
theorem Pu.pickOF {c x y : Operand} {b u : Bool} (hb : b = false) : Pu P ⟨d, .pick c x y, ty, ps, af, none⟩ [(c, .bool b), (y, .bool u)] (.bool (b || u)) := fun ρ w h => by
  subst hb
  simp only [execOp, h c (.bool false) (by simp), h y (.bool u) (by simp)]; rfl
theorem Pu.pickC1 {c x y : Operand} {b : Bool} {v : Value} (hb : b = true) : Pu P ⟨d, .pick c x y, ty, ps, af, none⟩ [(c, .bool b), (x, v)] v := fun ρ w h => by
  subst hb
  simp only [execOp, h c (.bool true) (by simp), h x v (by simp)]; rfl
theorem Pu.pickC0 {c x y : Operand} {b : Bool} {v : Value} (hb : b = false) : Pu P ⟨d, .pick c x y, ty, ps, af, none⟩ [(c, .bool b), (y, v)] v := fun ρ w h => by
  subst hb
  simp only [execOp, h c (.bool false) (by simp), h y v (by simp)]; rfl
theorem bnd {α β : Type} {x : Option α} {f : α → Option β} {r : β} (h : x.bind f = some r) : ∃ t, x = some t ∧ f t = some r := Option.bind_eq_some_iff.1 h
theorem asr {c : Prop} [Decidable c] {α : Type} {x : Option α} {r : α} (h : (if c then x else none) = some r) : c ∧ x = some r := by
  by_cases hc : c
  · rw [if_pos hc] at h; exact ⟨hc, h⟩
  · rw [if_neg hc] at h; cases h
theorem brk {b : Bool} {α : Type} {x y : Option α} {r : α} (h : (if b = true then x else y) = some r) : (b = true ∧ x = some r) ∨ (b = false ∧ y = some r) := by
  cases b
  · exact .inr ⟨rfl, by simpa using h⟩
  · exact .inl ⟨rfl, by simpa using h⟩
end
end Go.Proofs.Sx

