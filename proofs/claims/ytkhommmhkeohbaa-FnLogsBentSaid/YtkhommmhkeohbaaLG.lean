/- Part of a program logic; see the notes. -/
import Derived.Test.YtkhommmhkeohbaaLH
import Derived.Test.YtkhommmhkeohbaaLK
import Derived.Test.YtkhommmhkeohbaaLN
import Derived.Test.YtkhommmhkeohbaaLO
import Derived.Test.YtkhommmhkeohbaaLM
import Derived.Test.YtkhommmhkeohbaaLL
import Derived.Test.YtkhommmhkeohbaaLR
import Derived.ProofKit
namespace Go.Proofs.Sx
open Go.RowKit Go.WideShapes Go.ChangeShapes
set_option linter.unusedVariables false
set_option linter.unusedSimpArgs false
set_option linter.unusedSectionVars false
section
variable {H : Type} {enc : TypeId × Value → H} {P : Program} {W : World}
def Opn (enc : TypeId × Value → H) (P : Program) (W : World) (t : TypeId) (φ : List Value → Prop) : Prop :=
  ∀ fuel cs x, DataW.trod enc P W 0 (fun _ => true) true fuel t cs = some x → φ cs
def OpnK {α : Type} (enc : TypeId × Value → H) (P : Program) (W : World) (t : TypeId) (K : Kd α) (wf : α → Prop) : Prop :=
  Opn enc P W t fun cs => ∃ x, K.rd cs x W.heap (Lt W Nil) ∧ wf x
theorem opn_u8 {t : TypeId} (ht : P.underlying t = some (.int .u8)) : Opn enc P W t fun cs => ∃ x, cs = [.int .u8 x] ∧ wfU8 x := by
  intro fuel cs x h
  obtain ⟨n, rfl, _, hw⟩ := DataW.trod_int ht h
  refine ⟨n, rfl, ?_⟩
  simp [Lit.wf, IntKind.min, IntKind.max, IntKind.signed, IntKind.bits] at hw
  exact ⟨by have := hw.1; omega, by have := hw.2; omega⟩
theorem opnK_U8 {t : TypeId} (ht : P.underlying t = some (.int .u8)) : OpnK enc P W t kU8 wfU8 := opn_u8 ht
theorem cells_at {w : World} {base : Nat} {a : Addr} {n : Nat} {cs : List Value} (h : w.cells? base a n = some cs) (hn : 0 < n) :
    ∃ b off c ty fz, a = ⟨b, off, none⟩ ∧ w.heap[b]? = some (.cells c ty fz) ∧ cs = (c.toList.drop off).take n ∧ b < w.heap.size := by
  obtain ⟨_, hl, hc⟩ := World.cells?_some h
  obtain ⟨b, off, sp⟩ := a
  have h0 := hc 0 hn
  rw [show Addr.add ⟨b, off, sp⟩ 0 = ⟨b, off, sp⟩ by simp [Addr.add]] at h0
  have hlt : 0 < cs.length := by omega
  rw [List.getElem?_eq_getElem hlt] at h0
  unfold World.cell? at h0
  simp only at h0
  split at h0
  case h_2 => cases h0
  rename_i c ty fz hh
  split at h0
  · cases h0
  rename_i hs
  have hs' : sp = none := by simpa using hs
  subst hs'
  refine ⟨b, off, c, ty, fz, rfl, hh, ?_, (Array.getElem?_eq_some_iff.1 hh).1⟩
  have key : ∀ i, i < n → c[off + i]? = cs[i]? := by
    intro i hi
    have := hc i hi
    rw [Addr.add_eq] at this
    unfold World.cell? at this
    simp only [hh] at this
    simpa using this
  apply List.ext_getElem?
  intro i
  rw [List.getElem?_take]
  by_cases hi : i < n
  · rw [if_pos hi, List.getElem?_drop, ← key i hi]; simp
  · rw [if_neg hi, List.getElem?_eq_none (by omega)]
theorem opn_slice {α : Type} {K : Kd α} {wf : α → Prop} {t e : TypeId} (ht : P.underlying t = some (.slice e)) (hc : P.cellsOf e = K.sz) (hpos : 0 < K.sz) (he : OpnK enc P W e K wf) :
    Opn enc P W t fun cs => ∃ (xs : List α) (a : Option Addr) (cap : Nat), cs = [.slice a xs.length cap] ∧ BorS K a cap xs W.heap (Lt W Nil) ∧ wfL wf xs := by
  intro fuel cs x h
  rcases DataW.trod_slice ht h with ⟨rfl, _⟩ | ⟨a, len, cap, elems, rest, n, _, rfl, _, _, hlc, hcm, hel, hall, _, _⟩
  · exact ⟨[], none, 0, rfl, ⟨Nat.le_refl _, .inl rfl⟩, Nat.zero_le _, by simp⟩
  · rcases Nat.eq_zero_or_pos len with h0 | h0
    · subst h0
      exact ⟨[], some a, cap, rfl, ⟨Nat.zero_le _, .inl rfl⟩, Nat.zero_le _, by simp⟩
    · rw [hc] at hall
      have each : ∀ i, i < len → ∃ cs, W.cells? 0 (a.add (i * K.sz)) K.sz = some cs ∧ ∃ x, K.rd cs x W.heap (Lt W Nil) ∧ wf x := by
        intro i hi
        have := hall i hi
        rw [List.getElem?_eq_getElem (by omega), Option.bind_eq_some_iff] at this
        obtain ⟨cs, h1, h2⟩ := this
        exact ⟨cs, h1, he _ _ _ h2⟩
      obtain ⟨cs0, hc0, _⟩ := each 0 h0
      rw [Nat.zero_mul, show a.add 0 = a by simp [Addr.add]] at hc0
      obtain ⟨b, off, c, ty, fz, rfl, hh, _, hb⟩ := cells_at hc0 hpos
      have build : ∀ m s, s + m ≤ len → ∃ xs : List α, xs.length = m ∧ Rds K (c.toList.drop (off + s * K.sz)) xs W.heap (Lt W Nil) ∧ ∀ y ∈ xs, wf y := by
        intro m
        induction m with
        | zero => exact fun s _ => ⟨[], rfl, trivial, by simp⟩
        | succ m ih =>
          intro s hs
          obtain ⟨cs, h1, x, h2, h3⟩ := each s (by omega)
          rw [Addr.add_eq] at h1
          obtain ⟨b', off', c', ty', fz', e1, hh', rfl, _⟩ := cells_at h1 hpos
          cases e1
          rw [hh] at hh'
          cases hh'
          obtain ⟨xs, k1, k2, k3⟩ := ih (s + 1) (by omega)
          refine ⟨x :: xs, by simp [k1], ⟨h2, ?_⟩, ?_⟩
          · rw [List.drop_drop]
            have : off + s * K.sz + K.sz = off + (s + 1) * K.sz := by rw [Nat.add_mul]; omega
            rw [this]; exact k2
          · intro y hy
            rcases List.mem_cons.1 hy with rfl | hy
            · exact h3
            · exact k3 y hy
      obtain ⟨xs, k1, k2, k3⟩ := build len 0 (by omega)
      rw [Nat.zero_mul, Nat.add_zero] at k2
      refine ⟨xs, some ⟨b, off, none⟩, cap, by rw [k1], ⟨by omega, .inr ⟨b, off, c, ty, fz, rfl, ⟨hb, fun h => h⟩, hh, k2⟩⟩, by omega, k3⟩
theorem okWide_cell {r : Reach} {b : Nat} {t : TypeId} {v : Value} (ht : (∃ k, P.underlying t = some (.int k)) ∨ P.underlying t = some .bool ∨ ∃ e, P.underlying t = some (.slice e)) (h : Value.okWide P W r b t v) :
    v.cells.toList = [v] := by
  rcases ht with ⟨k, ht⟩ | ht | ⟨e, ht⟩ <;> simp only [Value.okWide, ht, Cell.okWide] at h <;> cases v <;> simp_all [Cell.ok, Value.cells]
theorem trodAll_cons {w : World} {base : Nat} {sp : Nat → Bool} {hd : Bool} {t : TypeId} {ts : List TypeId} {vs : List Value} {ds : List (DataW H)} {ps : List MemPlace} (h : DataW.TrodAll enc P w base sp hd (t :: ts) vs ds ps) :
    ∃ v vs' d ds' p q, vs = v :: vs' ∧ ds = d :: ds' ∧ DataW.Trod enc P w base sp hd t v d p ∧ DataW.TrodAll enc P w base sp hd ts vs' ds' q := by
  match vs, ds, h with
  | v :: vs', d :: ds', ⟨p, q, h1, h2, _⟩ => exact ⟨v, vs', d, ds', p, q, rfl, rfl, h1, h2⟩
theorem trodAll_nil {w : World} {base : Nat} {sp : Nat → Bool} {hd : Bool} {vs : List Value} {ds : List (DataW H)} {ps : List MemPlace} (h : DataW.TrodAll enc P w base sp hd [] vs ds ps) : vs = [] ∧ ds = [] := by
  match vs, ds, h with
  | [], [], _ => exact ⟨rfl, rfl⟩
theorem Below.of_step {w w' : World} {L : List HP} (h : Step w Nil w' L) : Below w.heap.size w w' :=
  ⟨h.os, h.tape, h.output, h.size, fun b hb => h.keep b hb fun h => h⟩
theorem trodAll_stays (hl : laidOutB P = true) {W W' : World} {sp' : Nat → Bool} : ∀ {ts : List TypeId} {vs : List Value} {ds : List (DataW H)} {ps : List MemPlace},
    (ts.all fun t => P.readableRec t && decide (t < P.types.size)) = true → DataW.TrodAll enc P W 0 (fun _ => true) true ts vs ds ps → (∀ p ∈ ps, W.sameAt W' p) → (∀ p ∈ ps, sp' p.block = true) →
    DataW.TrodAll enc P W' 0 sp' true ts vs ds ps
  | [], [], [], _, _, h, _, _ => h
  | _ :: _, _ :: _, _ :: _, _, ht, ⟨a, b, h1, h2, e⟩, hs, hp => by
    subst e
    simp only [List.all_cons, Bool.and_eq_true, decide_eq_true_eq] at ht
    exact ⟨a, b, WideElems.Trod_stays hl ht.1.1 ht.1.2 h1 (fun p hp => hs p (by simp [hp])) (fun p hq => hp p (by simp [hq])),
      trodAll_stays hl ht.2 h2 (fun p hp => hs p (by simp [hp])) (fun p hq => hp p (by simp [hq])), rfl⟩
theorem post_of_below {f : Func} {s : ChangeSpec} {apart fresh handsOn again : Bool} {W W' : World} {args : Array Value} {v : Value} {ds gs : List (DataW H)} {before pa pv : List MemPlace}
    (hW : DataW.Whole enc P f.params.toList s.vars apart W args.toList ds gs before)
    (hres : ∀ (b : Nat) (sp : Nat → Bool) (hd : Bool), DataW.TrodAll enc P W' b sp hd f.resultTypes.toList (v.resultList f.resultTypes.size) (s.fn H (ds ++ gs)).results [])
    (hargs : ∀ sp : Nat → Bool, (∀ p ∈ before, sp p.block = true) → DataW.TrodAll enc P W' 0 sp true f.params.toList args.toList (s.fn H (ds ++ gs)).args pa)
    (hvars : ∀ sp : Nat → Bool, (∀ p ∈ before, sp p.block = true) → DataW.TrodVars enc P W' sp s.vars (s.fn H (ds ++ gs)).vars pv)
    (hps : before = pa ++ pv) (hb : Below W.heap.size W W')
    (hok : ∀ (j : Nat) (t : TypeId) (r : Value), f.resultTypes[j]? = some t → (v.resultList f.resultTypes.size)[j]? = some r → Value.okWide P W' .any 0 t r) :
    s.post enc P f apart fresh handsOn again W args v W' := by
  have hlt : ∀ p ∈ before, p.block < W.heap.size := fun p hp => hW.lt p hp
  have hold : ∀ p ∈ before, (fun b => decide (b < W.heap.size)) p.block = true := fun p hp => by simpa using hlt p hp
  refine ⟨ds, gs, before, [], pa, pv, hW, hres _ _ _, hargs _ hold, hvars _ hold, World.keptBut_mono (fun p hp => ⟨hp, ?_⟩) (hb.frame (· ∈ before)), fun _ => ?_⟩
  · rw [hps, List.mem_append] at hp
    exact Or.inr hp
  · obtain ⟨_, _, _, _, _, hz, hn⟩ := hW
    refine ⟨hok, _, _, ([] ++ pa) ++ pv, ⟨[] ++ pa, pv, trodAll_append (hargs _ (fun _ _ => rfl)) (hres _ _ _), hvars _ (fun _ _ => rfl), rfl, ?_, ?_⟩, ?_⟩
    · intro b off hp
      have hin : MemPlace.cell b off ∈ before := by rw [hps]; simpa using hp
      rw [hb.frozen (hlt _ hin)]
      exact hz b off hin
    · intro ha
      have := hn ha
      rw [hps] at this
      simpa using this
    · intro p hp _
      rw [hps]
      simpa using hp
theorem law_post {f : Func} {s : ChangeSpec} {apart fresh handsOn again : Bool} {W W' : World} {args : Array Value} {ds : List (DataW H)} {before : List MemPlace} {tb : TypeId}
    (hv : s.vars = []) (hW : DataW.Whole enc P f.params.toList s.vars apart W args.toList ds [] before) (hl : laidOutB P = true)
    (hp : (f.params.toList.all fun t => P.readableRec t && decide (t < P.types.size)) = true) (hr : f.resultTypes = #[tb]) (ht : P.underlying tb = some .bool)
    (hfn : s.fn H ds = { results := [.lit (.bool true)], args := ds }) (hb : Below W.heap.size W W') :
    s.post enc P f apart fresh handsOn again W args (.bool true) W' := by
  have hlt : ∀ p ∈ before, p.block < W.heap.size := fun p hp => hW.lt p hp
  refine post_of_below (pa := before) (pv := []) hW ?_ ?_ ?_ (by simp) hb (ok_one hr rfl (okWide_bool_mk ht true))
  · intro b sp hd
    rw [List.append_nil, hfn, hr]
    exact trodAll_mk1 (shut_bool ht true)
  · intro sp hsp
    rw [List.append_nil, hfn]
    obtain ⟨p, q, hA, hV, rfl, _, _⟩ := hW
    rw [hv] at hV
    obtain ⟨_, rfl⟩ := trodVars_none hV
    rw [List.append_nil] at *
    exact trodAll_stays hl hp hA (fun x hx => hb.same (hlt x hx)) hsp
  · intro sp hsp
    rw [List.append_nil, hfn, hv]
    rfl
theorem law_calls {f : FuncId} {fn : Func} {s : ChangeSpec} {apart fresh handsOn again : Bool} {W : World} {args : Array Value} {ds : List (DataW H)} {before : List MemPlace} {tb : TypeId}
    (hv : s.vars = []) (hW : DataW.Whole enc P fn.params.toList s.vars apart W args.toList ds [] before) (hl : laidOutB P = true)
    (hp : (fn.params.toList.all fun t => P.readableRec t && decide (t < P.types.size)) = true) (hr : fn.resultTypes = #[tb]) (ht : P.underlying tb = some .bool)
    (hfn : s.fn H ds = { results := [.lit (.bool true)], args := ds })
    (hc : Calls P f args W (Rt W Nil (fun _ : Unit => .bool true) (fun _ => []))) :
    Calls P f args W fun e W' => ∃ v, e = .returned v ∧ s.post enc P fn apart fresh handsOn again W args v W' :=
  hc.mono fun e W' ⟨_, he, hs⟩ => ⟨_, he, law_post hv hW hl hp hr ht hfn (Below.of_step hs)⟩
end
section
variable {P : Program} {w0 : World} {Pr : Fp} {N : Nat} {E : Env} {Γ : Gam}
theorem pu {o : Oper} {rest : List Oper} {ops : Array Oper} {K : Act → World → Prop} {vs : List (Operand × Value)} {v : Value} {d : Nat}
    (h : Pu P o vs v) (hv : Evs E vs) (q : o.guard = none ∧ o.dst = some d ∧ Nat.blt d N = true ∧ True)
    (k : HQ w0 Pr N ((d, v) :: E) Γ (wpS P ops K rest)) : HQ w0 Pr N E Γ (wpS P ops K (o :: rest)) := HQ.pu h hv q.1 q.2.1 q.2.2.1 k
theorem op {o : Oper} {rest : List Oper} {ops : Array Oper} {K : Act → World → Prop} {vs : List (Operand × Value)} {Pre : List HP} {ι : Type} {val : ι → Value} {Post : ι → List HP} {d : Nat}
    (rs : List Nat) (ks : List Nat) (h : OT P w0 Pr o vs Pre val Post) (hv : Evs E vs) (ht : Takes Γ rs Pre) (q : o.guard = none ∧ o.dst = some d ∧ Nat.blt d N = true ∧ updOk Γ rs ks = true ∧ True) (hlen : ∀ i, (Post i).length = ks.length)
    (k : ∀ i, HQ w0 Pr N ((d, val i) :: E) (ks.zip (Post i) ++ Γ) (wpS P ops K rest)) : HQ w0 Pr N E Γ (wpS P ops K (o :: rest)) := HQ.op rs ks h hv ht q.1 q.2.1 q.2.2.1 q.2.2.2.1 hlen k
theorem OpOK.pu {ops : Array Oper} {E0 : Env} {R : List DRes} {G : Type} {vals : G → List Value} {res : G → List HP} {i : Nat} {D : DOp} {o : Oper} (vs : G → List (Operand × Value)) {val : G → Value}
    (q : ops[i]? = some o ∧ o.guard = none ∧ True) (hev : ∀ g, Evs (envOf ops (vals g) D.ins ++ E0) (vs g)) (hot : ∀ g, Pu P o (vs g) (val g)) (hn : ∀ g, pickR (res g) D.needs = [] ∧ True)
    (hx : ∀ g (_ : Unit), vals g = (vals g).set i (val g) ∧ [] = pickR (res g) D.makes ∧ sameBut R i (res g) (res g)) : OpOK P w0 Pr E0 ops R vals res i D :=
  OpOK.of vs (fun g _ => val g) (fun _ _ => []) (fun g _ => g) q.1 q.2.1 hev (fun g => by rw [(hn g).1]; exact Pu.toOT (hot g)) hx
theorem OpOK2.pu {ops : Array Oper} {E0 : Env} {R : List DRes} {G : Type} {vals : G → List Value} {res : G → List HP} {i : Nat} {D : DOp} {o : Oper} (vs : G → List (Operand × Value)) {val : G → Value}
    (q : ops[i]? = some o ∧ o.guard = none ∧ True) (hev : ∀ g, Evs (envOf ops (vals g) D.ins ++ E0) (vs g)) (hot : ∀ g, Pu P o (vs g) (val g)) (hn : ∀ g, pickR (res g) D.needs = [] ∧ True)
    (hx : ∀ g (_ : Unit), vals g = (vals g).set i (val g) ∧ [] = pickR (res g) D.makes ∧ sameBut R i (res g) (res g)) : OpOK2 P w0 Pr E0 ops R vals res i D :=
  OpOK2.of vs (fun g _ => val g) (fun _ _ => []) (fun g _ => g) q.1 q.2.1 hev (fun g => by rw [(hn g).1]; exact Pu.toOT (hot g)) hx
end
end Go.Proofs.Sx

