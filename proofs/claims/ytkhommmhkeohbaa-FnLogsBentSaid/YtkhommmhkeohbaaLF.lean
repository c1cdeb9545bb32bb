/- Part of a program logic; see the notes. -/
import Derived.Test.YtkhommmhkeohbaaLE
namespace Go.Proofs.Sx
open Go.RowKit
set_option linter.unusedVariables false
set_option linter.unusedSimpArgs false
set_option linter.unusedSectionVars false
section
variable {P : Program} {w0 : World} {Pr : Fp} {N : Nat} {E : Env} {Γ : Gam}
def emps : List Nat → List HP
  | [] => []
  | _ :: r => emp :: emps r
theorem emps_sat : ∀ (ds : List Nat) (h : Heap), Sat (emps ds) h (fun _ => False)
  | [], _ => fun _ hb => hb
  | _ :: r, h => ⟨fun _ => False, fun _ => False, Spl.nil_left _, fun _ hb => hb, emps_sat r h⟩
theorem Sat.emps {L : List HP} {h : Heap} {F : Fp} (hs : Sat L h F) (ds : List Nat) : Sat (L ++ emps ds) h F :=
  Sat.append.2 ⟨F, fun _ => False, Spl.nil_right F, hs, emps_sat ds h⟩
theorem Step.emps {w w' : World} {F : Fp} {L : List HP} (st : Step w F w' L) (ds : List Nat) : Step w F w' (L ++ emps ds) := by
  obtain ⟨F', h1, h2⟩ := st.sat
  exact { st with sat := ⟨F', h1.emps ds, h2⟩ }
theorem emps_len : ∀ (ds : List Nat), (emps ds).length = ds.length
  | [] => rfl
  | _ :: r => by simp [emps, emps_len r]
theorem HQ.opD {o : Oper} {rest : List Oper} {ops : Array Oper} {K : Act → World → Prop} {vs : List (Operand × Value)} {Pre : List HP} {ι : Type} {val : ι → Value} {Post : ι → List HP} {d : Nat}
    (rs ks ds : List Nat) (h : OT P w0 Pr o vs Pre val Post) (hv : Evs E vs) (ht : Takes Γ rs Pre) (hg : o.guard = none) (hd : o.dst = some d) (hl : Nat.blt d N = true)
    (hu : updOk Γ rs (ks ++ ds) = true) (hlen : ∀ i, (Post i).length = ks.length)
    (k : ∀ i, HQ w0 Pr N ((d, val i) :: E) ((ks ++ ds).zip (Post i ++ emps ds) ++ Γ) (wpS P ops K rest)) : HQ w0 Pr N E Γ (wpS P ops K (o :: rest)) :=
  HQ.op (Post := fun i => Post i ++ emps ds) rs (ks ++ ds) (fun ρ w F h1 h2 h3 h4 => (h ρ w F h1 h2 h3 h4).mono fun v w' ⟨i, hi, st⟩ => ⟨i, hi, st.emps ds⟩) hv ht hg hd hl hu
    (fun i => by simp [hlen i, emps_len]) k
theorem HQ.opN {o : Oper} {rest : List Oper} {ops : Array Oper} {K : Act → World → Prop} {vs : List (Operand × Value)} {Pre : List HP} {ι : Type} {val : ι → Value} {Post : ι → List HP}
    (rs ks ds : List Nat) (h : OT P w0 Pr o vs Pre val Post) (hv : Evs E vs) (ht : Takes Γ rs Pre) (hg : o.guard = none) (hd : o.dst = none)
    (hu : updOk Γ rs (ks ++ ds) = true) (hlen : ∀ i, (Post i).length = ks.length)
    (k : ∀ i, HQ w0 Pr N E ((ks ++ ds).zip (Post i ++ emps ds) ++ Γ) (wpS P ops K rest)) : HQ w0 Pr N E Γ (wpS P ops K (o :: rest)) := by
  intro a w hs
  simp only [wpS]
  rw [if_pos (wanted_none hg _)]
  simp only [updOk, Bool.and_eq_true] at hu
  obtain ⟨⟨⟨u1, u2⟩, u3⟩, u4⟩ := hu
  have hlen' : ∀ i, (Post i ++ emps ds).length = (ks ++ ds).length := fun i => by simp [hlen i, emps_len]
  have z1 : ∀ i, ((ks ++ ds).zip (Post i ++ emps ds)).map (·.1) = ks ++ ds := fun i => List.map_fst_zip (by rw [hlen' i]; exact Nat.le_refl _)
  have z2 : ∀ i, ((ks ++ ds).zip (Post i ++ emps ds)).map (·.2) = Post i ++ emps ds := fun i => List.map_snd_zip (by rw [hlen' i]; exact Nat.le_refl _)
  obtain ⟨F0, hF0, hb0⟩ := hs.sat
  have hperm := live_takes (s := []) ht u1 (by simp)
  rw [List.append_nil] at hperm
  have hs1 : St w0 Pr N E (idx 0 (Pre ++ live rs Γ)) a w := { hs with sat := ⟨F0, by rw [live_idx _ 0 [] (by simp)]; exact Sat.perm hperm hF0, hb0⟩ }
  refine (hs1.op h (Evs.get hs hv)).mono ?_
  rintro v w' ⟨i, rfl, st⟩
  rw [hd]
  refine k i _ _ ?_
  obtain ⟨F', hF', hb'⟩ := st.sat
  rw [live_idx _ 0 [] (by simp)] at hF'
  refine { st with sat := ⟨F', ?_, hb'⟩ }
  have hkk : live (ks ++ ds) Γ = live rs Γ := by
    rw [← live_union u3]
    exact live_congr fun x => by simp only [List.mem_append]; exact ⟨.inl, fun h => h.elim (fun h => by simpa using h) fun h => by simpa using subB_mem u4 x h⟩
  rw [live_app (by rw [z1]; exact u2) (by simp), List.append_nil, z1, z2, hkk]
  obtain ⟨A, B, sp, h1, h2⟩ := Sat.append.1 hF'
  exact Sat.append.2 ⟨A, B, sp, h1.emps ds, h2⟩
theorem HQ.drawQ {id : Nat} {ops : Array Oper} {Q : Exit → Act → World → Prop} {G : Type} (hmx : P.follows .mixedOrders = true) (E0 : Env) (hE0 : Sub E E0) (m : Nat) (D : List DOp) (R : List DRes) (vals : G → List Value) (res : G → List HP) (g0 : G)
    (rs ks ds : List Nat) (ht : Takes Γ rs (pickR (res g0) ((List.range R.length).filter (avail R fun _ => false)))) (hm0 : Nat.blt 0 m = true) (hchk : chk ops N m E0 D R = true) (hvl : ∀ g, (vals g).length = m)
    (hop : ∀ i D', D[i]? = some D' → OpOK P w0 Pr E0 ops R vals res i D') (hu : updOk Γ rs (ks ++ ds) = true)
    (hlen : ∀ g, (pickR (res g) ((List.range R.length).filter (avail R fun i => Nat.blt i m))).length = ks.length)
    (k : ∀ g, HQ w0 Pr N (envOf ops (vals g) (List.range m) ++ E0) ((ks ++ ds).zip (pickR (res g) ((List.range R.length).filter (avail R fun i => Nat.blt i m)) ++ emps ds) ++ Γ) (wpS P ops (Q .normal) (ops.toList.drop m))) :
    HQ w0 Pr N E Γ ((Code.region id ops true).wp P Q) := by
  intro a w hs
  refine wp_region_any hmx ?_
  simp only [updOk, Bool.and_eq_true] at hu
  obtain ⟨⟨⟨u1, u2⟩, u3⟩, u4⟩ := hu
  have hperm := live_takes (s := []) ht u1 (by simp)
  rw [List.append_nil] at hperm
  obtain ⟨F0, hF0, hb0⟩ := hs.sat
  have hs1 : St w0 Pr N E0 (idx 0 (pickR (res g0) ((List.range R.length).filter (avail R fun _ => false)) ++ live rs Γ)) a { w with drawn := w.drawn + 1 } :=
    { (hs.sub hE0) with sat := ⟨F0, by rw [live_idx _ 0 [] (by simp)]; exact Sat.perm hperm hF0, hb0⟩ }
  refine draw_any (Rest := live rs Γ) hchk hvl hop ?_ ops.size _ a _ (by simp) (by simp [List.filter_replicate]) ?_ (.inl ⟨g0, ⟨?_, ?_⟩, ?_, ?_⟩)
  · intro g a w hst htm
    refine k g a w ?_
    have hlen' : (pickR (res g) ((List.range R.length).filter (avail R fun i => Nat.blt i m)) ++ emps ds).length = (ks ++ ds).length := by simp [hlen g, emps_len]
    have z1 : ((ks ++ ds).zip (pickR (res g) ((List.range R.length).filter (avail R fun i => Nat.blt i m)) ++ emps ds)).map (·.1) = ks ++ ds := List.map_fst_zip (by rw [hlen']; exact Nat.le_refl _)
    have z2 : ((ks ++ ds).zip (pickR (res g) ((List.range R.length).filter (avail R fun i => Nat.blt i m)) ++ emps ds)).map (·.2) = pickR (res g) ((List.range R.length).filter (avail R fun i => Nat.blt i m)) ++ emps ds :=
      List.map_snd_zip (by rw [hlen']; exact Nat.le_refl _)
    obtain ⟨F', hF', hb'⟩ := hst.sat
    rw [live_idx _ 0 [] (by simp)] at hF'
    have hkk : live (ks ++ ds) Γ = live rs Γ := by
      rw [← live_union u3]
      exact live_congr fun x => by simp only [List.mem_append]; exact ⟨.inl, fun h => h.elim (fun h => by simpa using h) fun h => by simpa using subB_mem u4 x h⟩
    refine { hst with env := ?_, sat := ⟨F', ?_, hb'⟩ }
    · intro t v ht'
      rw [look_app] at ht'
      split at ht'
      · rename_i u hu'
        obtain rfl := Option.some.inj ht'
        have hmem := look_mem hu'
        unfold envOf at hmem
        obtain ⟨j, hj, hjv⟩ := List.mem_filterMap.1 hmem
        simp only [List.mem_range] at hj
        split at hjv
        · rename_i d v' hd hv'
          obtain ⟨rfl, rfl⟩ := Prod.mk.inj (Option.some.inj hjv)
          obtain ⟨v2, h1, h2⟩ := htm j hj d hd
          rw [hv'] at h1; obtain rfl := Option.some.inj h1
          exact h2
        · cases hjv
      · exact hst.env t v ht'
    · rw [live_app (by rw [z1]; exact u2) (by simp), List.append_nil, z1, z2, hkk]
      obtain ⟨A, B, sp, h1, h2⟩ := Sat.append.1 hF'
      exact Sat.append.2 ⟨A, B, sp, h1.emps ds, h2⟩
  · intro i o hi
    simp [Array.getD_eq_getD_getElem?, Array.getElem?_replicate] at hi
    split at hi <;> simp at hi
  · have hS : (fun i => (Array.replicate ops.size false).getD i false) = fun _ => false := by
      funext i
      simp only [Array.getD_eq_getD_getElem?, Array.getElem?_replicate]
      split <;> rfl
    rw [hS]; exact hs1
  · intro j hj hS
    simp [Array.getD_eq_getD_getElem?, Array.getElem?_replicate] at hS
    split at hS <;> simp at hS
  · intro h
    have := h 0 (by simpa [Nat.blt_eq] using hm0)
    simp [Array.getD_eq_getD_getElem?, Array.getElem?_replicate] at this
    split at this <;> simp at this
  · intro i hi
    simp only [Array.getD_eq_getD_getElem?, Array.getElem?_replicate]
    split <;> rfl
theorem OpOK.of {E0 : Env} {ops : Array Oper} {R : List DRes} {G : Type} {vals : G → List Value} {res : G → List HP} {i : Nat} {D : DOp} {ι : Type} {o : Oper} (vs : G → List (Operand × Value)) (val : G → ι → Value) (Post : G → ι → List HP) (upd : G → ι → G)
    (ho : ops[i]? = some o) (hg : o.guard = none) (hev : ∀ g, Evs (envOf ops (vals g) D.ins ++ E0) (vs g)) (hot : ∀ g, OT P w0 Pr o (vs g) (pickR (res g) D.needs) (val g) (Post g))
    (hx : ∀ g x, vals (upd g x) = (vals g).set i (val g x) ∧ Post g x = pickR (res (upd g x)) D.makes ∧ sameBut R i (res g) (res (upd g x))) : OpOK P w0 Pr E0 ops R vals res i D :=
  fun g => ⟨o, ι, val g, Post g, upd g, vs g, ho, hg, hev g, hot g, hx g⟩
theorem Pu.toOT {o : Oper} {vs : List (Operand × Value)} {v : Value} (h : Pu P o vs v) : OT P w0 Pr o vs [] (ι := Unit) (fun _ => v) (fun _ => []) := fun ρ w F hv hs hF hp =>
  runs_value (w' := w) (v := v) (h ρ w hv) ⟨(), rfl, Step.refl hs fun b hb => (hF b hb).2⟩
theorem HQ.re {Q : Act → World → Prop} (t : Nat) {v v' : Value} (hE : look E t = some v) (hv : v = v') (h : HQ w0 Pr N ((t, v') :: E) Γ Q) : HQ w0 Pr N E Γ Q := by
  subst hv
  refine fun a w hs => h a w { hs with env := fun t' u ht => ?_ }
  rw [look_cons] at ht
  split at ht
  · rename_i e; subst e; exact hs.env _ _ (hE.trans ht)
  · exact hs.env t' u ht
theorem HQ.reR {Q : Act → World → Prop} (r : Nat) {A B : HP} (hE : look Γ r = some A) (hv : ∀ h F, A.p h F → B.p h F) (h : HQ w0 Pr N E ((r, B) :: Γ) Q) : HQ w0 Pr N E Γ Q := by
  intro a w hs
  refine h a w { hs with sat := ?_ }
  obtain ⟨F, hF, hb⟩ := hs.sat
  obtain ⟨F1, F2, sp, h1, h2⟩ := Sat.perm (live_look hE (by simp)) hF
  exact ⟨F, by rw [live_out (by simp)]; exact ⟨F1, F2, sp, hv _ _ h1, h2⟩, hb⟩
def OpAll (P : Program) (w0 : World) (Pr : Fp) (E0 : Env) (ops : Array Oper) (R : List DRes) {G : Type} (vals : G → List Value) (res : G → List HP) : Nat → List DOp → Prop
  | _, [] => True
  | i, d :: ds => OpOK P w0 Pr E0 ops R vals res i d ∧ OpAll P w0 Pr E0 ops R vals res (i + 1) ds
theorem OpAll.get {E0 : Env} {ops : Array Oper} {R : List DRes} {G : Type} {vals : G → List Value} {res : G → List HP} : ∀ {D : List DOp} {k : Nat}, OpAll P w0 Pr E0 ops R vals res k D →
    ∀ i D', D[i]? = some D' → OpOK P w0 Pr E0 ops R vals res (k + i) D'
  | [], _, _, i, D', h => by simp at h
  | d :: ds, k, ⟨h1, h2⟩, 0, D', h => by
    have : d = D' := by simpa using h
    subst this; exact h1
  | d :: ds, k, ⟨h1, h2⟩, i + 1, D', h => by
    have := OpAll.get h2 i D' (by simpa using h)
    rw [show k + (i + 1) = k + 1 + i by omega]; exact this
theorem HQ.draw {id : Nat} {ops : Array Oper} {Q : Exit → Act → World → Prop} {G : Type} (hmx : P.follows .mixedOrders = true) (E0 : Env) (m : Nat) (D : List DOp) (R : List DRes) (vals : G → List Value) (res : G → List HP) (g0 : G)
    (rs ks ds : List Nat) (hE0 : Sub E E0) (ht : Takes Γ rs (pickR (res g0) ((List.range R.length).filter (avail R fun _ => false)))) (hm0 : Nat.blt 0 m = true) (hchk : chk ops N m E0 D R = true) (hvl : ∀ g, (vals g).length = m)
    (hu : updOk Γ rs (ks ++ ds) = true)
    (hlen : ∀ g, (pickR (res g) ((List.range R.length).filter (avail R fun i => Nat.blt i m))).length = ks.length)
    (hop : OpAll P w0 Pr E0 ops R vals res 0 D)
    (k : ∀ g, HQ w0 Pr N (envOf ops (vals g) (List.range m) ++ E0) ((ks ++ ds).zip (pickR (res g) ((List.range R.length).filter (avail R fun i => Nat.blt i m)) ++ emps ds) ++ Γ) (wpS P ops (Q .normal) (ops.toList.drop m))) :
    HQ w0 Pr N E Γ ((Code.region id ops true).wp P Q) :=
  HQ.drawQ hmx E0 hE0 m D R vals res g0 rs ks ds ht hm0 hchk hvl (fun i D' h => by have := hop.get i D' h; rwa [Nat.zero_add] at this) hu hlen k
theorem HQ.drawS {id : Nat} {ops : Array Oper} {y : Code} {Q : Exit → Act → World → Prop} {G : Type} (hmx : P.follows .mixedOrders = true) (E0 : Env) (m : Nat) (D : List DOp) (R : List DRes) (vals : G → List Value) (res : G → List HP) (g0 : G)
    (rs ks ds : List Nat) (hE0 : Sub E E0) (ht : Takes Γ rs (pickR (res g0) ((List.range R.length).filter (avail R fun _ => false)))) (hm0 : Nat.blt 0 m = true) (hchk : chk ops N m E0 D R = true) (hvl : ∀ g, (vals g).length = m)
    (hu : updOk Γ rs (ks ++ ds) = true)
    (hlen : ∀ g, (pickR (res g) ((List.range R.length).filter (avail R fun i => Nat.blt i m))).length = ks.length)
    (hop : OpAll P w0 Pr E0 ops R vals res 0 D)
    (k : ∀ g, HQ w0 Pr N (envOf ops (vals g) (List.range m) ++ E0) ((ks ++ ds).zip (pickR (res g) ((List.range R.length).filter (avail R fun i => Nat.blt i m)) ++ emps ds) ++ Γ) (wpS P ops (y.wp P Q) (ops.toList.drop m))) :
    HQ w0 Pr N E Γ ((Code.seq (.region id ops true) y).wp P Q) :=
  .seq (HQ.draw hmx E0 m D R vals res g0 rs ks ds hE0 ht hm0 hchk hvl hu hlen hop k)
theorem wpS_app {ops : Array Oper} {K : Act → World → Prop} : ∀ (l1 l2 : List Oper) (a : Act) (w : World), wpS P ops (wpS P ops K l2) l1 a w → wpS P ops K (l1 ++ l2) a w
  | [], l2, a, w, h => h
  | o :: l1, l2, a, w, h => by
    simp only [wpS, List.cons_append] at h ⊢
    by_cases hw : Region.wanted o (yielded ops a.tmps) = true
    · rw [if_pos hw] at h ⊢; exact h.mono fun v w' hh => wpS_app l1 l2 _ _ hh
    · rw [if_neg hw] at h ⊢; exact wpS_app l1 l2 _ _ h
theorem HQ.cutAt {ops : Array Oper} {K : Act → World → Prop} {l : List Oper} (n : Nat) (E' : Env) (Γ' : Gam) (h : HQ w0 Pr N E Γ (wpS P ops (Mid w0 Pr N E' Γ') (l.take n))) (k : HQ w0 Pr N E' Γ' (wpS P ops K (l.drop n))) :
    HQ w0 Pr N E Γ (wpS P ops K l) := by
  have := HQ.cut (K := wpS P ops K (l.drop n)) E' Γ' h k
  intro a w hs
  have h2 := wpS_app (K := K) (l.take n) (l.drop n) a w (this a w hs)
  rwa [List.take_append_drop] at h2
theorem nilB {α : Type} {K : Kd α} {h : Heap} {F : Fp} : BorS K none 0 [] h F := ⟨Nat.le_refl _, .inl rfl⟩
end
end Go.Proofs.Sx

