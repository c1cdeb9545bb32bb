/- Part of a program logic; see the notes. -/
import Derived.Test.YtkhommmhkeohbaaL9
namespace Go.Proofs.Sx
open Go.RowKit
set_option linter.unusedVariables false
set_option linter.unusedSimpArgs false
set_option linter.unusedSectionVars false
structure SlT (P : Program) (t e : TypeId) (n bytes : Nat) (zs : List Value) : Prop where
  ul : P.underlying t = some (.slice e)
  szE : Tsz P e = some n
  by_ : Tby P e = some bytes
  b0 : (Nat.blt 0 bytes && Nat.ble bytes 400) = true
  zc : Tzc P e = some zs
  zl : zs.length = n
section
variable {P : Program} {w0 : World} {Pr : Fp} {d : Option Tmp} {ty : TypeId} {ps : String} {af : Array Edge}
variable {α β : Type} [Inhabited α]
theorem append_op {t t2 e : TypeId} {K : Kd α} {bytes : Nat} {zs : List Value} {x y : Operand} {a a2 : Option Addr} {cap l2 cap2 : Nat} {xs ys : List α} {w : World} {F FS FR : Fp} {ds : List Value} {ρ : Operand → Value} {Rest : List HP}
    (T : SlT P t e K.sz bytes zs) (ht2 : P.underlying t2 = some (.slice e)) (hx : ρ x = .slice a xs.length cap) (hy : ρ y = .slice a2 l2 cap2)
    (ho : (OwnS K a cap xs).p w.heap F) (hF : ∀ b, F b → b < w.heap.size) (hs : SrcAt w.heap a2 (ys.length * K.sz) ds) (hl2 : l2 = ys.length) (hlen : okLen (xs.length + ys.length) = true)
    (hcv : ds.all cellV = true) (hE : (Els K ds ys).p w.heap FS) (hFS : ∀ b, FS b → b < w.heap.size) (hdis : ∀ b, F b → ¬ FS b)
    (hR : Sat Rest w.heap FR) (hFR : ∀ b, FR b → b < w.heap.size ∧ ¬ F b ∧ ¬ FS b) :
    Runs P ⟨d, .call ⟨.builtin .append, #[x, y], #[t, t2]⟩, ty, ps, af, none⟩ ρ w fun v w' =>
      ∃ p : Option Addr × Nat, v = .slice p.1 (xs ++ ys).length p.2 ∧ Step w (fun b => F b ∨ FS b ∨ FR b) w' (OwnS K p.1 p.2 (xs ++ ys) :: Rest) := by
  have b0 := T.b0
  simp only [Bool.and_eq_true, Nat.blt_eq, Nat.ble_eq] at b0
  obtain ⟨a', cap', w', h1, h2, h3, h4, h5, h6, F', h7, h8⟩ := run_append (P := P) (ty := ty) (cap2 := cap2) T.ul ht2 T.szE T.by_ (by omega) b0.2 T.zc T.zl ho hF hs hl2 hlen hcv hE hFS hdis
  refine runs_value (w' := w') (v := .slice a' (xs ++ ys).length cap') ?_ ⟨(a', cap'), rfl, h2, h3, h4, h5, fun b hb hf => h6 b hb fun h => hf (.inl h), fun b => F' b ∨ FR b, ⟨F', FR, ⟨fun b => Iff.rfl, ?_⟩, h7, ?_⟩, ?_⟩
  · simp only [execOp, resolve, List.map_toArray, List.map_cons, List.map_nil, hx, hy]
    exact (run_bind_ok P (Builtin.append_ #[t, t2] ty #[.slice a xs.length cap, .slice a2 l2 cap2]) (fun v => (pure (Next.value v) : Sem Next)) w w' _ h1).trans rfl
  · intro b hb hr
    rcases (h8 b hb).1 with h | h | h
    · exact (hFR b hr).2.1 h
    · exact (hFR b hr).2.2 h
    · have := (hFR b hr).1; omega
  · exact Sat.loc hR fun b hb => h6 b (hFR b hb).1 (hFR b hb).2.1
  · rintro b (hb | hb)
    · refine ⟨?_, (h8 b hb).2⟩
      rcases (h8 b hb).1 with h | h | h
      · exact .inl (.inl h)
      · exact .inl (.inr (.inl h))
      · exact .inr h
    · exact ⟨.inl (.inr (.inr hb)), Nat.lt_of_lt_of_le (hFR b hb).1 h5⟩
theorem OwnS.src {K : Kd α} {a : Option Addr} {cap : Nat} {xs : List α} {h : Heap} {F : Fp} (ho : (OwnS K a cap xs).p h F) :
    ∃ ds F2, SrcAt h a (xs.length * K.sz) ds ∧ ds.all cellV = true ∧ (Els K ds xs).p h F2 ∧ ∀ b, F2 b → F b := by
  rcases ho with ⟨ha, hc, hx, hf⟩ | ⟨b, off, c, u, F2, ha, hh, hl, hc, hsp, he⟩
  · subst hx; exact ⟨[], fun _ => False, .inl ⟨by simp, rfl⟩, rfl, fun b hb => hb, fun b hb => hb.elim⟩
  · have hle : off + xs.length * K.sz ≤ c.size := by
      have : xs.length * K.sz ≤ cap * K.sz := Nat.mul_le_mul_right _ hl
      omega
    exact ⟨_, F2, .inr ⟨b, off, c, u, _, ha, hh, hle, rfl⟩, Rds.cv (Els.rds he fun _ hb => hb), Els.prefix he (by rw [List.take_take, Nat.min_self]), fun z hz => hsp.right hz⟩
theorem BorS.src {K : Kd α} {a : Option Addr} {cap : Nat} {xs : List α} {h : Heap} {F : Fp} (ho : BorS K a cap xs h F) :
    ∃ ds, SrcAt h a (xs.length * K.sz) ds ∧ ds.all cellV = true ∧ Rds K ds xs h F := by
  rcases ho.2 with hx | ⟨b, off, c, u, fz, ha, hp, hh, he⟩
  · subst hx; exact ⟨[], .inl ⟨by simp, rfl⟩, rfl, trivial⟩
  · have hle := he.len
    simp only [List.length_drop, Array.length_toList] at hle
    rcases Nat.eq_zero_or_pos (xs.length * K.sz) with h0 | h0
    · refine ⟨[], .inl ⟨h0, rfl⟩, rfl, ?_⟩
      cases xs with
      | nil => trivial
      | cons x xs =>
        have hz : K.sz = 0 := by
          rcases Nat.mul_eq_zero.1 h0 with h | h
          · simp at h
          · exact h
        have key : ∀ (l : List α) (cs : List Value), Rds K cs l h F → Rds K [] l h F := by
          intro l
          induction l with
          | nil => exact fun _ _ => trivial
          | cons y l ih =>
            rintro cs ⟨k1, k2⟩
            refine ⟨?_, by simpa using ih _ k2⟩
            rw [hz] at k1 ⊢; simpa using k1
        exact key _ _ he
    · refine ⟨_, .inr ⟨b, off, c, u, _, ha, hh, by omega, rfl⟩, Rds.cv he, ?_⟩
      have key : ∀ (l : List α) (cs : List Value), Rds K cs l h F → Rds K (cs.take (l.length * K.sz)) l h F := by
        intro l
        induction l with
        | nil => exact fun _ _ => trivial
        | cons y l ih =>
          rintro cs ⟨k1, k2⟩
          have e : (y :: l).length * K.sz = K.sz + l.length * K.sz := by simp [Nat.add_mul]; omega
          refine ⟨?_, ?_⟩
          · rw [e, List.take_take, Nat.min_eq_left (by omega)]; exact k1
          · rw [e, List.drop_take, Nat.add_sub_cancel_left]; exact ih _ k2
      exact key _ _ he
theorem Rds.flatEls {n : Nat} {enc : α → List Value} {hl : ∀ x, (enc x).length = n ∧ (enc x).all cellV = true} {h h' : Heap} {Pr : Fp} : ∀ {ys : List α} {ds : List Value}, Rds (.flat n enc hl) ds ys h Pr → (Els (.flat n enc hl) ds ys).p h' (fun _ => False)
  | [], _, _ => fun b hb => hb
  | y :: ys, ds, ⟨h1, h2⟩ => ⟨fun _ => False, fun _ => False, Spl.nil_left _, ⟨h1, fun b hb => hb⟩, Rds.flatEls h2⟩
theorem OT.appendO {t t2 e : TypeId} {K : Kd α} {bytes : Nat} {zs : List Value} {x y : Operand} {a a2 : Option Addr} {cap cap2 : Nat} {xs ys : List α}
    (T : SlT P t e K.sz bytes zs) (ht2 : P.underlying t2 = some (.slice e)) (hlen : okLen (xs.length + ys.length) = true) :
    OT P w0 Pr ⟨d, .call ⟨.builtin .append, #[x, y], #[t, t2]⟩, ty, ps, af, none⟩ [(x, .slice a xs.length cap), (y, .slice a2 ys.length cap2)] [OwnS K a cap xs, OwnS K a2 cap2 ys]
      (ι := Option Addr × Nat) (fun p => .slice p.1 (xs ++ ys).length p.2) (fun p => [OwnS K p.1 p.2 (xs ++ ys)]) := by
  intro ρ w F hv hs hF hp
  obtain ⟨F1, F2, sp, h1, h2⟩ := hs.two
  obtain ⟨ds, G, hsrc, hcv, hE, hG⟩ := OwnS.src h2
  have := append_op (P := P) (d := d) (ty := ty) (ps := ps) (af := af) (Rest := []) (FR := fun _ => False) T ht2 (hv x (.slice a xs.length cap) (by simp)) (hv y (.slice a2 ys.length cap2) (by simp)) h1 (fun b hb => (hF b (sp.left hb)).2) hsrc rfl hlen hcv hE
    (fun b hb => (hF b (sp.right (hG b hb))).2) (fun b hb hg => sp.2 b hb (hG b hg)) (fun b hb => hb) (fun b hb => hb.elim)
  refine this.mono fun v w' ⟨p, hv, st⟩ => ⟨p, hv, st.os, st.tape, st.output, st.size, fun b hb hf => st.keep b hb ?_, ?_⟩
  · rintro (h | h | h)
    · exact hf (sp.left h)
    · exact hf (sp.right (hG b h))
    · exact h
  · obtain ⟨F', hF', hb'⟩ := st.sat
    refine ⟨F', hF', fun b hb => ⟨(hb' b hb).1.imp ?_ id, (hb' b hb).2⟩⟩
    rintro (h | h | h)
    · exact sp.left h
    · exact sp.right (hG b h)
    · exact h.elim
theorem OT.appendF {t t2 e : TypeId} {n : Nat} {enc : α → List Value} {hl : ∀ x, (enc x).length = n ∧ (enc x).all cellV = true} {bytes : Nat} {zs : List Value} {x y : Operand} {a a2 : Option Addr} {cap cap2 : Nat} {xs ys : List α}
    (T : SlT P t e n bytes zs) (ht2 : P.underlying t2 = some (.slice e)) (hb : BorS (.flat n enc hl) a2 cap2 ys w0.heap Pr) (hlen : okLen (xs.length + ys.length) = true) :
    OT P w0 Pr ⟨d, .call ⟨.builtin .append, #[x, y], #[t, t2]⟩, ty, ps, af, none⟩ [(x, .slice a xs.length cap), (y, .slice a2 ys.length cap2)] [OwnS (.flat n enc hl) a cap xs]
      (ι := Option Addr × Nat) (fun p => .slice p.1 (xs ++ ys).length p.2) (fun p => [OwnS (.flat n enc hl) p.1 p.2 (xs ++ ys)]) := by
  intro ρ w F hv hs hF hp
  obtain ⟨ds, hsrc, hcv, hr⟩ := (bor_now hb hp).src
  have := append_op (P := P) (K := .flat n enc hl) (d := d) (ty := ty) (ps := ps) (af := af) (Rest := []) (FR := fun _ => False) T ht2 (hv x (.slice a xs.length cap) (by simp)) (hv y (.slice a2 ys.length cap2) (by simp)) hs.one (fun b hb => (hF b hb).2) hsrc rfl hlen hcv hr.flatEls
    (fun b hb => hb.elim) (fun b hb hg => hg) (fun b hb => hb) (fun b hb => hb.elim)
  exact this.mono fun v w' ⟨p, hv, st⟩ => ⟨p, hv, st.congrF fun b => by simp⟩
theorem OT.appendG {t t2 e : TypeId} {n : Nat} {enc : α → List Value} {hl : ∀ x, (enc x).length = n ∧ (enc x).all cellV = true} {bytes : Nat} {zs : List Value} {x y : Operand} {a a2 : Option Addr} {cap cap2 : Nat} {xs ys : List α}
    (T : SlT P t e n bytes zs) (ht2 : P.underlying t2 = some (.slice e)) (hlen : okLen (xs.length + ys.length) = true) :
    OT P w0 Pr ⟨d, .call ⟨.builtin .append, #[x, y], #[t, t2]⟩, ty, ps, af, none⟩ [(x, .slice a xs.length cap), (y, .slice a2 ys.length cap2)] [OwnS (.flat n enc hl) a cap xs, OwnS (.flat n enc hl) a2 cap2 ys]
      (ι := Option Addr × Nat) (fun p => .slice p.1 (xs ++ ys).length p.2) (fun p => [OwnS (.flat n enc hl) p.1 p.2 (xs ++ ys), OwnS (.flat n enc hl) a2 cap2 ys]) := by
  intro ρ w F hv hs hF hp
  obtain ⟨F1, F2, sp, h1, h2⟩ := hs.two
  obtain ⟨ds, hsrc, hcv, hr⟩ := (OwnS.bor h2).src
  have := append_op (P := P) (K := .flat n enc hl) (d := d) (ty := ty) (ps := ps) (af := af) (Rest := [OwnS (.flat n enc hl) a2 cap2 ys]) (FR := F2) T ht2 (hv x (.slice a xs.length cap) (by simp)) (hv y (.slice a2 ys.length cap2) (by simp)) h1 (fun b hb => (hF b (sp.left hb)).2) hsrc rfl hlen hcv hr.flatEls
    (fun b hb => hb.elim) (fun b hb hg => hg) (Sat.one' h2) (fun b hb => ⟨(hF b (sp.right hb)).2, fun h => sp.2 b h hb, fun h => h⟩)
  exact this.mono fun v w' ⟨p, hv, st⟩ => ⟨p, hv, st.congrF fun b => by rw [sp.1 b]; simp⟩
def slc (xs : List α) (l h : Int) : List α := (xs.drop l.toNat).take (h.toNat - l.toNat)
def sAd (a : Option Addr) (cap sz : Nat) (l : Int) : Option Addr := if cap = l.toNat then a else a.map (·.add (l.toNat * sz))
omit [Inhabited α] in
theorem slc_len {xs : List α} {l h : Int} (hl : 0 ≤ l ∧ l ≤ h ∧ h ≤ (xs.length : Int)) : (slc xs l h).length = h.toNat - l.toNat := by simp [slc]; omega
theorem run_slice {t e : TypeId} {sz : Nat} {a : Option Addr} {n cap : Nat} {l h : Int} {lo hi : Option Value} {w : World} (ht : P.underlying t = some (.slice e)) (hsz : Tsz P e = some sz)
    (hlo : (lo = none ∧ l = 0) ∨ ∃ k, lo = some (.int k l)) (hhi : (hi = none ∧ h = (n : Int)) ∨ ∃ k, hi = some (.int k h)) (hb : 0 ≤ l ∧ l ≤ h ∧ h ≤ (n : Int)) (hc : n ≤ cap) :
    (Instr.sliceAt t (.slice a n cap) lo hi none).run P w = .ok (.slice (sAd a cap sz l) (h.toNat - l.toNat) (cap - l.toNat)) w := by
  unfold Tsz at hsz
  cases he : P.info? e with
  | none => rw [he] at hsz; cases hsz
  | some inf =>
    rw [he] at hsz
    obtain rfl := Option.some.inj hsz
    have hhn : h ≤ (cap : Int) := by omega
    have hl' : l.toNat ≤ h.toNat := by omega
    have hh' : 0 ≤ h := by omega
    have hmx : max h 0 = h := by omega
    rcases hlo with ⟨rfl, rfl⟩ | ⟨k, rfl⟩ <;> rcases hhi with ⟨rfl, rfl⟩ | ⟨k', rfl⟩ <;>
      simp [Instr.sliceAt, Instr.slice, Instr.sliceBounds, Instr.sliceBound, asIntOf, underlying, sizeOf, typeInfo, bind, Sem.bind, program, Sem.run, pure, ht, he, sAd, hb.1, hb.2.1, hhn, hl', hh', hmx]
theorem Els.slc {K : Kd α} {h : Heap} : ∀ (l : Nat) {xs : List α} {cs : List Value} {F : Fp}, (Els K cs xs).p h F → ∃ F', (Els K (cs.drop (l * K.sz)) (xs.drop l)).p h F' ∧ ∀ b, F' b → F b
  | 0, xs, cs, F, hE => ⟨F, by simpa using hE, fun b hb => hb⟩
  | l + 1, [], cs, F, hE => ⟨F, (fun b hb => hE b hb : ∀ b, ¬ F b), fun b hb => hb⟩
  | l + 1, x :: xs, cs, F, ⟨F1, F2, sp, h1, h2⟩ => by
    obtain ⟨F', h3, h4⟩ := Els.slc l h2
    refine ⟨F', ?_, fun b hb => sp.right (h4 b hb)⟩
    rw [List.drop_drop] at h3
    have : K.sz + l * K.sz = (l + 1) * K.sz := by rw [Nat.add_mul]; omega
    rw [this] at h3; simpa using h3
theorem Els.takeN {K : Kd α} {h : Heap} : ∀ (n : Nat) {xs : List α} {cs : List Value} {F : Fp}, (Els K cs xs).p h F → ∃ F', (Els K cs (xs.take n)).p h F' ∧ ∀ b, F' b → F b
  | 0, xs, cs, F, hE => ⟨fun _ => False, fun b hb => hb, fun b hb => hb.elim⟩
  | n + 1, [], cs, F, hE => ⟨F, hE, fun b hb => hb⟩
  | n + 1, x :: xs, cs, F, ⟨F1, F2, sp, h1, h2⟩ => by
    obtain ⟨F', h3, h4⟩ := Els.takeN n h2
    exact ⟨fun b => F1 b ∨ F' b, ⟨F1, F', ⟨fun b => Iff.rfl, fun b h5 h6 => sp.2 b h5 (h4 b h6)⟩, h1, h3⟩, fun b hb => hb.elim sp.left fun h => sp.right (h4 b h)⟩
theorem Rds.slc {K : Kd α} {h : Heap} {Pr : Fp} : ∀ (l : Nat) {xs : List α} {cs : List Value}, Rds K cs xs h Pr → Rds K (cs.drop (l * K.sz)) (xs.drop l) h Pr
  | 0, xs, cs, hE => by simpa using hE
  | l + 1, [], cs, hE => trivial
  | l + 1, x :: xs, cs, ⟨h1, h2⟩ => by
    have h3 := Rds.slc l h2
    rw [List.drop_drop] at h3
    have : K.sz + l * K.sz = (l + 1) * K.sz := by rw [Nat.add_mul]; omega
    rw [this] at h3; simpa using h3
theorem Rds.takeN {K : Kd α} {h : Heap} {Pr : Fp} : ∀ (n : Nat) {xs : List α} {cs : List Value}, Rds K cs xs h Pr → Rds K cs (xs.take n) h Pr
  | 0, xs, cs, hE => trivial
  | n + 1, [], cs, hE => trivial
  | n + 1, x :: xs, cs, ⟨h1, h2⟩ => ⟨h1, Rds.takeN n h2⟩
theorem sAd_some {b off cap sz : Nat} {l : Int} : ∃ off', sAd (some ⟨b, off, none⟩) cap sz l = some ⟨b, off', none⟩ ∧ (cap ≠ l.toNat → off' = off + l.toNat * sz) := by
  unfold sAd
  split
  · rename_i h; exact ⟨off, rfl, fun h' => absurd h h'⟩
  · exact ⟨off + l.toNat * sz, by simp [Addr.add_eq], fun _ => rfl⟩
theorem BorS.slice {K : Kd α} {a : Option Addr} {cap : Nat} {xs : List α} {h : Heap} {Pr : Fp} (hb : BorS K a cap xs h Pr) {l hi : Int} (hl : 0 ≤ l ∧ l ≤ hi ∧ hi ≤ (xs.length : Int)) :
    BorS K (sAd a cap K.sz l) (cap - l.toNat) (slc xs l hi) h Pr := by
  refine ⟨?_, ?_⟩
  · rw [slc_len hl]; have := hb.1; omega
  · rcases hb.2 with hx | ⟨b, off, c, u, fz, ha, hp, hh, hr⟩
    · left; subst hx; simp [slc]
    · subst ha
      by_cases hz : slc xs l hi = []
      · exact .inl hz
      · obtain ⟨off', e1, e2⟩ := sAd_some (b := b) (off := off) (cap := cap) (sz := K.sz) (l := l)
        have hne : cap ≠ l.toNat := by
          intro hc
          apply hz
          have := slc_len hl
          have h2 := hb.1
          exact List.eq_nil_of_length_eq_zero (by omega)
        refine .inr ⟨b, off', c, u, fz, e1, hp, hh, ?_⟩
        rw [e2 hne, ← List.drop_drop]
        exact Rds.takeN _ (Rds.slc _ hr)
theorem OwnS.slice {K : Kd α} {a : Option Addr} {cap : Nat} {xs : List α} {h : Heap} {F : Fp} (ho : (OwnS K a cap xs).p h F) {l hi : Int} (hl : 0 ≤ l ∧ l ≤ hi ∧ hi ≤ (xs.length : Int)) :
    ∃ F', (OwnS K (sAd a cap K.sz l) (cap - l.toNat) (slc xs l hi)).p h F' ∧ ∀ b, F' b → F b := by
  have hlen := slc_len hl
  have hlc := OwnS.len ho
  rcases ho with ⟨ha, hc, hx, hf⟩ | ⟨b, off, c, u, F2, ha, hh, hl', hc, hsp, he⟩
  · subst ha; subst hc; subst hx
    refine ⟨F, .inl ⟨?_, by omega, by simp [slc], hf⟩, fun b hb => hb⟩
    unfold sAd; split <;> rfl
  · subst ha
    obtain ⟨off', e1, e2⟩ := sAd_some (b := b) (off := off) (cap := cap) (sz := K.sz) (l := l)
    by_cases hne : cap = l.toNat
    · refine ⟨fun z => z = b, .inr ⟨b, off', c, u, fun _ => False, e1, hh, by omega, ?_, Spl.nil_right _, ?_⟩, fun z hz => hz ▸ hsp.left rfl⟩
      · have : off' = off := by
          unfold sAd at e1; rw [if_pos hne] at e1
          have := Option.some.inj e1
          exact (Addr.mk.inj this).2.1.symm
        subst this
        rw [hne] at hc ⊢
        have hle := Els.lenle he
        simp only [List.length_drop, Array.length_toList] at hle
        simp only [Nat.sub_self, Nat.zero_mul]
        rcases Nat.lt_or_ge c.size off' with h1 | h1
        · omega
        · exact h1
      · have : slc xs l hi = [] := List.eq_nil_of_length_eq_zero (by omega)
        rw [this]; exact fun z hz => hz
    · obtain ⟨F3, h3, h4⟩ := Els.slc l.toNat he
      obtain ⟨F4, h5, h6⟩ := Els.takeN (hi.toNat - l.toNat) h3
      refine ⟨fun z => z = b ∨ F4 z, .inr ⟨b, off', c, u, F4, e1, hh, by omega, ?_, ⟨fun z => Iff.rfl, ?_⟩, ?_⟩, ?_⟩
      · rw [e2 hne, Nat.sub_mul]
        have : l.toNat * K.sz ≤ cap * K.sz := Nat.mul_le_mul_right _ (by omega)
        omega
      · rintro z rfl hz; exact hsp.2 _ rfl (h4 _ (h6 _ hz))
      · rw [e2 hne, ← List.drop_drop]; exact h5
      · rintro z (hz | hz)
        · exact hz ▸ hsp.left rfl
        · exact hsp.right (h4 z (h6 z hz))
end
end Go.Proofs.Sx

