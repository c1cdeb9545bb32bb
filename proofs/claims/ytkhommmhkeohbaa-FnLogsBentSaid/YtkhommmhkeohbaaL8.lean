/- Part of a program logic; see the notes. -/
import Derived.Test.YtkhommmhkeohbaaL7
namespace Go.Proofs.Sx
open Go.RowKit
set_option linter.unusedVariables false
set_option linter.unusedSimpArgs false
set_option linter.unusedSectionVars false
section
variable {P : Program} {w0 : World} {Pr : Fp} {d : Option Tmp} {ty : TypeId} {ps : String} {af : Array Edge}
variable {α β : Type} [Inhabited α]
def pairs : List Operand → List Value → List (Operand × Value)
  | x :: xs, u :: us => (x, u) :: pairs xs us
  | _, _ => []
theorem pairs_map {ρ : Operand → Value} : ∀ {xs : List Operand} {us : List Value} (i : Nat), xs.length = us.length → (∀ x u, (x, u) ∈ pairs xs us → ρ x = u) →
    (idx i xs).map (fun p : Nat × Operand => (p.1, ρ p.2)) = idx i us
  | [], [], _, _, _ => rfl
  | x :: xs, u :: us, i, h, hv => by
    simp only [idx, List.map_cons]
    rw [pairs_map (i + 1) (by simpa using h) fun x u hx => hv x u (by simp [pairs, hx]), hv x u (by simp [pairs])]
theorem pairs_args {ρ : Operand → Value} : ∀ {xs : List Operand} {us : List Value}, xs.length = us.length → (∀ x u, (x, u) ∈ pairs xs us → ρ x = u) → xs.map ρ = us
  | [], [], _, _ => rfl
  | x :: xs, u :: us, h, hv => by
    simp only [List.map_cons]
    rw [pairs_args (by simpa using h) fun x u hx => hv x u (by simp [pairs, hx]), hv x u (by simp [pairs])]
theorem own_new {K : Kd α} {w : World} {c : Array Value} {e : TypeId} {ys : List α} {cap : Nat} {F : Fp} (hE : (Els K c.toList ys).p w.heap F) (hF : ∀ b, F b → b < w.heap.size) (hl : ys.length ≤ cap) (hc : cap * K.sz ≤ c.size) :
    (OwnS K (some ⟨w.heap.size, 0, none⟩) cap ys).p (w.heap.push (.cells c e)) (fun b => b = w.heap.size ∨ F b) := by
  refine .inr ⟨w.heap.size, 0, c, e, F, rfl, push_new, hl, by omega, ⟨fun b => Iff.rfl, ?_⟩, ?_⟩
  · rintro b rfl hb; have := hF _ hb; omega
  · exact (Els K _ ys).loc (by simpa using hE) fun b hb => push_old (hF b hb)
theorem OT.build0 {t e : TypeId} {zs : List Value} {n : Nat} {parts : Array (Nat × Operand)} {xs : List Operand} {us : List Value} {K : Kd α} {ys : List α} {Pre : List HP}
    (ht : P.underlying t = some (.slice e)) (hsz : Tsz P e = some K.sz) (hz : Tzc P e = some zs) (hp : parts = (idx 0 xs).toArray) (hxu : xs.length = us.length) (hn : us.length = n) (hy : ys.length = n)
    (hlim : Nat.ble (n * K.sz) 16777216 = true) (hu : ∀ u ∈ us, u.cells.size = K.sz)
    (hE : ∀ h F, Sat Pre h F → ∃ F', (Els K (us.flatMap fun u => u.cells.toList) ys).p h F' ∧ ∀ b, F' b → F b) :
    OT P w0 Pr ⟨d, .buildSlice t n parts, ty, ps, af, none⟩ (pairs xs us) Pre (ι := Option Addr × Nat) (fun p => .slice p.1 ys.length p.2) (fun p => [OwnS K p.1 p.2 ys]) := by
  intro ρ w F hv hs hF hpr
  subst hp
  obtain ⟨c, hc, hrun⟩ := run_buildSlice (P := P) (w := w) ht hsz hz hn (by simpa [Nat.ble_eq] using hlim) hu
  obtain ⟨F', hE', hsub⟩ := hE _ _ hs
  refine runs_value (w' := { w with heap := w.heap.push (.cells c e) }) (v := .slice (some ⟨w.heap.size, 0, none⟩) n n) ?_
    ⟨(some ⟨w.heap.size, 0, none⟩, n), by rw [hy], step_push (fun G hG => ⟨fun b => b = w.heap.size ∨ F' b, Sat.one' (own_new (by rw [hc]; exact hE') (fun b hb => (hF b (hsub b hb)).2) (by omega) ?_), fun b hb => ?_⟩) fun b hb => (hF b hb).2⟩
  · simp only [execOp]
    have hmap : ((idx 0 xs).toArray.map fun (p : Nat × Operand) => (p.1, ρ p.2)) = (idx 0 us).toArray := by
      apply Array.ext'; simp [pairs_map 0 hxu hv]
    have := (run_bind_ok P (Instr.buildSlice t n ((idx 0 xs).toArray.map fun (p : Nat × Operand) => (p.1, ρ p.2))) (fun v => (pure (Next.value v) : Sem Next)) w _ _ (by rw [hmap]; exact hrun))
    exact this.trans rfl
  · have := congrArg List.length hc
    simp only [Array.length_toList] at this
    rw [this]
    have hfl : (us.flatMap fun u => u.cells.toList).length = us.length * K.sz := by
      clear hc hrun hE' hsub hE hv hxu hn this hs
      induction us with
      | nil => simp
      | cons v vs ih =>
        simp only [List.flatMap_cons, List.length_append, List.length_cons]
        rw [ih fun u hu' => hu u (by simp [hu'])]
        have := hu v (by simp)
        simp [this, Nat.add_mul]; omega
    rw [hfl, hn]; exact Nat.le_refl _
  · rcases hb with h | h
    · exact .inr ((hG b).2 h)
    · exact .inl (hsub b h)
theorem Els.flat {n : Nat} {enc : α → List Value} {hl : ∀ x, (enc x).length = n ∧ (enc x).all cellV = true} {h : Heap} : ∀ (ys : List α), (Els (.flat n enc hl) (ys.flatMap enc) ys).p h (fun _ => False)
  | [] => fun b hb => hb
  | y :: ys => by
    have hy := (hl y).1
    refine ⟨fun _ => False, fun _ => False, Spl.nil_left _, ⟨?_, fun b hb => hb⟩, ?_⟩
    · show (List.take n _) = _
      rw [List.flatMap_cons, List.take_append_of_le_length (by omega), List.take_of_length_le (by omega)]
    · show (Els _ (List.drop n _) ys).p h _
      rw [List.flatMap_cons, List.drop_append_of_le_length (by omega), List.drop_of_length_le (by omega), List.nil_append]
      exact Els.flat ys
theorem OT.buildF {t e : TypeId} {zs : List Value} {n sz : Nat} {parts : Array (Nat × Operand)} (xs : List Operand) {us : List Value} {enc : α → List Value} {hl : ∀ x, (enc x).length = sz ∧ (enc x).all cellV = true} {ys : List α}
    (ht : P.underlying t = some (.slice e)) (hsz : Tsz P e = some sz) (hz : Tzc P e = some zs) (hp : parts = (idx 0 xs).toArray) (hxu : xs.length = us.length) (hy : ys.length = n)
    (hlim : Nat.ble (n * sz) 16777216 = true) (hu : us.map (fun u => u.cells.toList) = ys.map enc) :
    OT P w0 Pr ⟨d, .buildSlice t n parts, ty, ps, af, none⟩ (pairs xs us) [] (ι := Option Addr × Nat) (fun p => .slice p.1 ys.length p.2) (fun p => [OwnS (.flat sz enc hl) p.1 p.2 ys]) := by
  have hlen : us.length = ys.length := by have := congrArg List.length hu; simpa using this
  refine OT.build0 (K := .flat sz enc hl) ht hsz hz hp hxu (hlen.trans hy) hy hlim (fun u hu' => ?_) (fun h F hs => ⟨fun _ => False, ?_, fun b hb => hb.elim⟩)
  · have : u.cells.toList ∈ ys.map enc := by rw [← hu]; exact List.mem_map_of_mem hu'
    obtain ⟨y, _, hy'⟩ := List.mem_map.1 this
    have h2 : u.cells.toList.length = sz := by rw [← hy']; exact (hl y).1
    exact (by simpa using h2 : u.cells.size = sz)
  · have : us.flatMap (fun u => u.cells.toList) = ys.flatMap enc := by simp only [List.flatMap]; rw [hu]
    rw [this]; exact Els.flat ys
theorem OT.buildO {t e : TypeId} {zs : List Value} {sz : Nat} {parts : Array (Nat × Operand)} (x : Operand) {u : Value} {enc : α → Value → List Value} {hl : ∀ x v, cellV v = true → (enc x v).length = sz ∧ (enc x v).all cellV = true} {K : Kd β} {sub : α → List β}
    {a : Option Addr} {c : Nat} {zs' : List β} (y : α)
    (ht : P.underlying t = some (.slice e)) (hsz : Tsz P e = some sz) (hz : Tzc P e = some zs) (hp : parts = #[(0, x)]) (hlim : Nat.ble (1 * sz) 16777216 = true)
    (hu : u.cells.toList = enc y (.slice a zs'.length c)) (hsub : sub y = zs') :
    OT P w0 Pr ⟨d, .buildSlice t 1 parts, ty, ps, af, none⟩ [(x, u)] [OwnS K a c zs'] (ι := Option Addr × Nat) (fun p => .slice p.1 [y].length p.2) (fun p => [OwnS (.one sz enc hl K sub) p.1 p.2 [y]]) := by
  refine OT.build0 (K := .one sz enc hl K sub) (us := [u]) (xs := [x]) (ys := [y]) ht hsz hz hp rfl rfl rfl hlim (fun u' hu' => ?_) (fun h F hs => ⟨F, ?_, fun b hb => hb⟩)
  · have : u' = u := by simpa using hu'
    subst this
    have h2 : u'.cells.toList.length = sz := by rw [hu]; exact (hl _ _ rfl).1
    exact (by simpa using h2 : u'.cells.size = sz)
  · refine ⟨F, fun _ => False, Spl.nil_right F, ⟨a, c, fun _ => False, F, Spl.nil_left F, ⟨?_, fun b hb => hb⟩, ?_⟩, fun b hb => hb⟩
    · show List.take sz _ = _
      simp only [List.flatMap_cons, List.flatMap_nil, List.append_nil]
      rw [hu, hsub, List.take_of_length_le (by rw [(hl _ _ rfl).1]; exact Nat.le_refl _)]
    · rw [hsub]; exact hs.one
theorem Els.prefix {K : Kd α} {h : Heap} : ∀ {xs : List α} {cs ds : List Value} {F : Fp}, (Els K cs xs).p h F → cs.take (xs.length * K.sz) = ds.take (xs.length * K.sz) → (Els K ds xs).p h F
  | [], _, _, _, hE, _ => hE
  | x :: xs, cs, ds, F, ⟨F1, F2, sp, h1, h2⟩, he => by
    have e : (x :: xs).length * K.sz = K.sz + xs.length * K.sz := by simp [Nat.add_mul]; omega
    rw [e] at he
    have t1 : cs.take K.sz = ds.take K.sz := by
      have := congrArg (List.take K.sz) he
      simpa [List.take_take, Nat.min_eq_left (Nat.le_add_right K.sz _)] using this
    have t2 : (cs.drop K.sz).take (xs.length * K.sz) = (ds.drop K.sz).take (xs.length * K.sz) := by
      have := congrArg (List.drop K.sz) he
      simpa [List.drop_take] using this
    exact ⟨F1, F2, sp, t1 ▸ h1, Els.prefix h2 t2⟩
theorem Els.lenle {K : Kd α} {h : Heap} {xs : List α} {cs : List Value} {F : Fp} (hE : (Els K cs xs).p h F) : xs.length * K.sz ≤ cs.length := (Els.rds hE fun _ hb => hb).len
theorem Els.append {K : Kd α} {h : Heap} : ∀ {xs ys : List α} {cs ds : List Value} {F G : Fp}, (Els K cs xs).p h F → (Els K ds ys).p h G → (∀ b, F b → ¬ G b) →
    (Els K (cs.take (xs.length * K.sz) ++ ds) (xs ++ ys)).p h (fun b => F b ∨ G b)
  | [], ys, cs, ds, F, G, hF, hG, _ => by
    have : (fun b => F b ∨ G b) = G := Fp.ext fun b => ⟨fun h => h.elim (fun h' => (hF b h').elim) id, .inr⟩
    rw [this]; simpa using hG
  | x :: xs, ys, cs, ds, F, G, ⟨F1, F2, sp, h1, h2⟩, hG, hd => by
    have e : (x :: xs).length * K.sz = K.sz + xs.length * K.sz := by simp [Nat.add_mul]; omega
    have hl := K.len h1
    simp only [List.length_take] at hl
    have ih := Els.append h2 hG fun b hb hg => hd b (sp.right hb) hg
    refine ⟨F1, fun b => F2 b ∨ G b, ⟨fun b => ?_, fun b h1' h2' => ?_⟩, ?_, ?_⟩
    · show F b ∨ G b ↔ _
      rw [sp.1 b, or_assoc]
    · rcases h2' with h | h
      · exact sp.2 b h1' h
      · exact hd b (sp.left h1') h
    · rw [e, List.take_append_of_le_length (by simp; omega), List.take_take, Nat.min_eq_left (by omega)]; exact h1
    · have : (cs.take ((x :: xs).length * K.sz) ++ ds).drop K.sz = (cs.drop K.sz).take (xs.length * K.sz) ++ ds := by
        rw [e, List.drop_append_of_le_length (by simp; omega), List.drop_take, Nat.add_sub_cancel_left]
      rw [this]; exact ih
def okLen (n : Nat) : Bool := decide (n < 274877906944)
theorem growBy_le (need : Nat) : ∀ (k c : Nat), c ≤ 2 * need + 768 → Builtin.growBy need k c ≤ 2 * need + 768
  | 0, c, h => h
  | k + 1, c, h => by
    unfold Builtin.growBy
    split
    · exact h
    · exact growBy_le need k _ (by omega)
theorem nextcap_le {need cap : Nat} (h : cap < need) : Builtin.nextslicecap need cap ≤ 2 * need + 768 := by
  unfold Builtin.nextslicecap
  split
  · omega
  · split
    · omega
    · exact growBy_le _ _ _ (by omega)
theorem run_firstCells {sz n : Nat} {a : Option Addr} {l c : Nat} {cs : List Value} {w : World}
    (h : (n * sz = 0 ∧ cs = []) ∨ ∃ b off arr ty fz, a = some ⟨b, off, none⟩ ∧ w.heap[b]? = some (.cells arr ty fz) ∧ off + n * sz ≤ arr.size ∧ cs = (arr.toList.drop off).take (n * sz)) :
    (Builtin.firstCells sz n (.slice a l c)).run P w = .ok cs.toArray w := by
  rcases h with ⟨h0, rfl⟩ | ⟨b, off, arr, ty, fz, rfl, hh, hl, rfl⟩
  · cases a with
    | none => rfl
    | some a =>
      show (loadCells a (n * sz)).run P w = _
      rw [h0]; rfl
  · exact run_loadCells hh hl
end
end Go.Proofs.Sx

