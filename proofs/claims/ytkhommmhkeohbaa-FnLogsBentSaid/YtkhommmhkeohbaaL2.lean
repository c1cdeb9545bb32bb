/- Part of a program logic; see the notes. -/
import Derived.Test.YtkhommmhkeohbaaL1
namespace Go.Proofs.Sx
open Go.RowKit
set_option linter.unusedVariables false
set_option linter.unusedSimpArgs false
def cellV : Value → Bool
  | .agg _ => false
  | .tuple _ => false
  | _ => true
structure Kd (α : Type) where
  sz : Nat
  own : List Value → α → HP
  rd : List Value → α → Heap → Fp → Prop
  len : ∀ {cs x h F}, (own cs x).p h F → cs.length = sz
  lenr : ∀ {cs x h Pr}, rd cs x h Pr → cs.length = sz
  cv : ∀ {cs x h Pr}, rd cs x h Pr → cs.all cellV = true
  mono : ∀ {cs x} {h h' : Heap} {Pr Pr' : Fp}, rd cs x h Pr → (∀ b, Pr b → Pr' b ∧ h'[b]? = h[b]?) → rd cs x h' Pr'
  rdown : ∀ {cs x h F}, (own cs x).p h F → rd cs x h F
def Els {α : Type} (K : Kd α) : List Value → List α → HP
  | _, [] => emp
  | cs, x :: xs => star (K.own (cs.take K.sz) x) (Els K (cs.drop K.sz) xs)
def Rds {α : Type} (K : Kd α) : List Value → List α → Heap → Fp → Prop
  | _, [], _, _ => True
  | cs, x :: xs, h, Pr => K.rd (cs.take K.sz) x h Pr ∧ Rds K (cs.drop K.sz) xs h Pr
theorem Rds.mono {α : Type} {K : Kd α} : ∀ {xs : List α} {cs : List Value} {h h' : Heap} {Pr Pr' : Fp}, Rds K cs xs h Pr →
    (∀ b, Pr b → Pr' b ∧ h'[b]? = h[b]?) → Rds K cs xs h' Pr'
  | [], _, _, _, _, _, _, _ => trivial
  | _ :: _, _, _, _, _, _, ⟨a, b⟩, hk => ⟨K.mono a hk, Rds.mono b hk⟩
theorem Els.rds {α : Type} {K : Kd α} : ∀ {xs : List α} {cs : List Value} {h : Heap} {F G : Fp}, (Els K cs xs).p h F → (∀ b, F b → G b) → Rds K cs xs h G
  | [], _, _, _, _, _, _ => trivial
  | _ :: _, _, _, _, _, ⟨F1, F2, hs, h1, h2⟩, hg => ⟨K.mono (K.rdown h1) fun b hb => ⟨hg b (hs.left hb), rfl⟩, Els.rds h2 fun b hb => hg b (hs.right hb)⟩
theorem Rds.get {α : Type} {K : Kd α} : ∀ {xs : List α} {cs : List Value} {h : Heap} {Pr : Fp}, Rds K cs xs h Pr → ∀ i (hi : i < xs.length),
    K.rd ((cs.drop (i * K.sz)).take K.sz) xs[i] h Pr
  | [], _, _, _, _, i, hi => by simp at hi
  | x :: xs, cs, h, Pr, ⟨a, b⟩, 0, _ => by simpa using a
  | x :: xs, cs, h, Pr, ⟨a, b⟩, i + 1, hi => by
    have := Rds.get b i (by simpa using hi)
    rw [List.drop_drop] at this
    have e : K.sz + i * K.sz = (i + 1) * K.sz := by rw [Nat.add_mul]; omega
    rw [e] at this
    simpa using this
theorem Rds.len {α : Type} {K : Kd α} : ∀ {xs : List α} {cs : List Value} {h : Heap} {Pr : Fp}, Rds K cs xs h Pr → xs.length * K.sz ≤ cs.length
  | [], _, _, _, _ => by simp
  | x :: xs, cs, h, Pr, ⟨a, b⟩ => by
    have h1 := K.lenr a
    have h2 := Rds.len b
    simp only [List.length_take, List.length_drop, List.length_cons] at *
    rw [Nat.add_mul]; omega
theorem Rds.cv {α : Type} {K : Kd α} : ∀ {xs : List α} {cs : List Value} {h : Heap} {Pr : Fp}, Rds K cs xs h Pr → (cs.take (xs.length * K.sz)).all cellV = true
  | [], _, _, _, _ => by simp
  | x :: xs, cs, h, Pr, ⟨a, b⟩ => by
    have e : (x :: xs).length * K.sz = K.sz + xs.length * K.sz := by simp [Nat.add_mul]; omega
    rw [e, List.take_add, List.all_append, K.cv a, Rds.cv b]; rfl
def BorS {α : Type} (K : Kd α) (a : Option Addr) (cap : Nat) (xs : List α) (h : Heap) (Pr : Fp) : Prop :=
  xs.length ≤ cap ∧ (xs = [] ∨ ∃ b off cs ty fz, a = some ⟨b, off, none⟩ ∧ Pr b ∧ h[b]? = some (.cells cs ty fz) ∧ Rds K (cs.toList.drop off) xs h Pr)
theorem BorS.mono {α : Type} {K : Kd α} {a : Option Addr} {cap : Nat} {xs : List α} {h h' : Heap} {Pr Pr' : Fp} (hb : BorS K a cap xs h Pr)
    (hk : ∀ b, Pr b → Pr' b ∧ h'[b]? = h[b]?) : BorS K a cap xs h' Pr' := by
  refine ⟨hb.1, hb.2.imp id ?_⟩
  rintro ⟨b, off, cs, ty, fz, ha, hp, hh, hr⟩
  exact ⟨b, off, cs, ty, fz, ha, (hk b hp).1, (hk b hp).2.trans hh, hr.mono hk⟩
def OwnS {α : Type} (K : Kd α) (a : Option Addr) (cap : Nat) (xs : List α) : HP where
  p := fun h F => (a = none ∧ cap = 0 ∧ xs = [] ∧ ∀ b, ¬ F b) ∨
    ∃ b off cs ty F2, a = some ⟨b, off, none⟩ ∧ h[b]? = some (.cells cs ty (0, 0)) ∧ xs.length ≤ cap ∧ off + cap * K.sz ≤ cs.size ∧
      Spl F (fun x => x = b) F2 ∧ (Els K (cs.toList.drop off) xs).p h F2
  loc := by
    rintro h h' F hp hk
    rcases hp with hp | ⟨b, off, cs, ty, F2, ha, hh, hl, hc, hs, he⟩
    · exact .inl hp
    · exact .inr ⟨b, off, cs, ty, F2, ha, (hk b (hs.left rfl)).trans hh, hl, hc, hs, (Els K _ xs).loc he fun x hx => hk x (hs.right hx)⟩
theorem OwnS.len {α : Type} {K : Kd α} {a : Option Addr} {cap : Nat} {xs : List α} {h : Heap} {F : Fp} (ho : (OwnS K a cap xs).p h F) : xs.length ≤ cap := by
  rcases ho with ⟨_, hc, hx, _⟩ | ⟨b, off, cs, ty, F2, ha, hh, hl, _⟩
  · subst hx; simp
  · exact hl
theorem OwnS.bor {α : Type} {K : Kd α} {a : Option Addr} {cap : Nat} {xs : List α} {h : Heap} {F : Fp} (ho : (OwnS K a cap xs).p h F) : BorS K a cap xs h F := by
  rcases ho with ⟨_, hc, hx, _⟩ | ⟨b, off, cs, ty, F2, ha, hh, hl, hc, hs, he⟩
  · subst hx; exact ⟨by simp, .inl rfl⟩
  · exact ⟨hl, .inr ⟨b, off, cs, ty, (0, 0), ha, hs.left rfl, hh, Els.rds he fun x hx => hs.right hx⟩⟩
def Kd.flat {α : Type} (n : Nat) (enc : α → List Value) (hl : ∀ x, (enc x).length = n ∧ (enc x).all cellV = true) : Kd α where
  sz := n
  own := fun cs x => lift (cs = enc x)
  rd := fun cs x _ _ => cs = enc x
  len := fun h => by rw [h.1]; exact (hl _).1
  lenr := fun h => by rw [h]; exact (hl _).1
  cv := fun h => by rw [h]; exact (hl _).2
  mono := fun h _ => h
  rdown := fun h => h.1
def Kd.one {α β : Type} (n : Nat) (enc : α → Value → List Value) (hl : ∀ x v, cellV v = true → (enc x v).length = n ∧ (enc x v).all cellV = true) (K : Kd β) (sub : α → List β) : Kd α where
  sz := n
  own := fun cs x => ex fun a => ex fun cap => star (lift (cs = enc x (.slice a (sub x).length cap))) (OwnS K a cap (sub x))
  rd := fun cs x h Pr => ∃ a cap, cs = enc x (.slice a (sub x).length cap) ∧ BorS K a cap (sub x) h Pr
  len := by rintro cs x h F ⟨a, cap, F1, F2, hs, h1, h2⟩; rw [h1.1]; exact (hl _ _ rfl).1
  lenr := by rintro cs x h Pr ⟨a, cap, h1, h2⟩; rw [h1]; exact (hl _ _ rfl).1
  cv := by rintro cs x h Pr ⟨a, cap, h1, h2⟩; rw [h1]; exact (hl _ _ rfl).2
  mono := by rintro cs x h h' Pr Pr' ⟨a, cap, h1, h2⟩ hk; exact ⟨a, cap, h1, h2.mono hk⟩
  rdown := by
    rintro cs x h F ⟨a, cap, F1, F2, hs, h1, h2⟩
    exact ⟨a, cap, h1.1, (OwnS.bor h2).mono fun b hb => ⟨hs.right hb, rfl⟩⟩
def encI (k : IntKind) (x : Int) : List Value := [.int k x]
def encB (x : Bool) : List Value := [.bool x]
def kI : Kd Int := .flat 1 (encI .i64) fun _ => ⟨rfl, rfl⟩
def kU8 : Kd Int := .flat 1 (encI .u8) fun _ => ⟨rfl, rfl⟩
def kBl : Kd Bool := .flat 1 encB fun _ => ⟨rfl, rfl⟩
def kS {α : Type} (K : Kd α) : Kd (List α) := .one 1 (fun _ v => [v]) (fun _ v hv => ⟨rfl, by simp [hv]⟩) K id
def gt {α : Type} [Inhabited α] (l : List α) (i : Int) : α := l.getD i.toNat default
theorem gt_eq {α : Type} [Inhabited α] {l : List α} {i : Int} (h0 : 0 ≤ i) (h : i < (l.length : Int)) : ∃ hi : i.toNat < l.length, gt l i = l[i.toNat] := by
  have hi : i.toNat < l.length := by omega
  exact ⟨hi, by simp [gt, List.getD_eq_getElem?_getD, hi]⟩
theorem BorS.get {α : Type} [Inhabited α] {K : Kd α} {a : Option Addr} {cap : Nat} {xs : List α} {h : Heap} {Pr : Fp} (hb : BorS K a cap xs h Pr) {i : Int}
    (h0 : 0 ≤ i) (hi : i < (xs.length : Int)) : ∃ b off cs ty fz, a = some ⟨b, off, none⟩ ∧ Pr b ∧ h[b]? = some (.cells cs ty fz) ∧
      K.rd ((cs.toList.drop (off + i.toNat * K.sz)).take K.sz) (gt xs i) h Pr := by
  obtain ⟨hlt, e⟩ := gt_eq h0 hi
  rcases hb.2 with hx | ⟨b, off, cs, ty, fz, ha, hp, hh, hr⟩
  · subst hx; simp at hlt
  · refine ⟨b, off, cs, ty, fz, ha, hp, hh, ?_⟩
    rw [e]
    have := hr.get i.toNat hlt
    rwa [List.drop_drop] at this
def EP (a : Option Addr) (i : Int) (sz j : Nat) : Value := .pointer (some ⟨(a.getD ⟨0, 0, none⟩).block, (a.getD ⟨0, 0, none⟩).off + i.toNat * sz + j, none⟩)
def BP (β k : Nat) : Value := .pointer (some ⟨β, k, none⟩)
end Go.Proofs.Sx

