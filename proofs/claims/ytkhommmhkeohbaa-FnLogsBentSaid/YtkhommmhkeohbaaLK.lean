/- Part of a program logic; see the notes. -/
import Derived.Test.YtkhommmhkeohbaaLJ
import Derived.Test.YtkhommmhkeohbaaLH
import Derived.Laws.BytesArg
import Derived.Laws.Strings
import Derived.Laws.StructEq
import Derived.MapKept
namespace Go.Proofs.Sx
open Go.RowKit
set_option linter.unusedVariables false
set_option linter.unusedSimpArgs false
set_option linter.unusedSectionVars false
section
variable {P : Program} {w0 : World} {Pr : Fp} {d : Option Tmp} {ty : TypeId} {ps : String} {af : Array Edge}
theorem Rds_u8 {h : Heap} {F : Fp} : ∀ {xs : List Int} {cs : List Value}, Rds kU8 cs xs h F → cs.take xs.length = xs.map (Value.int .u8)
  | [], _, _ => by simp
  | x :: xs, cs, ⟨a, b⟩ => by
    have ha : cs.take 1 = [.int .u8 x] := a
    have hb := Rds_u8 b
    have hb' : (cs.drop 1).take xs.length = xs.map (Value.int .u8) := hb
    have e : (x :: xs).length = 1 + xs.length := by simp; omega
    rw [e, List.take_add, ha, hb']; rfl
theorem run_convS {src dst e : TypeId} {a : Option Addr} {cap : Nat} {xs : List Int} {w : World} {F : Fp} (hs : P.underlying src = some (.slice e)) (he : P.underlying e = some (.int .u8)) (hd : P.underlying dst = some .string)
    (hb : BorS kU8 a cap xs w.heap F) : (convert src dst (.slice a xs.length cap)).run P w = .ok (.string (strOfNums xs)) w := by
  rcases hb.2 with rfl | ⟨b, off, c, t, fz, rfl, hF, hh, hr⟩
  · rw [run_convert_bytes_string w src dst e _ _ cap hs he hd]
    cases a <;> simp [Conv.bytesToString, loadCells]
    all_goals rfl
  · have hk := Rds_u8 hr
    have hlen : xs.length ≤ (c.toList.drop off).length := by have := congrArg List.length hk; simp at this; simp; omega
    have hl : (loadCells ⟨b, off, none⟩ xs.length).run P w = .ok (xs.map (Value.int .u8)).toArray w := by
      rcases Nat.eq_zero_or_pos xs.length with h0 | h0
      · have : xs = [] := List.eq_nil_of_length_eq_zero h0
        subst this; rfl
      · rw [run_loadCells hh (by simp at hlen; omega), hk]
    rw [run_convert_bytes_string w src dst e _ _ cap hs he hd, run_bytesToString w _ xs.length cap xs hl, foldl_push_bytes]
    simp [strOfNums, ByteArray.empty, ByteArray.emptyWithCapacity]
    rfl
theorem OT.convS {src dst e : TypeId} {x : Operand} {a : Option Addr} {cap : Nat} {xs : List Int} (hs : P.underlying src = some (.slice e)) (he : P.underlying e = some (.int .u8)) (hd : P.underlying dst = some .string) (hb : BorS kU8 a cap xs w0.heap Pr) :
    OT P w0 Pr ⟨d, .convert src dst x, ty, ps, af, none⟩ [(x, .slice a xs.length cap)] [] (ι := Unit) (fun _ => .string (strOfNums xs)) (fun _ => []) := by
  intro ρ w F hv hs' hF hp
  refine runs_value (w' := w) (v := .string (strOfNums xs)) ?_ ⟨(), rfl, Step.refl hs' fun b hb => (hF b hb).2⟩
  simp only [execOp, hv x _ (List.mem_singleton_self _)]
  exact (run_bind_ok P (convert src dst (.slice a xs.length cap)) _ w w _ (run_convS hs he hd (bor_now hb hp))).trans rfl
theorem OT.buildE {α : Type} [Inhabited α] {K : Kd α} {t e : TypeId} {zs : List Value} {parts : Array (Nat × Operand)} (ht : P.underlying t = some (.slice e)) (hsz : Tsz P e = some K.sz) (hz : Tzc P e = some zs) (hp : parts = #[]) (hn : 0 = 0) :
    OT P w0 Pr ⟨d, .buildSlice t 0 parts, ty, ps, af, none⟩ [] [] (ι := Option Addr × Nat) (fun p => .slice p.1 ([] : List α).length p.2) (fun p => [OwnS K p.1 p.2 []]) :=
  OT.build0 (xs := []) (us := []) ht hsz hz hp rfl rfl rfl (by simp [Nat.ble_eq]) (by simp) (fun h F hs => ⟨fun _ => False, fun b hb => hb, fun _ h => h.elim⟩)
theorem eqGuard_str {p : Program} {op : BinOp} {t : TypeId} {x y : Operand} {s : ByteArray} {v : Value} {w : World} : (eqGuard op t x y (.string s) v).run p w = .ok () w := by
  unfold eqGuard; split <;> rfl
theorem Pu.eqlS {t u : TypeId} {x y : Operand} {m n : ByteArray} (ht : P.underlying t = some .string) : Pu P ⟨d, .binOp .eql t x y u, ty, ps, af, none⟩ [(x, .string m), (y, .string n)] (.bool (m == n)) :=
  Pu.bin (fun _ => eqGuard_str) fun w => by rw [binOp_string_eql, ← beq_toListBytes]; rfl
end
theorem str_eq {l m : List Int} (hl : ∀ x ∈ l, wfU8 x) (hm : ∀ x ∈ m, wfU8 x) : (strOfNums l == strOfNums m) = decide (l = m) := by
  have key : ∀ {l m : List Int}, (∀ x ∈ l, wfU8 x) → (∀ x ∈ m, wfU8 x) → l.map (fun n => UInt8.ofNat n.toNat) = m.map (fun n => UInt8.ofNat n.toNat) → l = m := by
    intro l
    induction l with
    | nil => intro m _ _ h; cases m with
      | nil => rfl
      | cons y ys => simp at h
    | cons x xs ih =>
      intro m hl hm h
      cases m with
      | nil => simp at h
      | cons y ys =>
        simp only [List.map_cons, List.cons.injEq] at h
        have h1 := hl x (List.mem_cons_self ..)
        have h2 := hm y (List.mem_cons_self ..)
        have e := congrArg UInt8.toNat h.1
        simp only [UInt8.toNat_ofNat'] at e
        obtain ⟨a1, a2⟩ := h1
        obtain ⟨b1, b2⟩ := h2
        have : x = y := by omega
        rw [this, ih (fun z hz => hl z (List.mem_cons_of_mem _ hz)) (fun z hz => hm z (List.mem_cons_of_mem _ hz)) h.2]
  rw [Bool.eq_iff_iff, MapKept.bytes_beq, decide_eq_true_iff]
  constructor
  · intro hh
    apply key hl hm
    have := congrArg (fun b : ByteArray => b.data.toList) hh
    simpa [strOfNums] using this
  · rintro rfl; rfl
end Go.Proofs.Sx

