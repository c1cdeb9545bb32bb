/- Part of a program logic; see the notes. -/
import Derived.Test.YtkhommmhkeohbaaL2
namespace Go.Proofs.Sx
open Go.RowKit
set_option linter.unusedVariables false
set_option linter.unusedSimpArgs false
section
variable {P : Program} {d : Option Tmp} {ty : TypeId} {ps : String} {af : Array Edge}
theorem run_bind_ok {α β : Type} (p : Program) (s : Sem α) (f : α → Sem β) (w w' : World) (a : α) (h : s.run p w = .ok a w') : (s >>= f).run p w = (f a).run p w' := by
  show (s.bind f).run p w = _
  induction s generalizing w with
  | pure x => cases h; rfl
  | load m x k ih =>
    simp only [Sem.run, Sem.bind] at *
    split at h
    · exact ih _ _ h
    · split at h
      · exact ih _ _ h
      · cases h
  | store m x v k ih =>
    cases v <;> simp only [Sem.run, Sem.bind] at * <;> first
      | (cases h; done)
      | (split at h
         · split at h
           · cases h
           · rename_i hf; rw [if_neg hf]; exact ih _ h
         · split at h
           · exact ih _ h
           · cases h)
  | new o k ih => exact ih _ _ h
  | shape r k ih => exact ih _ _ h
  | freeze x n k ih => exact ih _ h
  | frozen x k ih => exact ih _ _ h
  | getObj r k ih =>
    simp only [Sem.run, Sem.bind] at *
    split at h
    · cases h
    · exact ih _ _ h
    · cases h
  | setObj r o k ih =>
    simp only [Sem.run, Sem.bind] at *
    split at h
    · cases h
    · exact ih _ h
    · cases h
  | choose q k ih =>
    simp only [Sem.run, Sem.bind] at *
    split at h
    · rename_i hq; rw [if_pos hq]; exact ih _ _ h
    · rename_i hq; rw [if_neg hq]; exact ih _ _ h
  | sys c k ih => exact ih _ _ h
  | program k ih => exact ih _ _ h
  | mark m k ih => exact ih _ h
  | halt x => cases h
theorem int_beq (m n : Int) : (m == n) = decide (m = n) := by rw [Bool.eq_iff_iff]; simp
theorem i64_w (n : Int) : IntKind.i64.wrap n = wrap64 n := by unfold wrap64; exact IntKind.wrap_i64 n
theorem Pu.move {x : Operand} {v : Value} : Pu P ⟨d, .move x, ty, ps, af, none⟩ [(x, v)] v := fun ρ w h => by
  simp only [execOp, h x v (by simp)]; rfl
theorem Pu.assign {x : Operand} {v : Value} : Pu P ⟨d, .assign x, ty, ps, af, none⟩ [(x, v)] v := fun ρ w h => by
  simp only [execOp, h x v (by simp)]; rfl
theorem Pu.not {x : Operand} {t : TypeId} {b : Bool} : Pu P ⟨d, .unOp .not t x, ty, ps, af, none⟩ [(x, .bool b)] (.bool !b) := fun ρ w h => by
  simp only [execOp, h x _ (List.mem_singleton_self _)]; rfl
theorem Pu.pick {c x y : Operand} {t : Bool} {u v : Value} : Pu P ⟨d, .pick c x y, ty, ps, af, none⟩ [(c, .bool t), (x, u), (y, v)] (if t then u else v) := fun ρ w h => by
  simp only [execOp, h c (.bool t) (by simp), h x u (by simp), h y v (by simp)]
  cases t <;> rfl
theorem eqGuard_int {p : Program} {op : BinOp} {t : TypeId} {x y : Operand} {k : IntKind} {m : Int} {v : Value} {w : World} : (eqGuard op t x y (.int k m) v).run p w = .ok () w := by
  unfold eqGuard; split <;> rfl
theorem eqGuard_bool {p : Program} {op : BinOp} {t : TypeId} {x y : Operand} {m : Bool} {v : Value} {w : World} : (eqGuard op t x y (.bool m) v).run p w = .ok () w := by
  unfold eqGuard; split <;> rfl
theorem eqGuard_slice {p : Program} {op : BinOp} {t : TypeId} {x y : Operand} {a : Option Addr} {n c : Nat} {v : Value} {w : World} : (eqGuard op t x y (.slice a n c) v).run p w = .ok () w := by
  unfold eqGuard; split <;> rfl
theorem Pu.bin {op : BinOp} {t u : TypeId} {x y : Operand} {a b v : Value} (hg : ∀ w, (eqGuard op t x y a b).run P w = .ok () w)
    (h : ∀ w, (binOp op t a b).run P w = .ok v w) : Pu P ⟨d, .binOp op t x y u, ty, ps, af, none⟩ [(x, a), (y, b)] v := fun ρ w hv => by
  simp only [execOp, hv x a (by simp), hv y b (by simp)]
  rw [run_bind_ok P _ _ w w v]
  · rfl
  · rw [run_bind_ok P _ _ w w () (hg w)]; exact h w
section ints
variable {t u : TypeId} {x y : Operand} {m n : Int} {k : IntKind}
theorem Pu.add : Pu P ⟨d, .binOp .add t x y u, ty, ps, af, none⟩ [(x, .int .i64 m), (y, .int .i64 n)] (.int .i64 (wrap64 (m + n))) :=
  Pu.bin (fun _ => eqGuard_int) fun w => by simp only [binOp]; show Result.ok (Value.int .i64 (IntKind.i64.wrap (m + n))) w = _; rw [i64_w]
theorem Pu.sub : Pu P ⟨d, .binOp .sub t x y u, ty, ps, af, none⟩ [(x, .int .i64 m), (y, .int .i64 n)] (.int .i64 (wrap64 (m - n))) :=
  Pu.bin (fun _ => eqGuard_int) fun w => by simp only [binOp]; show Result.ok (Value.int .i64 (IntKind.i64.wrap (m - n))) w = _; rw [i64_w]
theorem Pu.mul : Pu P ⟨d, .binOp .mul t x y u, ty, ps, af, none⟩ [(x, .int .i64 m), (y, .int .i64 n)] (.int .i64 (wrap64 (m * n))) :=
  Pu.bin (fun _ => eqGuard_int) fun w => by simp only [binOp]; show Result.ok (Value.int .i64 (IntKind.i64.wrap (m * n))) w = _; rw [i64_w]
theorem Pu.quo (h : n ≠ 0) : Pu P ⟨d, .binOp .quo t x y u, ty, ps, af, none⟩ [(x, .int .i64 m), (y, .int .i64 n)] (.int .i64 (wrap64 (m.tdiv n))) :=
  Pu.bin (fun _ => eqGuard_int) fun w => by
    simp only [binOp]
    show (Op.intDiv .quo .i64 m n).run P w = _
    simp only [Op.intDiv, if_neg h]
    show Result.ok (Value.int .i64 (IntKind.i64.wrap (m.tdiv n))) w = _; rw [i64_w]
theorem Pu.rem (h : n ≠ 0) : Pu P ⟨d, .binOp .rem t x y u, ty, ps, af, none⟩ [(x, .int .i64 m), (y, .int .i64 n)] (.int .i64 (m.tmod n)) :=
  Pu.bin (fun _ => eqGuard_int) fun w => by
    simp only [binOp]
    show (Op.intDiv .rem .i64 m n).run P w = _
    simp only [Op.intDiv, if_neg h]; rfl
def bits2 (f : BitVec 64 → BitVec 64 → BitVec 64) (m n : Int) : Int := wrap64 ((f (BitVec.ofInt 64 m) (BitVec.ofInt 64 n)).toNat : Int)
theorem Pu.and : Pu P ⟨d, .binOp .and t x y u, ty, ps, af, none⟩ [(x, .int .i64 m), (y, .int .i64 n)] (.int .i64 (bits2 (· &&& ·) m n)) :=
  Pu.bin (fun _ => eqGuard_int) fun w => by
    simp only [binOp]
    show Result.ok (Value.int .i64 (IntKind.i64.wrap _)) w = _; rw [i64_w]; rfl
theorem Pu.or : Pu P ⟨d, .binOp .or t x y u, ty, ps, af, none⟩ [(x, .int .i64 m), (y, .int .i64 n)] (.int .i64 (bits2 (· ||| ·) m n)) :=
  Pu.bin (fun _ => eqGuard_int) fun w => by
    simp only [binOp]
    show Result.ok (Value.int .i64 (IntKind.i64.wrap _)) w = _; rw [i64_w]; rfl
theorem Pu.xor : Pu P ⟨d, .binOp .xor t x y u, ty, ps, af, none⟩ [(x, .int .i64 m), (y, .int .i64 n)] (.int .i64 (bits2 (· ^^^ ·) m n)) :=
  Pu.bin (fun _ => eqGuard_int) fun w => by
    simp only [binOp]
    show Result.ok (Value.int .i64 (IntKind.i64.wrap _)) w = _; rw [i64_w]; rfl
theorem Pu.shl {c : Int} {kc : IntKind} (h : 0 ≤ c) : Pu P ⟨d, .binOp .shl t x y u, ty, ps, af, none⟩ [(x, .int .i64 m), (y, .int kc c)] (.int .i64 (wrap64 (m * 2 ^ (min c.toNat 64)))) :=
  Pu.bin (fun _ => eqGuard_int) fun w => by
    simp only [binOp, Op.shift, if_neg (show ¬ c < 0 by omega)]
    show Result.ok (Value.int .i64 (IntKind.i64.wrap _)) w = _; rw [i64_w]; rfl
theorem Pu.shr {c : Int} {kc : IntKind} (h : 0 ≤ c) : Pu P ⟨d, .binOp .shr t x y u, ty, ps, af, none⟩ [(x, .int .i64 m), (y, .int kc c)] (.int .i64 (m.fdiv (2 ^ (min c.toNat 64)))) :=
  Pu.bin (fun _ => eqGuard_int) fun w => by
    simp only [binOp, Op.shift, if_neg (show ¬ c < 0 by omega)]; rfl
theorem Pu.eql : Pu P ⟨d, .binOp .eql t x y u, ty, ps, af, none⟩ [(x, .int k m), (y, .int k n)] (.bool (decide (m = n))) :=
  Pu.bin (fun _ => eqGuard_int) fun w => by simp [binOp, Op.intCmp, pure, Sem.run]; exact int_beq ..
theorem Pu.neq : Pu P ⟨d, .binOp .neq t x y u, ty, ps, af, none⟩ [(x, .int k m), (y, .int k n)] (.bool (!decide (m = n))) :=
  Pu.bin (fun _ => eqGuard_int) fun w => by simp [binOp, Op.intCmp, pure, Sem.run]; exact congrArg Bool.not (int_beq ..)
theorem Pu.lss : Pu P ⟨d, .binOp .lss t x y u, ty, ps, af, none⟩ [(x, .int k m), (y, .int k n)] (.bool (decide (m < n))) :=
  Pu.bin (fun _ => eqGuard_int) fun w => by simp [binOp, Op.intCmp, pure, Sem.run]
theorem Pu.leq : Pu P ⟨d, .binOp .leq t x y u, ty, ps, af, none⟩ [(x, .int k m), (y, .int k n)] (.bool (decide (m ≤ n))) :=
  Pu.bin (fun _ => eqGuard_int) fun w => by simp [binOp, Op.intCmp, pure, Sem.run]
theorem Pu.gtr : Pu P ⟨d, .binOp .gtr t x y u, ty, ps, af, none⟩ [(x, .int k m), (y, .int k n)] (.bool (decide (m > n))) :=
  Pu.bin (fun _ => eqGuard_int) fun w => by simp [binOp, Op.intCmp, pure, Sem.run]
theorem Pu.geq : Pu P ⟨d, .binOp .geq t x y u, ty, ps, af, none⟩ [(x, .int k m), (y, .int k n)] (.bool (decide (m ≥ n))) :=
  Pu.bin (fun _ => eqGuard_int) fun w => by simp [binOp, Op.intCmp, pure, Sem.run]
end ints
theorem equal_step {t : TypeId} {x y : Value} {w : World} {b : Bool} (h : ∀ d, (Op.equalIn (d + 1) t x y).run P w = .ok b w) : (Op.equal t x y).run P w = .ok b w := h 9999
theorem bin_eql {t : TypeId} {x y : Value} {w : World} {b : Bool} (hb : (binOp .eql t x y) = (do pure (.bool (← Op.equal t x y)))) (h : (Op.equal t x y).run P w = .ok b w) :
    (binOp .eql t x y).run P w = .ok (.bool b) w := by
  rw [hb, run_bind_ok P _ _ w w b h]; rfl
theorem bin_neq {t : TypeId} {x y : Value} {w : World} {b : Bool} (hb : (binOp .neq t x y) = (do pure (.bool (!(← Op.equal t x y))))) (h : (Op.equal t x y).run P w = .ok b w) :
    (binOp .neq t x y).run P w = .ok (.bool !b) w := by
  rw [hb, run_bind_ok P _ _ w w b h]; rfl
theorem equalIn_bool {t : TypeId} {m n : Bool} {w : World} (ht : P.underlying t = some .bool) (d : Nat) : (Op.equalIn (d + 1) t (.bool m) (.bool n)).run P w = .ok (m == n) w := by
  rw [Op.equalIn]
  simp [underlying, bind, Sem.bind, program, Sem.run, ht, pure]
theorem equalIn_int {t : TypeId} {k kt : IntKind} {m n : Int} {w : World} (ht : P.underlying t = some (.int kt)) (d : Nat) : (Op.equalIn (d + 1) t (.int k m) (.int k n)).run P w = .ok (decide (m = n)) w := by
  rw [Op.equalIn]
  simp [underlying, bind, Sem.bind, program, Sem.run, ht, pure]
  exact int_beq ..
theorem equalIn_nil {t e : TypeId} {a : Option Addr} {n c : Nat} {w : World} (ht : P.underlying t = some (.slice e)) (d : Nat) :
    (Op.equalIn (d + 1) t (.slice a n c) (.slice none 0 0)).run P w = .ok a.isNone w := by
  rw [Op.equalIn]
  cases a <;> simp [underlying, bind, Sem.bind, program, Sem.run, ht, pure]
theorem Pu.eqlB {t u : TypeId} {x y : Operand} {m n : Bool} (ht : P.underlying t = some .bool) : Pu P ⟨d, .binOp .eql t x y u, ty, ps, af, none⟩ [(x, .bool m), (y, .bool n)] (.bool (m == n)) :=
  Pu.bin (fun _ => eqGuard_bool) fun w => bin_eql rfl (equal_step fun d => equalIn_bool ht d)
theorem Pu.neqB {t u : TypeId} {x y : Operand} {m n : Bool} (ht : P.underlying t = some .bool) : Pu P ⟨d, .binOp .neq t x y u, ty, ps, af, none⟩ [(x, .bool m), (y, .bool n)] (.bool (!(m == n))) :=
  Pu.bin (fun _ => eqGuard_bool) fun w => bin_neq rfl (equal_step fun d => equalIn_bool ht d)
theorem Pu.eqlNil {t u e : TypeId} {x y : Operand} {a : Option Addr} {n c : Nat} (ht : P.underlying t = some (.slice e)) :
    Pu P ⟨d, .binOp .eql t x y u, ty, ps, af, none⟩ [(x, .slice a n c), (y, .slice none 0 0)] (.bool a.isNone) :=
  Pu.bin (fun _ => eqGuard_slice) fun w => bin_eql rfl (equal_step fun d => equalIn_nil ht d)
theorem Pu.conv {s t : TypeId} {x : Operand} {k k' : IntKind} {n : Int} {ds : TypeDesc} (hs : P.underlying s = some ds) (ht : P.underlying t = some (.int k')) :
    Pu P ⟨d, .convert s t x, ty, ps, af, none⟩ [(x, .int k n)] (.int k' (k'.wrap n)) := fun ρ w h => by
  simp only [execOp, h x _ (List.mem_singleton_self _)]
  simp only [convert, underlying]
  simp [bind, Sem.bind, program, Sem.run, hs, ht, pure, Conv.intToInt]
theorem Pu.extract {x : Operand} {vs : Array Value} {i : Nat} {v : Value} (h : vs[i]? = some v) : Pu P ⟨d, .extract x i, ty, ps, af, none⟩ [(x, .tuple vs)] v := fun ρ w hv => by
  simp only [execOp, hv x _ (List.mem_singleton_self _)]
  simp [Instr.extract, h, bind, Sem.bind, Sem.run, pure]
theorem Pu.nilCheck {x : Operand} {a : Addr} : Pu P ⟨d, .nilCheck x, ty, ps, af, none⟩ [(x, .pointer (some a))] (.pointer (some a)) := fun ρ w hv => by
  simp only [execOp, hv x _ (List.mem_singleton_self _)]; rfl
theorem Pu.len {x : Operand} {t e : TypeId} {a : Option Addr} {n c : Nat} (ht : P.underlying t = some (.slice e)) :
    Pu P ⟨d, .call ⟨.builtin .len, #[x], #[t]⟩, ty, ps, af, none⟩ [(x, .slice a n c)] (.int .i64 n) := fun ρ w hv => by
  simp [execOp, resolve, invoke, builtin, Builtin.len_, hv x _ (List.mem_singleton_self _), underlying, bind, Sem.bind, program, Sem.run, pure, ht, goInt]
theorem Pu.cap {x : Operand} {t e : TypeId} {a : Option Addr} {n c : Nat} (ht : P.underlying t = some (.slice e)) :
    Pu P ⟨d, .call ⟨.builtin .cap, #[x], #[t]⟩, ty, ps, af, none⟩ [(x, .slice a n c)] (.int .i64 c) := fun ρ w hv => by
  simp [execOp, resolve, invoke, builtin, Builtin.cap_, hv x _ (List.mem_singleton_self _), underlying, bind, Sem.bind, program, Sem.run, pure, ht, goInt]
theorem Pu.min {x y : Operand} {ts : Array TypeId} {m n : Int} :
    Pu P ⟨d, .call ⟨.builtin .min, #[x, y], ts⟩, ty, ps, af, none⟩ [(x, .int .i64 m), (y, .int .i64 n)] (.int .i64 (if n < m then n else m)) := fun ρ w hv => by
  simp [execOp, resolve, invoke, builtin, Builtin.min_, Builtin.min2, hv x (.int .i64 m) (by simp), hv y (.int .i64 n) (by simp), bind, Sem.bind, program, Sem.run, pure]
theorem Pu.max {x y : Operand} {ts : Array TypeId} {m n : Int} :
    Pu P ⟨d, .call ⟨.builtin .max, #[x, y], ts⟩, ty, ps, af, none⟩ [(x, .int .i64 m), (y, .int .i64 n)] (.int .i64 (if n > m then n else m)) := fun ρ w hv => by
  simp [execOp, resolve, invoke, builtin, Builtin.max_, Builtin.max2, hv x (.int .i64 m) (by simp), hv y (.int .i64 n) (by simp), bind, Sem.bind, program, Sem.run, pure]
end
end Go.Proofs.Sx

