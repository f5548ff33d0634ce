import Derived.Test.YtlplogplicgfiaaZ4Mem
import Derived.Deep.Slices
import Derived.Deep.AppendSrc
namespace Go.Proofs.Ytlplogplicgfiaa
open Go Go.RowKit
def kind (B : List Nat) (o : Oper) : Nat :=
  match o.op with
  | .load .. => (match o.dst with | some d => (if B.contains d then 1 else 0) | none => 0)
  | .move _ | .assign _ | .pick .. | .nilCheck _ | .binOp .. | .unOp .. | .field .. | .fieldAddr .. | .indexAddr .. | .index .. | .extract ..
  | .slice .. | .build .. | .makeFunc .. | .lookup .. => 0
  | .convert src dst _ => if src == dst then 3 else 0
  | .call { callee := .builtin b, .. } => (match b with | .len | .cap | .min | .max => 0 | _ => 3)
  | .alloc _ | .box .. | .buildSlice .. | .makeSlice .. | .makeMap .. => 2
  | _ => 3
namespace R
variable {P : Program} {ops : Array Oper} {S : Bool → Nat → Prop} {dr : Bool} {B : List Nat} {F : Env → World → Prop} {rest : List Oper} {e : Env} {w : World}
variable {d : Tmp} {od : Option Tmp} {ty : TypeId} {pos : String} {aft : Array Edge}
theorem nil (h : F e w) : wpR P ops S dr (kind B) F [] e w := h
theorem quiet {op : Op} (v : Value) (hl : kind B ⟨od, op, ty, pos, aft, none⟩ = 0) (hv : ∀ w', AgreeOn (S false) w w' → (execOp (ev e) ⟨od, op, ty, pos, aft, none⟩).run P w' = .ok (.value v) w')
    (h : wpR P ops S dr (kind B) F rest (updo e od v) w) : wpR P ops S dr (kind B) F (⟨od, op, ty, pos, aft, none⟩ :: rest) e w := by
  simp only [wpR, wantedE, if_true, hl]; exact .inl ⟨fun _ => by omega, v, hv, h⟩
theorem quietL {t : TypeId} {x : Operand} {c : Bool} (v : Value) (hc : B.contains d = c) (hv : ∀ w', AgreeOn (S c) w w' → (execOp (ev e) ⟨some d, .load t x, ty, pos, aft, none⟩).run P w' = .ok (.value v) w')
    (h : wpR P ops S dr (kind B) F rest (upd e d v) w) : wpR P ops S dr (kind B) F (⟨some d, .load t x, ty, pos, aft, none⟩ :: rest) e w := by
  have hk : kind B ⟨some d, .load t x, ty, pos, aft, none⟩ = if c then 1 else 0 := by simp only [kind, hc]
  simp only [wpR, wantedE, if_true, hk]; cases c
  · exact .inl ⟨fun _ => by simp, v, hv, h⟩
  · exact .inl ⟨fun _ => by simp, v, hv, h⟩
theorem loud {op : Op} (R : Value → World → Prop) (hl : 2 ≤ kind B ⟨od, op, ty, pos, aft, none⟩) (hR : Loud P R ((execOp (ev e) ⟨od, op, ty, pos, aft, none⟩).run P w))
    (h : ∀ v w', R v w' → (dr = true → AgreeOn (S false) w w' ∧ (kind B ⟨od, op, ty, pos, aft, none⟩ = 2 → AgreeOn (S true) w w')) ∧ wpR P ops S dr (kind B) F rest (updo e od v) w') : wpR P ops S dr (kind B) F (⟨od, op, ty, pos, aft, none⟩ :: rest) e w := by
  simp only [wpR, wantedE, if_true]; exact .inr ⟨fun _ => hl, R, hR, h⟩
theorem run2 {op : Op} {v : Value} {w' : World} (hl : kind B ⟨od, op, ty, pos, aft, none⟩ = 2) (hr : (execOp (ev e) ⟨od, op, ty, pos, aft, none⟩).run P w = .ok (.value v) w') (ha : dr = true → ∀ c, AgreeOn (S c) w w')
    (h : wpR P ops S dr (kind B) F rest (updo e od v) w') : wpR P ops S dr (kind B) F (⟨od, op, ty, pos, aft, none⟩ :: rest) e w :=
  loud (fun u x => u = v ∧ x = w') (by omega) (by rw [hr]; exact ⟨rfl, rfl⟩) fun u x ⟨hu, hx⟩ => by subst hu; subst hx; exact ⟨fun hd => ⟨ha hd _, fun _ => ha hd _⟩, h⟩
theorem run3 {op : Op} {v : Value} {w' : World} (hl : kind B ⟨od, op, ty, pos, aft, none⟩ = 3) (hr : (execOp (ev e) ⟨od, op, ty, pos, aft, none⟩).run P w = .ok (.value v) w') (ha : dr = true → AgreeOn (S false) w w')
    (h : wpR P ops S dr (kind B) F rest (updo e od v) w') : wpR P ops S dr (kind B) F (⟨od, op, ty, pos, aft, none⟩ :: rest) e w :=
  loud (fun u x => u = v ∧ x = w') (by omega) (by rw [hr]; exact ⟨rfl, rfl⟩) fun u x ⟨hu, hx⟩ => by subst hu; subst hx; exact ⟨fun hd => ⟨ha hd, fun h2 => by omega⟩, h⟩
theorem runs {op : Op} {w' : World} (hl : kind B ⟨od, op, ty, pos, aft, none⟩ = 3) (hr : (execOp (ev e) ⟨od, op, ty, pos, aft, none⟩).run P w = .ok .skip w') (ha : dr = true → AgreeOn (S false) w w')
    (h : wpR P ops S dr (kind B) F rest (updo e od undef) w') : wpR P ops S dr (kind B) F (⟨od, op, ty, pos, aft, none⟩ :: rest) e w :=
  loud (fun u x => u = undef ∧ x = w') (by omega) (by rw [hr]; exact ⟨rfl, rfl⟩) fun u x ⟨hu, hx⟩ => by subst hu; subst hx; exact ⟨fun hd => ⟨ha hd, fun h2 => by omega⟩, h⟩
theorem gT {op : Op} {j t : Nat} {want : Bool} (ht : (ops[j]?).bind (·.dst) = some t) (hv : e t = .bool want)
    (h : wpR P ops S dr (kind B) F (⟨od, op, ty, pos, aft, none⟩ :: rest) e w) : wpR P ops S dr (kind B) F (⟨od, op, ty, pos, aft, some (j, want)⟩ :: rest) e w := by
  have e1 : wantedE ops ⟨od, op, ty, pos, aft, some (j, want)⟩ e = true := by simp [wantedE, ht, hv]
  have e2 : kind B ⟨od, op, ty, pos, aft, some (j, want)⟩ = kind B ⟨od, op, ty, pos, aft, none⟩ := rfl; have e3 : execOp (ev e) ⟨od, op, ty, pos, aft, some (j, want)⟩ = execOp (ev e) ⟨od, op, ty, pos, aft, none⟩ := rfl; simp only [wpR, e1, if_true, e2, e3]; simp only [wpR, wantedE, if_true] at h; exact h
theorem gF {op : Op} {j t : Nat} {want b : Bool} (ht : (ops[j]?).bind (·.dst) = some t) (hv : e t = .bool b) (hb : (b == want) = false)
    (h : wpR P ops S dr (kind B) F rest (updo e od undef) w) : wpR P ops S dr (kind B) F (⟨od, op, ty, pos, aft, some (j, want)⟩ :: rest) e w := by
  have e1 : wantedE ops ⟨od, op, ty, pos, aft, some (j, want)⟩ e = false := by simp [wantedE, ht, hv, hb]
  simp only [wpR, e1, Bool.false_eq_true, if_false]; exact h
theorem gU {op : Op} {j t : Nat} {want : Bool} (ht : (ops[j]?).bind (·.dst) = some t) (hv : e t = undef)
    (h : wpR P ops S dr (kind B) F rest (updo e od undef) w) : wpR P ops S dr (kind B) F (⟨od, op, ty, pos, aft, some (j, want)⟩ :: rest) e w := by
  have e1 : wantedE ops ⟨od, op, ty, pos, aft, some (j, want)⟩ e = false := by simp [wantedE, ht, hv, undef]
  simp only [wpR, e1, Bool.false_eq_true, if_false]; exact h
theorem move {x : Operand} (h : wpR P ops S dr (kind B) F rest (upd e d (ev e x)) w) : wpR P ops S dr (kind B) F (⟨some d, .move x, ty, pos, aft, none⟩ :: rest) e w :=
  quiet (ev e x) rfl (fun _ _ => rfl) h
theorem assign {x : Operand} (h : wpR P ops S dr (kind B) F rest (upd e d (ev e x)) w) : wpR P ops S dr (kind B) F (⟨some d, .assign x, ty, pos, aft, none⟩ :: rest) e w :=
  quiet (ev e x) rfl (fun _ _ => rfl) h
theorem pickT {c x y : Operand} (hc : ev e c = .bool true) (h : wpR P ops S dr (kind B) F rest (upd e d (ev e x)) w) : wpR P ops S dr (kind B) F (⟨some d, .pick c x y, ty, pos, aft, none⟩ :: rest) e w :=
  quiet (ev e x) rfl (fun _ _ => by simp [execOp, hc, asBool]) h
theorem pickF {c x y : Operand} (hc : ev e c = .bool false) (h : wpR P ops S dr (kind B) F rest (upd e d (ev e y)) w) : wpR P ops S dr (kind B) F (⟨some d, .pick c x y, ty, pos, aft, none⟩ :: rest) e w :=
  quiet (ev e y) rfl (fun _ _ => by simp [execOp, hc, asBool]) h
theorem guard_int {op : BinOp} {t : TypeId} {x y : Operand} {k k' : IntKind} {m n : Int} (w : World) : (eqGuard op t x y (.int k m) (.int k' n)).run P w = .ok () w := by
  unfold eqGuard; split <;> simp [pure]
theorem guard_bool {op : BinOp} {t : TypeId} {x y : Operand} {m n : Bool} (w : World) : (eqGuard op t x y (.bool m) (.bool n)).run P w = .ok () w := by
  unfold eqGuard; split <;> simp [pure]
theorem bin {op : BinOp} {t t' : TypeId} {x y : Operand} {k : IntKind} {m n : Int} (hx : ev e x = .int k m) (hy : ev e y = .int k n) (v : Value)
    (hb : ∀ w, (binOp op t (.int k m) (.int k n)).run P w = .ok v w) (h : wpR P ops S dr (kind B) F rest (upd e d v) w) : wpR P ops S dr (kind B) F (⟨some d, .binOp op t x y t', ty, pos, aft, none⟩ :: rest) e w :=
  quiet v rfl (fun w' _ => by simp [execOp, hx, hy, guard_int, hb]) h
theorem wrap64 {n : Int} (h1 : -9223372036854775808 ≤ n) (h2 : n ≤ 9223372036854775807) : IntKind.i64.wrap n = n := IntWalk.i64_in _ ⟨h1, h2⟩
theorem add {t t' : TypeId} {x y : Operand} {m n : Int} (hx : ev e x = .int .i64 m) (hy : ev e y = .int .i64 n) (h1 : -9223372036854775808 ≤ m + n) (h2 : m + n ≤ 9223372036854775807)
    (h : wpR P ops S dr (kind B) F rest (upd e d (.int .i64 (m + n))) w) : wpR P ops S dr (kind B) F (⟨some d, .binOp .add t x y t', ty, pos, aft, none⟩ :: rest) e w :=
  bin hx hy _ (fun w => by simp [binOp, Op.intArith, wrap64 h1 h2]) h
theorem sub {t t' : TypeId} {x y : Operand} {m n : Int} (hx : ev e x = .int .i64 m) (hy : ev e y = .int .i64 n) (h1 : -9223372036854775808 ≤ m - n) (h2 : m - n ≤ 9223372036854775807)
    (h : wpR P ops S dr (kind B) F rest (upd e d (.int .i64 (m - n))) w) : wpR P ops S dr (kind B) F (⟨some d, .binOp .sub t x y t', ty, pos, aft, none⟩ :: rest) e w :=
  bin hx hy _ (fun w => by simp [binOp, Op.intArith, wrap64 h1 h2]) h
theorem mul {t t' : TypeId} {x y : Operand} {m n : Int} (hx : ev e x = .int .i64 m) (hy : ev e y = .int .i64 n) (h1 : -9223372036854775808 ≤ m * n) (h2 : m * n ≤ 9223372036854775807)
    (h : wpR P ops S dr (kind B) F rest (upd e d (.int .i64 (m * n))) w) : wpR P ops S dr (kind B) F (⟨some d, .binOp .mul t x y t', ty, pos, aft, none⟩ :: rest) e w :=
  bin hx hy _ (fun w => by simp [binOp, Op.intArith, wrap64 h1 h2]) h
theorem remT {t t' : TypeId} {x y : Operand} {k : IntKind} {m n : Int} (hx : ev e x = .int k m) (hy : ev e y = .int k n) (h0 : n ≠ 0)
    (h : wpR P ops S dr (kind B) F rest (upd e d (.int k (m.tmod n))) w) : wpR P ops S dr (kind B) F (⟨some d, .binOp .rem t x y t', ty, pos, aft, none⟩ :: rest) e w :=
  bin hx hy _ (fun w => by simp [binOp, Op.intDiv, h0]) h
theorem rem {t t' : TypeId} {x y : Operand} {k : IntKind} {m n : Int} (hx : ev e x = .int k m) (hy : ev e y = .int k n) (hm : 0 ≤ m) (h0 : 0 < n)
    (h : wpR P ops S dr (kind B) F rest (upd e d (.int k (m % n))) w) : wpR P ops S dr (kind B) F (⟨some d, .binOp .rem t x y t', ty, pos, aft, none⟩ :: rest) e w :=
  remT hx hy (by omega) (by rw [Int.tmod_eq_emod_of_nonneg hm]; exact h)
theorem quo {t t' : TypeId} {x y : Operand} {m n : Int} (hx : ev e x = .int .i64 m) (hy : ev e y = .int .i64 n) (hm : 0 ≤ m) (hM : m ≤ 9223372036854775807) (h0 : 0 < n)
    (h : wpR P ops S dr (kind B) F rest (upd e d (.int .i64 (m / n))) w) : wpR P ops S dr (kind B) F (⟨some d, .binOp .quo t x y t', ty, pos, aft, none⟩ :: rest) e w := by
  refine bin hx hy _ (fun w => ?_) h; have h1 : 0 ≤ m / n := Int.ediv_nonneg hm (by omega); have h2 : m / n ≤ m := Int.ediv_le_self _ hm; have h3 : n ≠ 0 := by omega
  simp [binOp, Op.intDiv, h3, Int.tdiv_eq_ediv_of_nonneg hm, wrap64 (n := m / n) (by omega) (by omega)]
theorem lss {t t' : TypeId} {x y : Operand} {k : IntKind} {m n : Int} {b : Bool} (hx : ev e x = .int k m) (hy : ev e y = .int k n) (hb : decide (m < n) = b)
    (h : wpR P ops S dr (kind B) F rest (upd e d (.bool b)) w) : wpR P ops S dr (kind B) F (⟨some d, .binOp .lss t x y t', ty, pos, aft, none⟩ :: rest) e w :=
  bin hx hy _ (fun w => by simp [binOp, Op.intCmp, ← hb]) h
theorem leq {t t' : TypeId} {x y : Operand} {k : IntKind} {m n : Int} {b : Bool} (hx : ev e x = .int k m) (hy : ev e y = .int k n) (hb : decide (m ≤ n) = b)
    (h : wpR P ops S dr (kind B) F rest (upd e d (.bool b)) w) : wpR P ops S dr (kind B) F (⟨some d, .binOp .leq t x y t', ty, pos, aft, none⟩ :: rest) e w :=
  bin hx hy _ (fun w => by simp [binOp, Op.intCmp, ← hb]) h
theorem gtr {t t' : TypeId} {x y : Operand} {k : IntKind} {m n : Int} {b : Bool} (hx : ev e x = .int k m) (hy : ev e y = .int k n) (hb : decide (n < m) = b)
    (h : wpR P ops S dr (kind B) F rest (upd e d (.bool b)) w) : wpR P ops S dr (kind B) F (⟨some d, .binOp .gtr t x y t', ty, pos, aft, none⟩ :: rest) e w :=
  bin hx hy _ (fun w => by simp [binOp, Op.intCmp, ← hb]) h
theorem geq {t t' : TypeId} {x y : Operand} {k : IntKind} {m n : Int} {b : Bool} (hx : ev e x = .int k m) (hy : ev e y = .int k n) (hb : decide (n ≤ m) = b)
    (h : wpR P ops S dr (kind B) F rest (upd e d (.bool b)) w) : wpR P ops S dr (kind B) F (⟨some d, .binOp .geq t x y t', ty, pos, aft, none⟩ :: rest) e w :=
  bin hx hy _ (fun w => by simp [binOp, Op.intCmp, ← hb]) h
theorem eql {t t' : TypeId} {x y : Operand} {k : IntKind} {m n : Int} {b : Bool} (hx : ev e x = .int k m) (hy : ev e y = .int k n) (hb : decide (m = n) = b)
    (h : wpR P ops S dr (kind B) F rest (upd e d (.bool b)) w) : wpR P ops S dr (kind B) F (⟨some d, .binOp .eql t x y t', ty, pos, aft, none⟩ :: rest) e w :=
  bin hx hy _ (fun w => by subst hb; simp [binOp, Op.intCmp]; rfl) h
theorem neq {t t' : TypeId} {x y : Operand} {k : IntKind} {m n : Int} {b : Bool} (hx : ev e x = .int k m) (hy : ev e y = .int k n) (hb : (!decide (m = n)) = b)
    (h : wpR P ops S dr (kind B) F rest (upd e d (.bool b)) w) : wpR P ops S dr (kind B) F (⟨some d, .binOp .neq t x y t', ty, pos, aft, none⟩ :: rest) e w :=
  bin hx hy _ (fun w => by subst hb; simp [binOp, Op.intCmp, bne]; rfl) h
theorem neqB {t t' : TypeId} {x y : Operand} {m n b : Bool} (hu : P.underlying t = some .bool) (hx : ev e x = .bool m) (hy : ev e y = .bool n) (hb : (m != n) = b)
    (h : wpR P ops S dr (kind B) F rest (upd e d (.bool b)) w) : wpR P ops S dr (kind B) F (⟨some d, .binOp .neq t x y t', ty, pos, aft, none⟩ :: rest) e w :=
  quiet (.bool b) rfl (fun w' _ => by simp [execOp, hx, hy, guard_bool, binOp, run_equal_bool w' t m n hu, ← hb, bne]) h
theorem not {t : TypeId} {x : Operand} {b : Bool} (hx : ev e x = .bool b)
    (h : wpR P ops S dr (kind B) F rest (upd e d (.bool !b)) w) : wpR P ops S dr (kind B) F (⟨some d, .unOp .not t x, ty, pos, aft, none⟩ :: rest) e w :=
  quiet _ rfl (fun w' _ => by simp [execOp, hx, Op.unary]) h
theorem extract {x : Operand} {i : Nat} {vs : Array Value} {v : Value} (hx : ev e x = .tuple vs) (hv : vs[i]? = some v)
    (h : wpR P ops S dr (kind B) F rest (upd e d v) w) : wpR P ops S dr (kind B) F (⟨some d, .extract x i, ty, pos, aft, none⟩ :: rest) e w :=
  quiet v rfl (fun w' _ => by simp [execOp, hx, Instr.extract, hv]) h
theorem lenV {x : Operand} {t el : TypeId} {a : Option Addr} {n c : Nat} (hu : P.underlying t = some (.slice el)) (hx : ev e x = .slice a n c)
    (h : wpR P ops S dr (kind B) F rest (upd e d (.int .i64 n)) w) : wpR P ops S dr (kind B) F (⟨some d, .call { callee := .builtin .len, args := #[x], argTypes := #[t] }, ty, pos, aft, none⟩ :: rest) e w :=
  quiet (.int .i64 n) rfl (fun w' _ => by simp [execOp, resolve, invoke, builtin, Builtin.len_, underlying, hu, hx, goInt]) h
theorem len {x : Operand} {t el : TypeId} {v : Value} {k n : Nat} {cs : List Value} {w0 : World} (hu : P.underlying t = some (.slice el)) (hr : Row w0 k v n cs) (hx : ev e x = v)
    (h : wpR P ops S dr (kind B) F rest (upd e d (.int .i64 n)) w) : wpR P ops S dr (kind B) F (⟨some d, .call { callee := .builtin .len, args := #[x], argTypes := #[t] }, ty, pos, aft, none⟩ :: rest) e w := by
  obtain ⟨a, cap, rfl, _⟩ := hr; exact lenV hu hx h
theorem nilCheck {x : Operand} {p : Addr} (hx : ev e x = .pointer (some p))
    (h : wpR P ops S dr (kind B) F rest (upd e d (.pointer (some p))) w) : wpR P ops S dr (kind B) F (⟨some d, .nilCheck x, ty, pos, aft, none⟩ :: rest) e w :=
  quiet _ rfl (fun w' _ => by simp [execOp, hx]) h
theorem idxV {x i : Operand} {t el : TypeId} {k c n by_ : Nat} {g : Bool} {z : Value} {p : Addr} {m : Int} {ik : IntKind} (hu : P.underlying t = some (.slice el)) (hk : Ty P el k by_ g z)
    (hx : ev e x = .slice (some p) n c) (hi : ev e i = .int ik m) (h0 : 0 ≤ m) (h1 : m < n)
    (h : wpR P ops S dr (kind B) F rest (upd e d (.pointer (some (p.add (m.toNat * k))))) w) : wpR P ops S dr (kind B) F (⟨some d, .indexAddr t x i, ty, pos, aft, none⟩ :: rest) e w :=
  quiet _ rfl (fun w' _ => by simp [execOp, hx, hi, Instr.indexAt, asIntOf, underlying, hu, h0, h1, hk.sizeOf]) h
theorem idx {x i : Operand} {t el : TypeId} {k n by_ : Nat} {g : Bool} {z : Value} {v : Value} {m : Int} {ik : IntKind} {cs : List Value} {w0 : World} (hu : P.underlying t = some (.slice el)) (hk : Ty P el k by_ g z) (hk0 : 0 < k)
    (hr : Row w0 k v n cs) (hx : ev e x = v) (hi : ev e i = .int ik m) (h0 : 0 ≤ m) (h1 : m < n)
    (h : wpR P ops S dr (kind B) F rest (upd e d (elemPtr v (m.toNat * k))) w) : wpR P ops S dr (kind B) F (⟨some d, .indexAddr t x i, ty, pos, aft, none⟩ :: rest) e w := by
  obtain ⟨a, cap, rfl, hc, hl, hj⟩ := hr; have hlt : m.toNat * k < cs.length := by rw [hl]; exact Nat.mul_lt_mul_of_pos_right (by omega) hk0
  obtain ⟨p, rfl, _⟩ := hj _ hlt; exact idxV hu hk hx hi h0 h1 h
theorem run_loadVar1 {t : TypeId} {k by_ : Nat} {z : Value} (hk : Ty P t k by_ false z) {p : Addr} {v : Value} {w : World} (hc : w.cell? p = some v) : (loadVar t p).run P w = .ok v w := by
  simp [loadVar, hk.isAgg, hc]
theorem load {x : Operand} {t : TypeId} {c : Bool} {k by_ k' n j : Nat} {z : Value} {v u : Value} {cs : List Value} (hk : Ty P t k by_ false z) (hr : Row w k' v n cs) (hx : ev e x = elemPtr v j) (hj : cs[j]? = some u) (hc : B.contains d = c) (hS : ∀ b, vblk v = some b → S c b)
    (h : wpR P ops S dr (kind B) F rest (upd e d u) w) : wpR P ops S dr (kind B) F (⟨some d, .load t x, ty, pos, aft, none⟩ :: rest) e w := by
  obtain ⟨a, cap, rfl, _, hl, hjj⟩ := hr; obtain ⟨p, rfl, hp⟩ := hjj j (by rw [List.getElem?_eq_some_iff] at hj; exact hj.1); refine quietL u hc (fun w' ha => ?_) h; have : w'.cell? (p.add j) = some u := by rw [cell_agree (ha _ (by rw [add_block]; exact hS _ rfl)), hp, hj]
  simp [execOp, hx, elemPtr, Instr.loadAt, Instr.sureAddr, run_loadVar1 hk this]
theorem loadB {x : Operand} {t : TypeId} {c : Bool} {k by_ b i : Nat} {z : Value} {u : Value} {tb : TypeId} {cs : Array Value} (hk : Ty P t k by_ false z) (hb : Blk w b tb cs) (hx : ev e x = .pointer (some ⟨b, i, none⟩)) (hi : cs[i]? = some u) (hc : B.contains d = c) (hS : S c b)
    (h : wpR P ops S dr (kind B) F rest (upd e d u) w) : wpR P ops S dr (kind B) F (⟨some d, .load t x, ty, pos, aft, none⟩ :: rest) e w := by
  refine quietL u hc (fun w' ha => ?_) h; have : w'.cell? ⟨b, i, none⟩ = some u := by rw [cell_agree (w := w) (ha _ hS), hb.cell, hi]
  simp [execOp, hx, Instr.loadAt, Instr.sureAddr, run_loadVar1 hk this]
theorem loadA {x : Operand} {t : TypeId} {c : Bool} {k by_ b : Nat} {z : Value} {tb : TypeId} {cs : Array Value} (hk : Ty P t k by_ true z) (hb : Blk w b tb cs) (hx : ev e x = .pointer (some ⟨b, 0, none⟩)) (hi : cs.size = k) (hc : B.contains d = c) (hS : S c b)
    (h : wpR P ops S dr (kind B) F rest (upd e d (.agg cs)) w) : wpR P ops S dr (kind B) F (⟨some d, .load t x, ty, pos, aft, none⟩ :: rest) e w := by
  refine quietL (.agg cs) hc (fun w' ha => ?_) h; have hl : (loadCells ⟨b, 0, none⟩ cs.toList.length).run P w' = .ok cs.toList.toArray w' := run_loadCells_list (P := P) (w := w') ⟨b, 0, none⟩ cs.toList (fun j v hj => by
    rw [add_none, cell_agree (w := w) (ha _ hS), hb.cell]; simpa using hj)
  simp only [Array.length_toList, Array.toArray_toList, hi] at hl; simp [execOp, hx, Instr.loadAt, Instr.sureAddr, loadVar, hk.isAgg, hk.sizeOf, hl]
theorem loadE {x : Operand} {t : TypeId} {c : Bool} {k by_ k' n j : Nat} {z : Value} {v : Value} {cs us : List Value} (hk : Ty P t k by_ true z) (hk0 : 0 < k) (hr : Row w k' v n cs) (hx : ev e x = elemPtr v j) (hj : (cs.drop j).take k = us) (hu : us.length = k) (hc : B.contains d = c) (hS : ∀ b, vblk v = some b → S c b)
    (h : wpR P ops S dr (kind B) F rest (upd e d (.agg us.toArray)) w) : wpR P ops S dr (kind B) F (⟨some d, .load t x, ty, pos, aft, none⟩ :: rest) e w := by
  obtain ⟨a, cap, rfl, _, hl, hjj⟩ := hr; have hlt : j + k ≤ cs.length := by
    have := congrArg List.length hj; simp only [List.length_take, List.length_drop, hu] at this; omega
  obtain ⟨p, rfl, _⟩ := hjj j (by omega); refine quietL (.agg us.toArray) hc (fun w' ha => ?_) h; have hl : (loadCells (p.add j) us.length).run P w' = .ok us.toArray w' := run_loadCells_list (P := P) (w := w') (p.add j) us (fun i v hi => by
    have hik : i < k := by rw [← hu]; exact (List.getElem?_eq_some_iff.1 hi).1
    obtain ⟨p', hp', hp⟩ := hjj (j + i) (by omega); obtain rfl := Option.some.inj hp'
    rw [Deep.add_add, cell_agree (w := w) (ha _ (by rw [add_block]; exact hS _ rfl)), hp, ← hi, ← hj, List.getElem?_take, if_pos hik, List.getElem?_drop])
  rw [hu] at hl; simp [execOp, hx, elemPtr, Instr.loadAt, Instr.sureAddr, loadVar, hk.isAgg, hk.sizeOf, hl]
end R
end Go.Proofs.Ytlplogplicgfiaa
