import Derived.Test.YtlplogplicgfiaaZ12V1
namespace Go.Proofs.Ytlplogplicgfiaa
open Go Go.RowKit
namespace R
variable {P : Program} {ops : Array Oper} {S : Bool → Nat → Prop} {dr : Bool} {B : List Nat} {F : Env → World → Prop} {rest : List Oper} {e : Env} {w : World}
variable {d : Tmp} {od : Option Tmp} {ty : TypeId} {pos : String} {aft : Array Edge}
theorem ixA {x i : Operand} {t el : TypeId} {len m b off by_ : Nat} {g : Bool} {z : Value} {ik : IntKind} (hu : P.underlying t = some (.array len el)) (hk : Ty P el 1 by_ g z)
    (hx : ev e x = .pointer (some ⟨b, off, none⟩)) (hi : ev e i = .int ik (m : Nat)) (hm : m < len)
    (h : wpR P ops S dr (kind B) F rest (upd e d (.pointer (some ⟨b, off + m, none⟩))) w) : wpR P ops S dr (kind B) F (⟨some d, .indexAddr t x i, ty, pos, aft, none⟩ :: rest) e w :=
  quiet _ rfl (fun w' _ => by simp [execOp, hx, hi, Instr.indexAt, Instr.sureAddr, asIntOf, underlying, hu, hm, hk.sizeOf, add_none]) h
theorem indexA {x i : Operand} {t el : TypeId} {len m by_ : Nat} {z u : Value} {ik : IntKind} {cs : Array Value} (hu : P.underlying t = some (.array len el)) (hk : Ty P el 1 by_ false z)
    (hx : ev e x = .agg cs) (hi : ev e i = .int ik (m : Nat)) (hm : m < len) (hc : cs[m]? = some u) (_h1 : u.oneCell' = true)
    (h : wpR P ops S dr (kind B) F rest (upd e d u) w) : wpR P ops S dr (kind B) F (⟨some d, .index t x i, ty, pos, aft, none⟩ :: rest) e w :=
  quiet u rfl (fun w' _ => by
    have hlt : m < cs.size := (Array.getElem?_eq_some_iff.1 hc).1
    have hp : (part el cs m).run P w' = .ok u w' := by
      simp [part, hk.isAgg, hk.sizeOf, hc]
    simp [execOp, hx, hi, Instr.index, asIntOf, underlying, hu, hm, hk.sizeOf, hp]) h
theorem slcA {x : Operand} {t el : TypeId} {by_ : Nat} {g : Bool} {z : Value} {b off len : Nat} {lo hi : Option Operand} {l r : Nat} (hu : P.underlying t = some (.array len el)) (hk : Ty P el 1 by_ g z) (hx : ev e x = .pointer (some ⟨b, off, none⟩))
    (hlo : (match lo with | none => l = 0 | some y => ∃ ik, ev e y = .int ik l)) (hhi : (match hi with | none => r = len | some y => ∃ ik, ev e y = .int ik r)) (hlr : l ≤ r) (hrc : r ≤ len) (hne : l < len)
    (h : wpR P ops S dr (kind B) F rest (upd e d (.slice (some ⟨b, off + l, none⟩) (r - l) (len - l))) w) : wpR P ops S dr (kind B) F (⟨some d, .slice t x lo hi none, ty, pos, aft, none⟩ :: rest) e w := by
  refine quiet _ rfl (fun w' _ => ?_) h
  have hnl : ¬ len = l := by omega
  cases lo with
  | none =>
    subst hlo
    cases hi with
    | none => subst hhi; simp [execOp, hx, Instr.sliceAt, Instr.sureAddr, underlying, hu, Instr.sliceBounds, hk.sizeOf, add_none]
    | some y => obtain ⟨ik, hy⟩ := hhi; simp [execOp, hx, hy, Instr.sliceAt, Instr.sureAddr, underlying, hu, Instr.sliceBounds, Instr.sliceBound, asIntOf, hrc, hk.sizeOf, add_none]
  | some y' =>
    obtain ⟨ik', hy'⟩ := hlo
    cases hi with
    | none => subst hhi; simp [execOp, hx, hy', Instr.sliceAt, Instr.sureAddr, underlying, hu, Instr.sliceBounds, Instr.sliceBound, asIntOf, hlr, hk.sizeOf, add_none, hnl]
    | some y => obtain ⟨ik, hy⟩ := hhi; simp [execOp, hx, hy, hy', Instr.sliceAt, Instr.sureAddr, underlying, hu, Instr.sliceBounds, Instr.sliceBound, asIntOf, hrc, hlr, hk.sizeOf, add_none, hnl]
theorem shl {t t' : TypeId} {x y : Operand} {k ky : IntKind} {m : Int} {n : Nat} {b : Nat} (hx : ev e x = .int k m) (hy : ev e y = .int ky (n : Nat)) (hb : k.bits = b) (hn : n ≤ b)
    (h : wpR P ops S dr (kind B) F rest (upd e d (.int k (k.wrap (m * 2 ^ n)))) w) : wpR P ops S dr (kind B) F (⟨some d, .binOp .shl t x y t', ty, pos, aft, none⟩ :: rest) e w :=
  quiet _ rfl (fun w' _ => by
    have h1 : ¬ ((n : Int) < 0) := by omega
    have h2 : min n k.bits = n := by omega
    simp [execOp, hx, hy, guard_int, binOp, Op.shift, h1, h2]) h
theorem shr {t t' : TypeId} {x y : Operand} {k ky : IntKind} {m : Int} {n : Nat} {b : Nat} (hx : ev e x = .int k m) (hy : ev e y = .int ky (n : Nat)) (hb : k.bits = b) (hn : n ≤ b)
    (h : wpR P ops S dr (kind B) F rest (upd e d (.int k (m.fdiv (2 ^ n)))) w) : wpR P ops S dr (kind B) F (⟨some d, .binOp .shr t x y t', ty, pos, aft, none⟩ :: rest) e w :=
  quiet _ rfl (fun w' _ => by
    have h1 : ¬ ((n : Int) < 0) := by omega
    have h2 : min n k.bits = n := by omega
    simp [execOp, hx, hy, guard_int, binOp, Op.shift, h1, h2]) h
theorem or {t t' : TypeId} {x y : Operand} {k : IntKind} {m n : Int} (hx : ev e x = .int k m) (hy : ev e y = .int k n)
    (h : wpR P ops S dr (kind B) F rest (upd e d (.int k (k.wrap (BitVec.ofInt k.bits m ||| BitVec.ofInt k.bits n).toNat))) w) : wpR P ops S dr (kind B) F (⟨some d, .binOp .or t x y t', ty, pos, aft, none⟩ :: rest) e w :=
  quiet _ rfl (fun w' _ => by simp [execOp, hx, hy, guard_int, binOp, Op.intBits]) h
end R
theorem or64 {m n : Nat} (hm : m < 2 ^ 63) (hn : n < 2 ^ 63) : IntKind.i64.wrap (BitVec.ofInt IntKind.i64.bits (m : Int) ||| BitVec.ofInt IntKind.i64.bits (n : Int)).toNat = ((m ||| n : Nat) : Int) := by
  have e1 : IntKind.i64.bits = 64 := rfl
  have h1 : (BitVec.ofInt IntKind.i64.bits (m : Int)) = BitVec.ofNat 64 m := by
    show BitVec.ofInt 64 (m : Int) = _
    exact BitVec.ofInt_natCast 64 m
  have h2 : (BitVec.ofInt IntKind.i64.bits (n : Int)) = BitVec.ofNat 64 n := by
    show BitVec.ofInt 64 (n : Int) = _
    exact BitVec.ofInt_natCast 64 n
  have h3 : m ||| n < 2 ^ 63 := Nat.or_lt_two_pow hm hn
  have h4 : ((BitVec.ofInt IntKind.i64.bits (m : Int) ||| BitVec.ofInt IntKind.i64.bits (n : Int)).toNat) = m ||| n := by
    rw [h1, h2]
    show (BitVec.ofNat 64 m ||| BitVec.ofNat 64 n).toNat = _
    rw [BitVec.toNat_or, BitVec.toNat_ofNat, BitVec.toNat_ofNat, Nat.mod_eq_of_lt (by omega), Nat.mod_eq_of_lt (by omega)]
  rw [h4]
  exact R.wrap64 (by omega) (by omega)
end Go.Proofs.Ytlplogplicgfiaa
