import Derived.Test.YtlplogplicgfiaaZ4V1
import Derived.Laws.Pointers
namespace Go.Proofs.Ytlplogplicgfiaa
open Go Go.RowKit
namespace R
variable {P : Program} {ops : Array Oper} {S : Bool → Nat → Prop} {dr : Bool} {B : List Nat} {F : Env → World → Prop} {rest : List Oper} {e : Env} {w : World}
variable {d : Tmp} {od : Option Tmp} {ty : TypeId} {pos : String} {aft : Array Edge}
theorem ixA {x i : Operand} {t el : TypeId} {len m b off by_ : Nat} {g : Bool} {z : Value} {ik : IntKind} (hu : P.underlying t = some (.array len el)) (hk : Ty P el 1 by_ g z)
    (hx : ev e x = .pointer (some ⟨b, off, none⟩)) (hi : ev e i = .int ik (m : Nat)) (hm : m < len)
    (h : wpR P ops S dr (kind B) F rest (upd e d (.pointer (some ⟨b, off + m, none⟩))) w) : wpR P ops S dr (kind B) F (⟨some d, .indexAddr t x i, ty, pos, aft, none⟩ :: rest) e w :=
  quiet _ rfl (fun w' _ => by simp [execOp, hx, hi, Instr.indexAt, Instr.sureAddr, asIntOf, underlying, hu, hm, hk.sizeOf, add_none]) h
theorem indexA {x i : Operand} {t el : TypeId} {len m by_ : Nat} {z u : Value} {ik : IntKind} {cs : Array Value} (hu : P.underlying t = some (.array len el)) (hk : Ty P el 1 by_ false z)
    (hx : ev e x = .agg cs) (hi : ev e i = .int ik (m : Nat)) (hm : m < len) (hc : cs[m]? = some u) (_h1 : u.oneCell' = true)
    (h : wpR P ops S dr (kind B) F rest (upd e d u) w) : wpR P ops S dr (kind B) F (⟨some d, .index t x i, ty, pos, aft, none⟩ :: rest) e w :=
  quiet u rfl (fun w' _ => by
    have hlt : m < cs.size := (Array.getElem?_eq_some_iff.1 hc).1; have hp : (part el cs m).run P w' = .ok u w' := by
      simp [part, hk.isAgg, hk.sizeOf, hc]
    simp [execOp, hx, hi, Instr.index, asIntOf, underlying, hu, hm, hk.sizeOf, hp]) h
theorem slcA {x : Operand} {t el : TypeId} {by_ : Nat} {g : Bool} {z : Value} {b off len : Nat} {lo hi : Option Operand} {l r : Nat} (hu : P.underlying t = some (.array len el)) (hk : Ty P el 1 by_ g z) (hx : ev e x = .pointer (some ⟨b, off, none⟩))
    (hlo : (match lo with | none => l = 0 | some y => ∃ ik, ev e y = .int ik l)) (hhi : (match hi with | none => r = len | some y => ∃ ik, ev e y = .int ik r)) (hlr : l ≤ r) (hrc : r ≤ len) (hne : l < len)
    (h : wpR P ops S dr (kind B) F rest (upd e d (.slice (some ⟨b, off + l, none⟩) (r - l) (len - l))) w) : wpR P ops S dr (kind B) F (⟨some d, .slice t x lo hi none, ty, pos, aft, none⟩ :: rest) e w := by
  refine quiet _ rfl (fun w' _ => ?_) h; have hnl : ¬ len = l := by omega
  cases lo with
  | none =>
    subst hlo
    cases hi with
    | none => subst hhi; simp [execOp, hx, Instr.sliceAt, Instr.sureAddr, underlying, hu, Instr.sliceBounds, hk.sizeOf, add_none]
    | some y => obtain ⟨ik, hy⟩ := hhi; simp [execOp, hx, hy, Instr.sliceAt, Instr.sureAddr, underlying, hu, Instr.sliceBounds, Instr.sliceBound, asIntOf, hrc, hk.sizeOf, add_none]
  | some y' =>
    obtain ⟨ik', hy'⟩ := hlo
    cases hi with
    | none => subst hhi; simp [execOp, hx, hy', Instr.sliceAt, Instr.sureAddr, underlying, hu, Instr.sliceBounds, Instr.sliceBound, asIntOf, hlr, hk.sizeOf, add_none, hnl]
    | some y => obtain ⟨ik, hy⟩ := hhi; simp [execOp, hx, hy, hy', Instr.sliceAt, Instr.sureAddr, underlying, hu, Instr.sliceBounds, Instr.sliceBound, asIntOf, hrc, hlr, hk.sizeOf, add_none, hnl]
theorem shl {t t' : TypeId} {x y : Operand} {k ky : IntKind} {m : Int} {n : Nat} {b : Nat} (hx : ev e x = .int k m) (hy : ev e y = .int ky (n : Nat)) (hb : k.bits = b) (hn : n ≤ b)
    (h : wpR P ops S dr (kind B) F rest (upd e d (.int k (k.wrap (m * 2 ^ n)))) w) : wpR P ops S dr (kind B) F (⟨some d, .binOp .shl t x y t', ty, pos, aft, none⟩ :: rest) e w :=
  quiet _ rfl (fun w' _ => by
    have h1 : ¬ ((n : Int) < 0) := by omega
    have h2 : min n k.bits = n := by omega
    simp [execOp, hx, hy, guard_int, binOp, Op.shift, h1, h2]) h
theorem shr {t t' : TypeId} {x y : Operand} {k ky : IntKind} {m : Int} {n : Nat} {b : Nat} (hx : ev e x = .int k m) (hy : ev e y = .int ky (n : Nat)) (hb : k.bits = b) (hn : n ≤ b)
    (h : wpR P ops S dr (kind B) F rest (upd e d (.int k (m.fdiv (2 ^ n)))) w) : wpR P ops S dr (kind B) F (⟨some d, .binOp .shr t x y t', ty, pos, aft, none⟩ :: rest) e w :=
  quiet _ rfl (fun w' _ => by
    have h1 : ¬ ((n : Int) < 0) := by omega
    have h2 : min n k.bits = n := by omega
    simp [execOp, hx, hy, guard_int, binOp, Op.shift, h1, h2]) h
theorem or {t t' : TypeId} {x y : Operand} {k : IntKind} {m n : Int} (hx : ev e x = .int k m) (hy : ev e y = .int k n)
    (h : wpR P ops S dr (kind B) F rest (upd e d (.int k (k.wrap (BitVec.ofInt k.bits m ||| BitVec.ofInt k.bits n).toNat))) w) : wpR P ops S dr (kind B) F (⟨some d, .binOp .or t x y t', ty, pos, aft, none⟩ :: rest) e w :=
  quiet _ rfl (fun w' _ => by simp [execOp, hx, hy, guard_int, binOp, Op.intBits]) h
end R
theorem or64 {m n : Nat} (hm : m < 2 ^ 63) (hn : n < 2 ^ 63) : IntKind.i64.wrap (BitVec.ofInt IntKind.i64.bits (m : Int) ||| BitVec.ofInt IntKind.i64.bits (n : Int)).toNat = ((m ||| n : Nat) : Int) := by
  have e1 : IntKind.i64.bits = 64 := rfl; have h1 : (BitVec.ofInt IntKind.i64.bits (m : Int)) = BitVec.ofNat 64 m := by
    show BitVec.ofInt 64 (m : Int) = _; exact BitVec.ofInt_natCast 64 m
  have h2 : (BitVec.ofInt IntKind.i64.bits (n : Int)) = BitVec.ofNat 64 n := by
    show BitVec.ofInt 64 (n : Int) = _; exact BitVec.ofInt_natCast 64 n
  have h3 : m ||| n < 2 ^ 63 := Nat.or_lt_two_pow hm hn; have h4 : ((BitVec.ofInt IntKind.i64.bits (m : Int) ||| BitVec.ofInt IntKind.i64.bits (n : Int)).toNat) = m ||| n := by
    rw [h1, h2]; show (BitVec.ofNat 64 m ||| BitVec.ofNat 64 n).toNat = _; rw [BitVec.toNat_or, BitVec.toNat_ofNat, BitVec.toNat_ofNat, Nat.mod_eq_of_lt (by omega), Nat.mod_eq_of_lt (by omega)]
  rw [h4]; exact R.wrap64 (by omega) (by omega)
end Go.Proofs.Ytlplogplicgfiaa

namespace Go.Proofs.Ytlplogplicgfiaa
open Go Go.RowKit
abbrev u8s (xs : List Nat) : List Value := xs.map fun x => Value.int .u8 (x : Nat)
abbrev U8s (w : World) (v : Value) (xs : List Nat) : Prop := Row w 1 v xs.length (u8s xs)
abbrev SU8s (w : World) (v : Value) (xs : List Nat) : Prop := Sl w 5 1 v xs.length (u8s xs)
abbrev bools (xs : List Bool) : List Value := xs.map Value.bool
theorem u8_at {xs : List Nat} {k : Nat} (h : k < xs.length) : (u8s xs)[k]? = some (.int .u8 (xs[k] : Nat)) := by simp [h]
theorem bool_at {xs : List Bool} {k : Nat} (h : k < xs.length) : (bools xs)[k]? = some (.bool xs[k]) := by simp [h]
theorem u8s_one {xs : List Nat} : ∀ u ∈ u8s xs, u.oneCell' = true := fun u hu => by
  obtain ⟨_, _, rfl⟩ := List.mem_map.1 hu; rfl
theorem bools_one {xs : List Bool} : ∀ u ∈ bools xs, u.oneCell' = true := fun u hu => by
  obtain ⟨_, _, rfl⟩ := List.mem_map.1 hu; rfl
def blocksC (bl : List (List Nat)) : List Value := bl.flatMap u8s
def BlockP (b : List Nat) : Prop := b.length = 64 ∧ ∀ x ∈ b, x < 256
theorem blocksC_cons (b : List Nat) (bl : List (List Nat)) : blocksC (b :: bl) = u8s b ++ blocksC bl := rfl
theorem blocksC_len : ∀ {bl : List (List Nat)}, (∀ b ∈ bl, BlockP b) → (blocksC bl).length = bl.length * 64
  | [], _ => rfl
  | b :: bl, h => by
    rw [blocksC_cons, List.length_append, blocksC_len (fun c hc => h c (List.mem_cons_of_mem _ hc)), List.length_cons, List.length_map, (h b List.mem_cons_self).1]; omega
theorem blocksC_take : ∀ {bl : List (List Nat)}, (∀ b ∈ bl, BlockP b) → ∀ {i : Nat} (hi : i < bl.length), ((blocksC bl).drop (i * 64)).take 64 = u8s bl[i]
  | [], _, i, hi => by simp at hi
  | b :: bl, h, 0, _ => by
    have h1 := (h b List.mem_cons_self).1; rw [blocksC_cons]; simp only [Nat.zero_mul, List.drop_zero, List.getElem_cons_zero]; rw [List.take_append_of_le_length (by simp [h1]), List.take_of_length_le (by simp [h1])]
  | b :: bl, h, i + 1, hi => by
    have h1 := (h b List.mem_cons_self).1; have h2 := blocksC_take (fun c hc => h c (List.mem_cons_of_mem _ hc)) (i := i) (by simpa using hi); rw [blocksC_cons, show (i + 1) * 64 = (u8s b).length + i * 64 by simp [h1]; omega, ← List.drop_drop, List.drop_left]; simpa using h2
structure Dk where
  bl : List (List Nat)
  bad : List Bool
  pw : Int
  tr : Bool
def Dk.n (d : Dk) : Nat := if d.bl.length ≠ d.bad.length ∨ d.bl.length % 2 ≠ 0 ∨ d.bl.length < 8 ∨ 2000 < d.bl.length then 0 else d.bl.length / 2
theorem Dk.n_pos {d : Dk} (h : 0 < d.n) : d.bl.length = d.bad.length ∧ d.bl.length = 2 * d.n ∧ 4 ≤ d.n ∧ d.n ≤ 1000 := by
  unfold Dk.n at *
  split at h
  · omega
  · rename_i hc; rw [if_neg hc]; omega
structure DM (w : World) (p : Nat) (vb vd : Value) (d : Dk) : Prop where
  blk : Blk w p 25 #[vb, vd, .int .i64 d.pw, .bool d.tr]
  bls : Sl w 27 64 vb d.bl.length (blocksC d.bl)
  bds : Sl w 4 1 vd d.bad.length (bools d.bad)
  ok : ∀ b ∈ d.bl, BlockP b
section
variable {w w' : World} {p : Nat} {vb vd : Value} {d : Dk}
theorem DM.up {X : Nat → Prop} (h : DM w p vb vd d) (u : Upd X w w') (h1 : ¬ X p) (h2 : ∀ b, vblk vb = some b → ¬ X b) (h3 : ∀ b, vblk vd = some b → ¬ X b) : DM w' p vb vd d := ⟨h.blk.up u h1, h.bls.up u h2, h.bds.up u h3, h.ok⟩
theorem DM.ext (h : DM w p vb vd d) (u : Ext w w') : DM w' p vb vd d := h.up u id (fun _ _ => id) (fun _ _ => id)
theorem DM.upT {b : Nat} {cs : Array Value} {ty : TypeId} (h : DM w p vb vd d) (u : Upd (one b) w w') (hb : Blk w b ty cs) (hne : ty ≠ 25 ∧ ty ≠ 27 ∧ ty ≠ 4) : DM w' p vb vd d :=
  ⟨h.blk.upT u hb (Ne.symm hne.1), h.bls.upT u hb (Ne.symm hne.2.1), h.bds.upT u hb (Ne.symm hne.2.2), h.ok⟩
end
namespace R
variable {P : Program} {ops : Array Oper} {S : Bool → Nat → Prop} {dr : Bool} {B : List Nat} {F : Env → World → Prop} {rest : List Oper} {e : Env} {w : World}
variable {d : Tmp} {od : Option Tmp} {ty : TypeId} {pos : String} {aft : Array Edge}
theorem guard_ptr {op : BinOp} {t : TypeId} {x y : Operand} {m n : Option Addr} (w : World) : (eqGuard op t x y (.pointer m) (.pointer n)).run P w = .ok () w := by
  unfold eqGuard; cases op <;> simp
theorem eqlNil {t el t' : TypeId} {x y : Operand} {p : Option Addr} {b : Bool} (hu : P.underlying t = some (.pointer el)) (hx : ev e x = .pointer p) (hy : ev e y = .pointer none) (hb : p.isNone = b)
    (h : wpR P ops S dr (kind B) F rest (upd e d (.bool b)) w) : wpR P ops S dr (kind B) F (⟨some d, .binOp .eql t x y t', ty, pos, aft, none⟩ :: rest) e w :=
  quiet (.bool b) rfl (fun w' _ => by
    have h1 : P.underlying t = some (.pointer (P.pointee t)) := by rw [hu]; simp [Program.pointee, hu]
    have h2 := run_eql_pointer_nil (P := P) w' t p h1; rw [hb] at h2
    simp [execOp, hx, hy, guard_ptr, h2]) h
theorem neqNil {t el t' : TypeId} {x y : Operand} {p : Option Addr} {b : Bool} (hu : P.underlying t = some (.pointer el)) (hx : ev e x = .pointer p) (hy : ev e y = .pointer none) (hb : (!p.isNone) = b)
    (h : wpR P ops S dr (kind B) F rest (upd e d (.bool b)) w) : wpR P ops S dr (kind B) F (⟨some d, .binOp .neq t x y t', ty, pos, aft, none⟩ :: rest) e w :=
  quiet (.bool b) rfl (fun w' _ => by
    have h1 : P.underlying t = some (.pointer (P.pointee t)) := by rw [hu]; simp [Program.pointee, hu]
    have h2 := run_neq_pointer_nil (P := P) w' t p h1; rw [hb] at h2
    simp [execOp, hx, hy, guard_ptr, h2]) h
end R
theorem places_ (w : World) {p : Nat} {vb vd : Value} {d : Dk} (hD : DM w p vb vd d) :
    Calls Try.prog 43 #[.pointer (some ⟨p, 0, none⟩)] w (Ret fun r w' => Ext w w' ∧ r = .int .i64 (d.n : Nat)) := by
  refine calls_E (args := [P6 p]) 49 Try.func43 rfl rfl (by simp) ?_; have hE : Ext w w := Upd.refl w; refine E.seq ?_; refine E.regionP rfl ?_; refine R.assign ?_; refine R.nil ?_; (iterate 2 refine E.seq ?_); have hk : d.bl.length ≠ d.bad.length ∨ (d.bl.length = d.bad.length ∧ d.bl.length % 2 ≠ 0) ∨ (d.bl.length = d.bad.length ∧ d.bl.length % 2 = 0 ∧ d.bl.length < 8) ∨ (d.bl.length = d.bad.length ∧ d.bl.length % 2 = 0 ∧ ¬ d.bl.length < 8 ∧ 2000 < d.bl.length) ∨ (d.bl.length = d.bad.length ∧ d.bl.length % 2 = 0 ∧ ¬ d.bl.length < 8 ∧ ¬ 2000 < d.bl.length) := by omega
  rcases hk with h1 | ⟨h1, h2⟩ | ⟨h1, h2, h3⟩ | ⟨h1, h2, h3, h4⟩ | ⟨h1, h2, h3, h4⟩
  · refine E.regionW allS [] mixed rfl (by kernel_rfl) ?_; intro w1 hx1 hh1; replace hD := hD.ext hx1; replace hE := hE.ext hx1; refine R.move ?_; refine R.eqlNil Try.underlying32 rfl rfl rfl ?_; refine R.move ?_; refine R.gT rfl rfl ?_; refine R.move ?_; refine R.gT rfl rfl ?_; refine R.nilCheck rfl ?_; refine R.gT rfl rfl ?_; refine R.fld fa25_0 rfl ?_; refine R.gT rfl rfl ?_; refine R.loadB t22 hD.blk rfl rfl rfl trivial ?_; refine R.gT rfl rfl ?_; refine R.len Try.underlying22 hD.bls.row rfl ?_; refine R.gT rfl rfl ?_; refine R.move ?_; refine R.gT rfl rfl ?_; refine R.nilCheck rfl ?_; refine R.gT rfl rfl ?_; refine R.fld fa25_1 rfl ?_; refine R.gT rfl rfl ?_; refine R.loadB t23 hD.blk rfl rfl rfl trivial ?_; refine R.gT rfl rfl ?_; refine R.len Try.underlying23 hD.bds.row rfl ?_; refine R.gT rfl rfl ?_; refine R.neq (b := true) rfl rfl (by simp; omega) ?_; refine R.pickF rfl ?_; refine R.move ?_; (iterate 7 refine R.gF rfl rfl rfl ?_); refine R.pickT rfl ?_; refine R.move ?_; (iterate 6 refine R.gF rfl rfl rfl ?_); refine R.pickT rfl ?_; refine R.move ?_; (iterate 6 refine R.gF rfl rfl rfl ?_); refine R.pickT rfl ?_; refine R.nil ?_; refine E.condT rfl ?_; refine E.seq ?_; refine E.regionP rfl ?_; refine R.assign ?_; refine R.nil ?_; refine E.ret ?_; exact ret1 (N6 0) rfl rfl ⟨_, rfl, hE, by unfold Dk.n; rw [if_pos (by omega)]⟩
  · refine E.regionW allS [] mixed rfl (by kernel_rfl) ?_; intro w2 hx2 hh2; replace hD := hD.ext hx2; replace hE := hE.ext hx2; refine R.move ?_; refine R.eqlNil Try.underlying32 rfl rfl rfl ?_; refine R.move ?_; refine R.gT rfl rfl ?_; refine R.move ?_; refine R.gT rfl rfl ?_; refine R.nilCheck rfl ?_; refine R.gT rfl rfl ?_; refine R.fld fa25_0 rfl ?_; refine R.gT rfl rfl ?_; refine R.loadB t22 hD.blk rfl rfl rfl trivial ?_; refine R.gT rfl rfl ?_; refine R.len Try.underlying22 hD.bls.row rfl ?_; refine R.gT rfl rfl ?_; refine R.move ?_; refine R.gT rfl rfl ?_; refine R.nilCheck rfl ?_; refine R.gT rfl rfl ?_; refine R.fld fa25_1 rfl ?_; refine R.gT rfl rfl ?_; refine R.loadB t23 hD.blk rfl rfl rfl trivial ?_; refine R.gT rfl rfl ?_; refine R.len Try.underlying23 hD.bds.row rfl ?_; refine R.gT rfl rfl ?_; refine R.neq (b := false) rfl rfl (by simp; omega) ?_; refine R.pickF rfl ?_; refine R.move ?_; refine R.gT rfl rfl ?_; refine R.move ?_; refine R.gT rfl rfl ?_; refine R.nilCheck rfl ?_; refine R.gT rfl rfl ?_; refine R.fld fa25_0 rfl ?_; refine R.gT rfl rfl ?_; refine R.loadB t22 hD.blk rfl rfl rfl trivial ?_; refine R.gT rfl rfl ?_; refine R.len Try.underlying22 hD.bls.row rfl ?_; refine R.gT rfl rfl ?_; refine R.remN (m := d.bl.length) (n := 2) rfl rfl (by omega) ?_; refine R.gT rfl rfl ?_; refine R.neq (b := true) rfl rfl (by simp; omega) ?_; refine R.pickF rfl ?_; refine R.move ?_; (iterate 6 refine R.gF rfl rfl rfl ?_); refine R.pickT rfl ?_; refine R.move ?_; (iterate 6 refine R.gF rfl rfl rfl ?_); refine R.pickT rfl ?_; refine R.nil ?_; refine E.condT rfl ?_; refine E.seq ?_; refine E.regionP rfl ?_; refine R.assign ?_; refine R.nil ?_; refine E.ret ?_; exact ret1 (N6 0) rfl rfl ⟨_, rfl, hE, by unfold Dk.n; rw [if_pos (by omega)]⟩
  · refine E.regionW allS [] mixed rfl (by kernel_rfl) ?_; intro w3 hx3 hh3; replace hD := hD.ext hx3; replace hE := hE.ext hx3; refine R.move ?_; refine R.eqlNil Try.underlying32 rfl rfl rfl ?_; refine R.move ?_; refine R.gT rfl rfl ?_; refine R.move ?_; refine R.gT rfl rfl ?_; refine R.nilCheck rfl ?_; refine R.gT rfl rfl ?_; refine R.fld fa25_0 rfl ?_; refine R.gT rfl rfl ?_; refine R.loadB t22 hD.blk rfl rfl rfl trivial ?_; refine R.gT rfl rfl ?_; refine R.len Try.underlying22 hD.bls.row rfl ?_; refine R.gT rfl rfl ?_; refine R.move ?_; refine R.gT rfl rfl ?_; refine R.nilCheck rfl ?_; refine R.gT rfl rfl ?_; refine R.fld fa25_1 rfl ?_; refine R.gT rfl rfl ?_; refine R.loadB t23 hD.blk rfl rfl rfl trivial ?_; refine R.gT rfl rfl ?_; refine R.len Try.underlying23 hD.bds.row rfl ?_; refine R.gT rfl rfl ?_; refine R.neq (b := false) rfl rfl (by simp; omega) ?_; refine R.pickF rfl ?_; refine R.move ?_; refine R.gT rfl rfl ?_; refine R.move ?_; refine R.gT rfl rfl ?_; refine R.nilCheck rfl ?_; refine R.gT rfl rfl ?_; refine R.fld fa25_0 rfl ?_; refine R.gT rfl rfl ?_; refine R.loadB t22 hD.blk rfl rfl rfl trivial ?_; refine R.gT rfl rfl ?_; refine R.len Try.underlying22 hD.bls.row rfl ?_; refine R.gT rfl rfl ?_; refine R.remN (m := d.bl.length) (n := 2) rfl rfl (by omega) ?_; refine R.gT rfl rfl ?_; refine R.neq (b := false) rfl rfl (by simp; omega) ?_; refine R.pickF rfl ?_; refine R.move ?_; refine R.gT rfl rfl ?_; refine R.move ?_; refine R.gT rfl rfl ?_; refine R.nilCheck rfl ?_; refine R.gT rfl rfl ?_; refine R.fld fa25_0 rfl ?_; refine R.gT rfl rfl ?_; refine R.loadB t22 hD.blk rfl rfl rfl trivial ?_; refine R.gT rfl rfl ?_; refine R.len Try.underlying22 hD.bls.row rfl ?_; refine R.gT rfl rfl ?_; refine R.lss (b := true) rfl rfl (decide_eq_true (by omega)) ?_; refine R.pickF rfl ?_; refine R.move ?_; (iterate 6 refine R.gF rfl rfl rfl ?_); refine R.pickT rfl ?_; refine R.nil ?_; refine E.condT rfl ?_; refine E.seq ?_; refine E.regionP rfl ?_; refine R.assign ?_; refine R.nil ?_; refine E.ret ?_; exact ret1 (N6 0) rfl rfl ⟨_, rfl, hE, by unfold Dk.n; rw [if_pos (by omega)]⟩
  · refine E.regionW allS [] mixed rfl (by kernel_rfl) ?_; intro w4 hx4 hh4; replace hD := hD.ext hx4; replace hE := hE.ext hx4; refine R.move ?_; refine R.eqlNil Try.underlying32 rfl rfl rfl ?_; refine R.move ?_; refine R.gT rfl rfl ?_; refine R.move ?_; refine R.gT rfl rfl ?_; refine R.nilCheck rfl ?_; refine R.gT rfl rfl ?_; refine R.fld fa25_0 rfl ?_; refine R.gT rfl rfl ?_; refine R.loadB t22 hD.blk rfl rfl rfl trivial ?_; refine R.gT rfl rfl ?_; refine R.len Try.underlying22 hD.bls.row rfl ?_; refine R.gT rfl rfl ?_; refine R.move ?_; refine R.gT rfl rfl ?_; refine R.nilCheck rfl ?_; refine R.gT rfl rfl ?_; refine R.fld fa25_1 rfl ?_; refine R.gT rfl rfl ?_; refine R.loadB t23 hD.blk rfl rfl rfl trivial ?_; refine R.gT rfl rfl ?_; refine R.len Try.underlying23 hD.bds.row rfl ?_; refine R.gT rfl rfl ?_; refine R.neq (b := false) rfl rfl (by simp; omega) ?_; refine R.pickF rfl ?_; refine R.move ?_; refine R.gT rfl rfl ?_; refine R.move ?_; refine R.gT rfl rfl ?_; refine R.nilCheck rfl ?_; refine R.gT rfl rfl ?_; refine R.fld fa25_0 rfl ?_; refine R.gT rfl rfl ?_; refine R.loadB t22 hD.blk rfl rfl rfl trivial ?_; refine R.gT rfl rfl ?_; refine R.len Try.underlying22 hD.bls.row rfl ?_; refine R.gT rfl rfl ?_; refine R.remN (m := d.bl.length) (n := 2) rfl rfl (by omega) ?_; refine R.gT rfl rfl ?_; refine R.neq (b := false) rfl rfl (by simp; omega) ?_; refine R.pickF rfl ?_; refine R.move ?_; refine R.gT rfl rfl ?_; refine R.move ?_; refine R.gT rfl rfl ?_; refine R.nilCheck rfl ?_; refine R.gT rfl rfl ?_; refine R.fld fa25_0 rfl ?_; refine R.gT rfl rfl ?_; refine R.loadB t22 hD.blk rfl rfl rfl trivial ?_; refine R.gT rfl rfl ?_; refine R.len Try.underlying22 hD.bls.row rfl ?_; refine R.gT rfl rfl ?_; refine R.lss (b := false) rfl rfl (decide_eq_false (by omega)) ?_; refine R.pickF rfl ?_; refine R.move ?_; refine R.gT rfl rfl ?_; refine R.move ?_; refine R.gT rfl rfl ?_; refine R.nilCheck rfl ?_; refine R.gT rfl rfl ?_; refine R.fld fa25_0 rfl ?_; refine R.gT rfl rfl ?_; refine R.loadB t22 hD.blk rfl rfl rfl trivial ?_; refine R.gT rfl rfl ?_; refine R.len Try.underlying22 hD.bls.row rfl ?_; refine R.gT rfl rfl ?_; refine R.gtr (b := true) rfl rfl (decide_eq_true (by omega)) ?_; refine R.pickF rfl ?_; refine R.nil ?_; refine E.condT rfl ?_; refine E.seq ?_; refine E.regionP rfl ?_; refine R.assign ?_; refine R.nil ?_; refine E.ret ?_; exact ret1 (N6 0) rfl rfl ⟨_, rfl, hE, by unfold Dk.n; rw [if_pos (by omega)]⟩
  · refine E.regionW allS [] mixed rfl (by kernel_rfl) ?_; intro w5 hx5 hh5; replace hD := hD.ext hx5; replace hE := hE.ext hx5; refine R.move ?_; refine R.eqlNil Try.underlying32 rfl rfl rfl ?_; refine R.move ?_; refine R.gT rfl rfl ?_; refine R.move ?_; refine R.gT rfl rfl ?_; refine R.nilCheck rfl ?_; refine R.gT rfl rfl ?_; refine R.fld fa25_0 rfl ?_; refine R.gT rfl rfl ?_; refine R.loadB t22 hD.blk rfl rfl rfl trivial ?_; refine R.gT rfl rfl ?_; refine R.len Try.underlying22 hD.bls.row rfl ?_; refine R.gT rfl rfl ?_; refine R.move ?_; refine R.gT rfl rfl ?_; refine R.nilCheck rfl ?_; refine R.gT rfl rfl ?_; refine R.fld fa25_1 rfl ?_; refine R.gT rfl rfl ?_; refine R.loadB t23 hD.blk rfl rfl rfl trivial ?_; refine R.gT rfl rfl ?_; refine R.len Try.underlying23 hD.bds.row rfl ?_; refine R.gT rfl rfl ?_; refine R.neq (b := false) rfl rfl (by simp; omega) ?_; refine R.pickF rfl ?_; refine R.move ?_; refine R.gT rfl rfl ?_; refine R.move ?_; refine R.gT rfl rfl ?_; refine R.nilCheck rfl ?_; refine R.gT rfl rfl ?_; refine R.fld fa25_0 rfl ?_; refine R.gT rfl rfl ?_; refine R.loadB t22 hD.blk rfl rfl rfl trivial ?_; refine R.gT rfl rfl ?_; refine R.len Try.underlying22 hD.bls.row rfl ?_; refine R.gT rfl rfl ?_; refine R.remN (m := d.bl.length) (n := 2) rfl rfl (by omega) ?_; refine R.gT rfl rfl ?_; refine R.neq (b := false) rfl rfl (by simp; omega) ?_; refine R.pickF rfl ?_; refine R.move ?_; refine R.gT rfl rfl ?_; refine R.move ?_; refine R.gT rfl rfl ?_; refine R.nilCheck rfl ?_; refine R.gT rfl rfl ?_; refine R.fld fa25_0 rfl ?_; refine R.gT rfl rfl ?_; refine R.loadB t22 hD.blk rfl rfl rfl trivial ?_; refine R.gT rfl rfl ?_; refine R.len Try.underlying22 hD.bls.row rfl ?_; refine R.gT rfl rfl ?_; refine R.lss (b := false) rfl rfl (decide_eq_false (by omega)) ?_; refine R.pickF rfl ?_; refine R.move ?_; refine R.gT rfl rfl ?_; refine R.move ?_; refine R.gT rfl rfl ?_; refine R.nilCheck rfl ?_; refine R.gT rfl rfl ?_; refine R.fld fa25_0 rfl ?_; refine R.gT rfl rfl ?_; refine R.loadB t22 hD.blk rfl rfl rfl trivial ?_; refine R.gT rfl rfl ?_; refine R.len Try.underlying22 hD.bls.row rfl ?_; refine R.gT rfl rfl ?_; refine R.gtr (b := false) rfl rfl (decide_eq_false (by omega)) ?_; refine R.pickF rfl ?_; refine R.nil ?_; refine E.condF rfl ?_; refine E.skip ?_; refine E.seq ?_; refine E.regionP rfl ?_; refine R.move ?_; refine R.nilCheck rfl ?_; refine R.fld fa25_0 rfl ?_; refine R.loadB t22 hD.blk rfl rfl rfl trivial ?_; refine R.len Try.underlying22 hD.bls.row rfl ?_; refine R.quoN (m := d.bl.length) (n := 2) rfl rfl (by omega) (by have := hD.bls.cap; omega) ?_; refine R.assign ?_; refine R.nil ?_; refine E.ret ?_; exact ret1 (N6 (d.bl.length / 2)) rfl rfl ⟨_, rfl, hE, by unfold Dk.n; rw [if_neg (by omega)]⟩
end Go.Proofs.Ytlplogplicgfiaa
