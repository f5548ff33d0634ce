import Derived.Test.YtlplogplicgfiaaZ5JZ
namespace Go.Proofs.Ytlplogplicgfiaa
open Go Go.RowKit
namespace R
variable {P : Program} {ops : Array Oper} {S : Bool → Nat → Prop} {dr : Bool} {B : List Nat} {F : Env → World → Prop} {rest : List Oper} {e : Env} {w : World}
variable {d : Tmp} {od : Option Tmp} {ty : TypeId} {pos : String} {aft : Array Edge}
theorem addV {t t' : TypeId} {x y : Operand} {m n v : Int} (hx : ev e x = .int .i64 m) (hy : ev e y = .int .i64 n) (hv : m + n = v) (h1 : -9223372036854775808 ≤ v) (h2 : v ≤ 9223372036854775807)
    (h : wpR P ops S dr (kind B) F rest (upd e d (.int .i64 v)) w) : wpR P ops S dr (kind B) F (⟨some d, .binOp .add t x y t', ty, pos, aft, none⟩ :: rest) e w := by
  subst hv; exact add hx hy h1 h2 h
theorem subV {t t' : TypeId} {x y : Operand} {m n v : Int} (hx : ev e x = .int .i64 m) (hy : ev e y = .int .i64 n) (hv : m - n = v) (h1 : -9223372036854775808 ≤ v) (h2 : v ≤ 9223372036854775807)
    (h : wpR P ops S dr (kind B) F rest (upd e d (.int .i64 v)) w) : wpR P ops S dr (kind B) F (⟨some d, .binOp .sub t x y t', ty, pos, aft, none⟩ :: rest) e w := by
  subst hv; exact sub hx hy h1 h2 h
end R
def dv (n : Nat) : Nat → Nat
  | 0 => n
  | c + 1 => dv n c / 256
theorem dv_le (n : Nat) : ∀ c, dv n c ≤ n
  | 0 => Nat.le_refl _
  | c + 1 => Nat.le_trans (Nat.div_le_self _ _) (dv_le n c)
theorem be4_dv (n : Nat) : be4 n = [dv n 3 % 256, dv n 2 % 256, dv n 1 % 256, dv n 0 % 256] := by
  simp only [be4, dv, Nat.div_div_eq_div_mul]
def bstep (x : List Nat) (n l f : Nat) : Nat → List Nat
  | 0 => x
  | c + 1 => (((bstep x n l f c).set (7 - c) (dv n c % 256)).set (11 - c) (dv l c % 256)).set (15 - c) (dv f c % 256)
theorem bstep4 (t k m n l f : Nat) : bstep (headB t k m) n l f 4 = lput (lput (lput (headB t k m) 4 (be4 n)) 8 (be4 l)) 12 (be4 f) := by
  rw [be4_dv, be4_dv, be4_dv]; rfl
theorem bstep_ok {x : List Nat} (h : BlockP x) (n l f : Nat) : ∀ c, BlockP (bstep x n l f c)
  | 0 => h
  | c + 1 => blk_set (blk_set (blk_set (bstep_ok h n l f c) (Nat.mod_lt _ (by decide))) (Nat.mod_lt _ (by decide))) (Nat.mod_lt _ (by decide))
theorem lput_step {xs ys : List Nat} {o k : Nat} (hk : k < ys.length) (ho : o + ys.length ≤ xs.length) : (lput xs o (ys.take k)).set (o + k) (ys.getD k 0) = lput xs o (ys.take (k + 1)) := by
  have e1 : (ys.take k).length = k := by simp; omega
  have e2 : (ys.take (k + 1)).length = k + 1 := by simp; omega
  unfold lput
  rw [e1, e2, take_getD (z := 0) hk, List.append_assoc, List.append_assoc, List.append_assoc]
  rw [List.set_append_right _ _ (by simp; omega), List.set_append_right _ _ (by simp; omega)]
  have e3 : o + k - (xs.take o).length - (ys.take k).length = 0 := by simp; omega
  rw [e3, List.drop_eq_getElem_cons (show o + k < xs.length by omega), List.set_cons_zero, List.singleton_append]
  rfl
theorem lput_ok {xs ys : List Nat} {o : Nat} (h : BlockP xs) (hy : ∀ x ∈ ys, x < 256) (ho : o + ys.length ≤ 64) : BlockP (lput xs o ys) := ⟨by rw [lput_len (by rw [h.1]; exact ho)]; exact h.1, lput_lt h.2 hy⟩
theorem headB_ok {t k n : Nat} : BlockP (headB t k n) := ⟨headB_len, headB_lt⟩
theorem head_sets (t k n : Nat) : (((zeroB.set 0 1).set 1 (k % 256)).set 2 (t % 256)).set 3 (n % 256) = headB t k n := rfl
def lifeL (d : Dk) : Nat → Nat
  | 0 => 0
  | k + 1 => match tk d ((k : Nat) : Int) with
    | some (g, _, _) => max (lifeL d k) g.life
    | none => lifeL d k
theorem lifeL_none {d : Dk} {k : Nat} (h : tk d ((k : Nat) : Int) = none) : lifeL d (k + 1) = lifeL d k := by simp only [lifeL, h]
theorem lifeL_some {d : Dk} {k : Nat} {g : Hd} {j : Nat} {dt : List Nat} (h : tk d ((k : Nat) : Int) = some (g, j, dt)) : lifeL d (k + 1) = max (lifeL d k) g.life := by simp only [lifeL, h]
theorem lput_nil (xs : List Nat) (o : Nat) : lput xs o [] = xs := by simp [lput]
set_option maxHeartbeats 800000 in
theorem rbytes_ (w : World) {h : Hd} {k : Nat} {v : Value} {dt : List Nat} (hv : SU8s w v dt) (hl : dt.length ≤ 48) (hb : ∀ x ∈ dt, x < 256) (hn : h.number ≤ 9223372036854775807) (hlf : h.life ≤ 9223372036854775807) (hf : h.first ≤ 9223372036854775807) :
    Calls Try.prog 62 #[.agg (pcC h k v)] w (Ret fun r w' => Ext w w' ∧ r = .agg (blkV (pieceB h.total h.number h.life h.first dt k))) := by
  refine calls_E (args := [.agg #[.int .i64 ((k : Nat) : Int), .int .i64 ((h.total : Nat) : Int), .int .i64 ((h.number : Nat) : Int), .int .i64 ((h.life : Nat) : Int), .int .i64 ((h.first : Nat) : Int), v]]) 73 Try.func62 rfl rfl (by simp) ?_
  have hE : Ext w w := Upd.refl w
  refine E.seq ?_
  refine E.regionP rfl ?_
  refine R.box rfl nofun ?_
  intro b1 w1 hb1 hx1 hB1
  replace hb1 := Nat.le_trans hE.size hb1
  replace hv := hv.ext hx1
  replace hE := hE.ext hx1
  replace hB1 : Blk _ b1 120 #[.int .i64 ((k : Nat) : Int), .int .i64 ((h.total : Nat) : Int), .int .i64 ((h.number : Nat) : Int), .int .i64 ((h.life : Nat) : Int), .int .i64 ((h.first : Nat) : Int), v] := hB1
  refine R.alloc t26 nofun ?_
  intro b2 w2 hb2 hx2 hB2
  replace hb2 := Nat.le_trans hE.size hb2
  replace hv := hv.ext hx2
  replace hB1 := hB1.ext hx2
  replace hE := hE.ext hx2
  replace hB2 : Blk _ b2 26 (Array.replicate 64 (.int .u8 0)) := hB2
  rw [← zeroV] at hB2
  refine R.nil ?_
  refine E.seq ?_
  refine E.regionP rfl ?_
  refine R.alloc t26 nofun ?_
  intro b3 w3 hb3 hx3 hB3
  have ne2_3 : b2 ≠ b3 := by have := hB2.lt; omega
  replace hb3 := Nat.le_trans hE.size hb3
  replace hv := hv.ext hx3
  replace hB1 := hB1.ext hx3
  replace hB2 := hB2.ext hx3
  replace hE := hE.ext hx3
  replace hB3 : Blk _ b3 26 (Array.replicate 64 (.int .u8 0)) := hB3
  rw [← zeroV] at hB3
  refine R.nil ?_
  refine E.seq ?_
  refine E.regionW (fun c x => x < w3.heap.size ∧ (c = false → x ≠ b3)) []  mixed rfl (by kernel_rfl) ?_
  intro w4 hx4 hh4
  replace hv := hv.ext hx4
  replace hB1 := hB1.ext hx4
  replace hB2 := hB2.ext hx4
  replace hB3 := hB3.ext hx4
  replace hE := hE.ext hx4
  have hEs : Ext w4 w4 := Upd.refl _
  have hS0 := hx4.size
  have hSB : ∀ b, b < w4.heap.size → b < w3.heap.size ∧ (true = false → (fun x => x ≠ b3) b) := fun b hb => ⟨by rw [hh4] at hb; exact hb, nofun⟩
  have hSA : ∀ b, b < w4.heap.size → (fun x => x ≠ b3) b → b < w3.heap.size ∧ (false = false → (fun x => x ≠ b3) b) := fun b hb h => ⟨by rw [hh4] at hb; exact hb, fun _ => h⟩
  have hvs := hv
  have hB1s := hB1
  have hB2s := hB2
  have hB3s := hB3
  refine R.fld fa120_0 rfl ?_
  refine R.loadB t3 hB1 rfl rfl rfl (hSA b1 hB1s.lt (hB1s.ne hB3s (by decide))) ?_
  refine R.toU8 (n := k) Try.underlying3 Try.underlying5 rfl ?_
  refine R.fld fa120_1 rfl ?_
  refine R.loadB t3 hB1 rfl rfl rfl (hSA b1 hB1s.lt (hB1s.ne hB3s (by decide))) ?_
  refine R.toU8 (n := h.total) Try.underlying3 Try.underlying5 rfl ?_
  refine R.fld fa120_5 rfl ?_
  refine R.loadB t55 hB1 rfl rfl rfl (hSA b1 hB1s.lt (hB1s.ne hB3s (by decide))) ?_
  refine R.len Try.underlying55 hv.row rfl ?_
  refine R.toU8 (n := dt.length) Try.underlying3 Try.underlying5 rfl ?_
  refine R.ixA (m := 0) Try.underlying26 t5 rfl rfl (by first | omega | decide) ?_
  refine R.store (i := 0 + 0) t5 hB3 rfl rfl rfl (by rw [blkV_size (zeroB_ok).1]; first | omega | decide) (fun _ h => h.2 rfl rfl) ?_
  intro w5 hU5 hs5 hN5
  have hp5 : BlockP (zeroB.set 0 1) := blk_set zeroB_ok (by decide)
  replace hv := hv.upT hU5 hB3 (by decide)
  replace hB1 := hB1.upT hU5 hB3 (by decide)
  replace hB2 := hB2.up hU5 (fun h => ne2_3 h)
  replace hE := hE.own hU5 hb3
  replace hB3 : Blk w5 b3 26 (blkV (zeroB.set 0 1)) := by rw [← blkV_set]; exact hN5
  clear hN5
  refine R.ixA (m := 1) Try.underlying26 t5 rfl rfl (by first | omega | decide) ?_
  refine R.store (i := 0 + 1) t5 hB3 rfl rfl rfl (by rw [blkV_size (hp5).1]; first | omega | decide) (fun _ h => h.2 rfl rfl) ?_
  intro w6 hU6 hs6 hN6
  have hp6 : BlockP (((zeroB.set 0 1)).set 1 (k % 256)) := blk_set hp5 (Nat.mod_lt _ (show 0 < 256 by decide))
  replace hv := hv.upT hU6 hB3 (by decide)
  replace hB1 := hB1.upT hU6 hB3 (by decide)
  replace hB2 := hB2.up hU6 (fun h => ne2_3 h)
  replace hE := hE.own hU6 hb3
  replace hB3 : Blk w6 b3 26 (blkV (((zeroB.set 0 1)).set 1 (k % 256))) := by rw [← blkV_set]; exact hN6
  clear hN6
  refine R.ixA (m := 2) Try.underlying26 t5 rfl rfl (by first | omega | decide) ?_
  refine R.store (i := 0 + 2) t5 hB3 rfl rfl rfl (by rw [blkV_size (hp6).1]; first | omega | decide) (fun _ h => h.2 rfl rfl) ?_
  intro w7 hU7 hs7 hN7
  have hp7 : BlockP (((((zeroB.set 0 1)).set 1 (k % 256))).set 2 (h.total % 256)) := blk_set hp6 (Nat.mod_lt _ (show 0 < 256 by decide))
  replace hv := hv.upT hU7 hB3 (by decide)
  replace hB1 := hB1.upT hU7 hB3 (by decide)
  replace hB2 := hB2.up hU7 (fun h => ne2_3 h)
  replace hE := hE.own hU7 hb3
  replace hB3 : Blk w7 b3 26 (blkV (((((zeroB.set 0 1)).set 1 (k % 256))).set 2 (h.total % 256))) := by rw [← blkV_set]; exact hN7
  clear hN7
  refine R.ixA (m := 3) Try.underlying26 t5 rfl rfl (by first | omega | decide) ?_
  refine R.store (i := 0 + 3) t5 hB3 rfl rfl rfl (by rw [blkV_size (hp7).1]; first | omega | decide) (fun _ h => h.2 rfl rfl) ?_
  intro w8 hU8 hs8 hN8
  have hp8 : BlockP (((((((zeroB.set 0 1)).set 1 (k % 256))).set 2 (h.total % 256))).set 3 (dt.length % 256)) := blk_set hp7 (Nat.mod_lt _ (show 0 < 256 by decide))
  replace hv := hv.upT hU8 hB3 (by decide)
  replace hB1 := hB1.upT hU8 hB3 (by decide)
  replace hB2 := hB2.up hU8 (fun h => ne2_3 h)
  replace hE := hE.own hU8 hb3
  replace hB3 : Blk w8 b3 26 (blkV (((((((zeroB.set 0 1)).set 1 (k % 256))).set 2 (h.total % 256))).set 3 (dt.length % 256))) := by rw [← blkV_set]; exact hN8
  clear hN8
  rw [head_sets _ _ _] at hB3
  refine R.nil ?_
  refine E.seq ?_
  refine E.forget [(1, .pointer (some ⟨b1, 0, none⟩)), (2, .pointer (some ⟨b2, 0, none⟩)), (3, .pointer (some ⟨b3, 0, none⟩))] ⟨rfl, rfl, rfl, trivial⟩ (fun e => ?_)
  refine E.regionW allS [] mixed rfl (by kernel_rfl) ?_
  intro w9 hx9 hh9
  replace hv := hv.ext hx9
  replace hB1 := hB1.ext hx9
  replace hB2 := hB2.ext hx9
  replace hB3 := hB3.ext hx9
  replace hE := hE.ext hx9
  refine R.fld fa120_2 rfl ?_
  refine R.loadB t3 hB1 rfl rfl rfl trivial ?_
  refine R.fld fa120_3 rfl ?_
  refine R.loadB t3 hB1 rfl rfl rfl trivial ?_
  refine R.fld fa120_4 rfl ?_
  refine R.loadB t3 hB1 rfl rfl rfl trivial ?_
  refine R.assign ?_
  refine R.assign ?_
  refine R.assign ?_
  refine R.nil ?_
  refine E.seq ?_
  refine E.seq ?_
  refine E.regionP rfl ?_
  refine R.assign ?_
  refine R.nil ?_
  refine E.block ?_
  refine E.loop (fun n e wr => ∃ (c : Nat), n = 4 - c ∧ c ≤ 4 ∧ SU8s wr v dt ∧ Blk wr b1 120 #[.int .i64 ((k : Nat) : Int), .int .i64 ((h.total : Nat) : Int), .int .i64 ((h.number : Nat) : Int), .int .i64 ((h.life : Nat) : Int), .int .i64 ((h.first : Nat) : Int), v] ∧ Blk wr b2 26 (blkV zeroB) ∧ Blk wr b3 26 (blkV ((bstep (headB h.total k dt.length) h.number h.life h.first c))) ∧ Ext w wr ∧ Has e [(1, .pointer (some ⟨b1, 0, none⟩)), (2, .pointer (some ⟨b2, 0, none⟩)), (3, .pointer (some ⟨b3, 0, none⟩)), (4, .int .i64 ((dv h.number c : Nat) : Int)), (5, .int .i64 ((dv h.life c : Nat) : Int)), (6, .int .i64 ((dv h.first c : Nat) : Int)), (7, .int .i64 ((3 : Int) - ((c : Nat) : Int)))]) (4) ?_ ?_
  · exact ⟨0, rfl, by omega, hv, hB1, hB2, hB3, hE, rfl, rfl, rfl, rfl, rfl, rfl, rfl, trivial⟩
  · rintro n e wr ⟨c, rfl, hc, hv, hB1, hB2, hB3, hE, hH⟩
    obtain ⟨e, rfl⟩ := hH.ex
    clear hH
    refine E.seq ?_
    refine E.seq ?_
    refine E.regionP rfl ?_
    refine R.move ?_
    refine R.geq (b := decide ((((0 : Nat) : Int)) ≤ ((3 : Int) - ((c : Nat) : Int)))) rfl rfl rfl ?_
    refine R.nil ?_
    refine E.cond (b := decide ((((0 : Nat) : Int)) ≤ ((3 : Int) - ((c : Nat) : Int)))) rfl (fun hc30 => ?_) (fun hc30 => ?_)
    · replace hc30 := dT hc30
      refine E.skip ?_
      refine E.seq ?_
      refine E.block ?_
      refine E.seq ?_
      refine E.regionP rfl ?_
      refine R.move ?_
      refine R.addV (m := ((4 : Nat) : Int)) (n := (3 : Int) - ((c : Nat) : Int)) (v := ((7 - c : Nat) : Int)) rfl rfl (by omega) (by omega) (by omega) ?_
      refine R.move ?_
      refine R.addV (m := ((8 : Nat) : Int)) (n := (3 : Int) - ((c : Nat) : Int)) (v := ((11 - c : Nat) : Int)) rfl rfl (by omega) (by omega) (by omega) ?_
      refine R.move ?_
      refine R.addV (m := ((12 : Nat) : Int)) (n := (3 : Int) - ((c : Nat) : Int)) (v := ((15 - c : Nat) : Int)) rfl rfl (by omega) (by omega) (by omega) ?_
      refine R.move ?_
      refine R.remN (m := (dv h.number c)) (n := 256) rfl rfl (by omega) ?_
      refine R.toU8 (n := (dv h.number c) % 256) Try.underlying3 Try.underlying5 rfl ?_
      refine R.move ?_
      refine R.remN (m := (dv h.life c)) (n := 256) rfl rfl (by omega) ?_
      refine R.toU8 (n := (dv h.life c) % 256) Try.underlying3 Try.underlying5 rfl ?_
      refine R.move ?_
      refine R.remN (m := (dv h.first c)) (n := 256) rfl rfl (by omega) ?_
      refine R.toU8 (n := (dv h.first c) % 256) Try.underlying3 Try.underlying5 rfl ?_
      refine R.ixA (m := 7 - c) Try.underlying26 t5 rfl rfl (by first | omega | decide) ?_
      refine R.store (i := 0 + (7 - c)) t5 hB3 rfl rfl rfl (by rw [blkV_size ((bstep_ok headB_ok _ _ _ c)).1]; first | omega | decide) nofun ?_
      intro w10 hU10 hs10 hN10
      have hp10 : BlockP (((bstep (headB h.total k dt.length) h.number h.life h.first c)).set (7 - c) (((dv h.number c) % 256) % 256)) := blk_set (bstep_ok headB_ok _ _ _ c) (by first | exact Nat.mod_lt _ (show 0 < 256 by decide) | exact getD_lt hb _)
      replace hv := hv.upT hU10 hB3 (by decide)
      replace hB1 := hB1.upT hU10 hB3 (by decide)
      replace hB2 := hB2.up hU10 (fun h => ne2_3 h)
      replace hE := hE.own hU10 hb3
      replace hB3 : Blk w10 b3 26 (blkV (((bstep (headB h.total k dt.length) h.number h.life h.first c)).set (7 - c) (((dv h.number c) % 256) % 256))) := by rw [← blkV_set]; exact hN10
      clear hN10
      refine R.ixA (m := 11 - c) Try.underlying26 t5 rfl rfl (by first | omega | decide) ?_
      refine R.store (i := 0 + (11 - c)) t5 hB3 rfl rfl rfl (by rw [blkV_size (hp10).1]; first | omega | decide) nofun ?_
      intro w11 hU11 hs11 hN11
      have hp11 : BlockP (((((bstep (headB h.total k dt.length) h.number h.life h.first c)).set (7 - c) (((dv h.number c) % 256) % 256))).set (11 - c) (((dv h.life c) % 256) % 256)) := blk_set hp10 (Nat.mod_lt _ (show 0 < 256 by decide))
      replace hv := hv.upT hU11 hB3 (by decide)
      replace hB1 := hB1.upT hU11 hB3 (by decide)
      replace hB2 := hB2.up hU11 (fun h => ne2_3 h)
      replace hE := hE.own hU11 hb3
      replace hB3 : Blk w11 b3 26 (blkV (((((bstep (headB h.total k dt.length) h.number h.life h.first c)).set (7 - c) (((dv h.number c) % 256) % 256))).set (11 - c) (((dv h.life c) % 256) % 256))) := by rw [← blkV_set]; exact hN11
      clear hN11
      refine R.ixA (m := 15 - c) Try.underlying26 t5 rfl rfl (by first | omega | decide) ?_
      refine R.store (i := 0 + (15 - c)) t5 hB3 rfl rfl rfl (by rw [blkV_size (hp11).1]; first | omega | decide) nofun ?_
      intro w12 hU12 hs12 hN12
      have hp12 : BlockP (((((((bstep (headB h.total k dt.length) h.number h.life h.first c)).set (7 - c) (((dv h.number c) % 256) % 256))).set (11 - c) (((dv h.life c) % 256) % 256))).set (15 - c) (((dv h.first c) % 256) % 256)) := blk_set hp11 (Nat.mod_lt _ (show 0 < 256 by decide))
      replace hv := hv.upT hU12 hB3 (by decide)
      replace hB1 := hB1.upT hU12 hB3 (by decide)
      replace hB2 := hB2.up hU12 (fun h => ne2_3 h)
      replace hE := hE.own hU12 hb3
      replace hB3 : Blk w12 b3 26 (blkV (((((((bstep (headB h.total k dt.length) h.number h.life h.first c)).set (7 - c) (((dv h.number c) % 256) % 256))).set (11 - c) (((dv h.life c) % 256) % 256))).set (15 - c) (((dv h.first c) % 256) % 256))) := by rw [← blkV_set]; exact hN12
      clear hN12
      refine R.nil ?_
      refine E.forget [(1, .pointer (some ⟨b1, 0, none⟩)), (2, .pointer (some ⟨b2, 0, none⟩)), (3, .pointer (some ⟨b3, 0, none⟩)), (4, .int .i64 ((dv h.number c : Nat) : Int)), (5, .int .i64 ((dv h.life c : Nat) : Int)), (6, .int .i64 ((dv h.first c : Nat) : Int)), (7, .int .i64 ((3 : Int) - ((c : Nat) : Int)))] ⟨rfl, rfl, rfl, rfl, rfl, rfl, rfl, trivial⟩ (fun e => ?_)
      refine E.regionP rfl ?_
      refine R.move ?_
      refine R.quoN (m := (dv h.number c)) (n := 256) rfl rfl (by omega) (by have := dv_le h.number c; omega) ?_
      refine R.move ?_
      refine R.quoN (m := (dv h.life c)) (n := 256) rfl rfl (by omega) (by have := dv_le h.life c; omega) ?_
      refine R.move ?_
      refine R.quoN (m := (dv h.first c)) (n := 256) rfl rfl (by omega) (by have := dv_le h.first c; omega) ?_
      refine R.assign ?_
      refine R.assign ?_
      refine R.assign ?_
      refine R.nil ?_
      refine E.regionP rfl ?_
      refine R.move ?_
      refine R.subV (m := (3 : Int) - ((c : Nat) : Int)) (n := ((1 : Nat) : Int)) (v := (3 : Int) - ((c + 1 : Nat) : Int)) rfl rfl (by omega) (by omega) (by omega) ?_
      refine R.assign ?_
      refine R.nil ?_
      exact ⟨4 - (c + 1), by omega, c + 1, rfl, by omega, hv, hB1, hB2, (by simp only [Nat.mod_mod] at hB3; exact hB3), hE, rfl, rfl, rfl, rfl, rfl, rfl, rfl, trivial⟩
    · replace hc30 := dF hc30
      refine E.exit ?_
      refine E.seq ?_
      refine E.seq ?_
      obtain rfl : c = 4 := by omega
      refine E.regionP rfl ?_
      refine R.assign ?_
      refine R.nil ?_
      refine E.block ?_
      refine E.loop (fun n e wr => ∃ (k2 : Nat), n = dt.length - k2 ∧ k2 ≤ dt.length ∧ SU8s wr v dt ∧ Blk wr b1 120 #[.int .i64 ((k : Nat) : Int), .int .i64 ((h.total : Nat) : Int), .int .i64 ((h.number : Nat) : Int), .int .i64 ((h.life : Nat) : Int), .int .i64 ((h.first : Nat) : Int), v] ∧ Blk wr b2 26 (blkV zeroB) ∧ Blk wr b3 26 (blkV ((lput (bstep (headB h.total k dt.length) h.number h.life h.first 4) 16 (dt.take k2)))) ∧ Ext w wr ∧ Has e [(1, .pointer (some ⟨b1, 0, none⟩)), (2, .pointer (some ⟨b2, 0, none⟩)), (3, .pointer (some ⟨b3, 0, none⟩)), (8, .int .i64 ((k2 : Nat) : Int))]) (dt.length) ?_ ?_
      · exact ⟨0, rfl, by omega, hv, hB1, hB2, (by rw [show lput (bstep (headB h.total k dt.length) h.number h.life h.first 4) 16 (dt.take 0) = (bstep (headB h.total k dt.length) h.number h.life h.first 4) from lput_nil _ _]; exact hB3), hE, rfl, rfl, rfl, rfl, trivial⟩
      · rintro n e wr ⟨k2, rfl, hk2, hv, hB1, hB2, hB3, hE, hH⟩
        obtain ⟨e, rfl⟩ := hH.ex
        clear hH
        refine E.seq ?_
        refine E.seq ?_
        refine E.regionP rfl ?_
        refine R.move ?_
        refine R.fld fa120_5 rfl ?_
        refine R.loadB t55 hB1 rfl rfl rfl trivial ?_
        refine R.len Try.underlying55 hv.row rfl ?_
        refine R.lss (b := decide ((((k2 : Nat) : Int)) < (((dt.length : Nat) : Int)))) rfl rfl rfl ?_
        refine R.nil ?_
        refine E.cond (b := decide ((((k2 : Nat) : Int)) < (((dt.length : Nat) : Int)))) rfl (fun hc61 => ?_) (fun hc61 => ?_)
        · replace hc61 := dT hc61
          refine E.skip ?_
          refine E.seq ?_
          refine E.block ?_
          refine E.regionP rfl ?_
          refine R.move ?_
          refine R.addN (m := 16) (n := k2) rfl rfl (by omega) ?_
          refine R.fld fa120_5 rfl ?_
          refine R.loadB t55 hB1 rfl rfl rfl trivial ?_
          refine R.move ?_
          refine R.ix (m := k2) Try.underlying55 t5 (by decide) hv.row rfl rfl (by omega) ?_
          refine R.load (u := .int .u8 ((dt.getD k2 0 : Nat) : Int)) t5 hv.row rfl (u8_getD (i := k2) (by first | omega | decide)) rfl (fun _ _ => trivial) ?_
          refine R.ixA (m := 16 + k2) Try.underlying26 t5 rfl rfl (by first | omega | decide) ?_
          refine R.store (i := 0 + (16 + k2)) t5 hB3 rfl rfl rfl (by rw [blkV_size ((lput_ok (bstep_ok headB_ok _ _ _ 4) (fun x hx => hb x (List.mem_of_mem_take hx)) (by simp; omega))).1]; first | omega | decide) nofun ?_
          intro w13 hU13 hs13 hN13
          have hp13 : BlockP (((lput (bstep (headB h.total k dt.length) h.number h.life h.first 4) 16 (dt.take k2))).set (16 + k2) (dt.getD k2 0)) := blk_set (lput_ok (bstep_ok headB_ok _ _ _ 4) (fun x hx => hb x (List.mem_of_mem_take hx)) (by simp; omega)) (by first | exact Nat.mod_lt _ (show 0 < 256 by decide) | exact getD_lt hb _)
          replace hv := hv.upT hU13 hB3 (by decide)
          replace hB1 := hB1.upT hU13 hB3 (by decide)
          replace hB2 := hB2.up hU13 (fun h => ne2_3 h)
          replace hE := hE.own hU13 hb3
          replace hB3 : Blk w13 b3 26 (blkV (((lput (bstep (headB h.total k dt.length) h.number h.life h.first 4) 16 (dt.take k2))).set (16 + k2) (dt.getD k2 0))) := by rw [← blkV_set]; exact hN13
          clear hN13
          refine R.nil ?_
          refine E.forget [(1, .pointer (some ⟨b1, 0, none⟩)), (2, .pointer (some ⟨b2, 0, none⟩)), (3, .pointer (some ⟨b3, 0, none⟩)), (8, .int .i64 ((k2 : Nat) : Int))] ⟨rfl, rfl, rfl, rfl, trivial⟩ (fun e => ?_)
          refine E.regionP rfl ?_
          refine R.move ?_
          refine R.addN (m := k2) (n := 1) rfl rfl (by omega) ?_
          refine R.assign ?_
          refine R.nil ?_
          exact ⟨dt.length - (k2 + 1), by omega, k2 + 1, rfl, by omega, hv, hB1, hB2, (by rw [← lput_step (by omega) (by rw [(bstep_ok headB_ok _ _ _ 4).1]; omega)]; exact hB3), hE, rfl, rfl, rfl, rfl, trivial⟩
        · replace hc61 := dF hc61
          refine E.exit ?_
          refine E.seq ?_
          obtain rfl : k2 = dt.length := by omega
          rw [List.take_length, bstep4] at hB3
          refine E.regionP rfl ?_
          refine R.loadA t26 hB3 rfl (blkV_size (pieceB_ok hl hb).1) rfl trivial ?_
          refine R.storeA t26 hB2 rfl rfl (blkV_size zeroB_ok.1) (blkV_size (pieceB_ok hl hb).1) blkV_ones nofun ?_
          intro w14 hU14 hs14 hN14
          replace hv := hv.upT hU14 hB2 (by decide)
          replace hB1 := hB1.upT hU14 hB2 (by decide)
          replace hB3 := hB3.up hU14 (fun h => ne2_3 h.symm)
          replace hE := hE.own hU14 hb2
          replace hB2 : Blk _ b2 26 (blkV ((pieceB h.total h.number h.life h.first dt k))) := hN14
          refine R.nil ?_
          refine E.ret ?_
          refine retA  t26 hB2 (blkV_size (pieceB_ok hl hb).1) rfl rfl ⟨_, rfl, ?_⟩
          refine ⟨hE, ?_⟩
          rfl
theorem rlife_ (w : World) {rb rd : Value} {r : Dk} (hR : RD w rb rd r) (hbl : r.bl.length ≤ 1000000) : Calls Try.prog 59 #[.agg #[rb, rd, .int .i64 r.pw, .bool r.tr]] w (Ret fun x w' => Ext w w' ∧ x = .int .i64 ((lifeL r r.bl.length : Nat) : Int)) := by
  refine calls_E (args := [.agg #[rb, rd, .int .i64 (r.pw), .bool (r.tr)]]) 30 Try.func59 rfl rfl (by simp) ?_
  have hE : Ext w w := Upd.refl w
  refine E.seq ?_
  refine E.regionP rfl ?_
  refine R.box rfl nofun ?_
  intro b1 w1 hb1 hx1 hB1
  replace hb1 := Nat.le_trans hE.size hb1
  replace hR := hR.ext hx1
  replace hE := hE.ext hx1
  replace hB1 : Blk _ b1 31 #[rb, rd, .int .i64 (r.pw), .bool (r.tr)] := hB1
  refine R.assign ?_
  refine R.nil ?_
  refine E.seq ?_
  refine E.regionP rfl ?_
  refine R.assign ?_
  refine R.nil ?_
  refine E.seq ?_
  refine E.seq ?_
  refine E.regionP rfl ?_
  refine R.assign ?_
  refine R.nil ?_
  refine E.block ?_
  refine E.loop (fun n e wr => ∃ (i : Nat), n = r.bl.length - i ∧ i ≤ r.bl.length ∧ RD wr rb rd r ∧ Blk wr b1 31 #[rb, rd, .int .i64 (r.pw), .bool (r.tr)] ∧ Ext w wr ∧ Has e [(1, .pointer (some ⟨b1, 0, none⟩)), (3, .int .i64 (((lifeL r i) : Nat) : Int)), (4, .int .i64 ((i : Nat) : Int))]) (r.bl.length) ?_ ?_
  · exact ⟨0, rfl, by omega, hR, hB1, hE, rfl, rfl, rfl, trivial⟩
  · rintro n e wr ⟨i, rfl, hi, hR, hB1, hE, hH⟩
    obtain ⟨e, rfl⟩ := hH.ex
    clear hH
    refine E.seq ?_
    refine E.seq ?_
    refine E.regionP rfl ?_
    refine R.move ?_
    refine R.fld fa31_0 rfl ?_
    refine R.loadB t29 hB1 rfl rfl rfl trivial ?_
    refine R.len Try.underlying29 hR.bls.row rfl ?_
    refine R.lss (b := decide ((((i : Nat) : Int)) < (((r.bl.length : Nat) : Int)))) rfl rfl rfl ?_
    refine R.nil ?_
    refine E.cond (b := decide ((((i : Nat) : Int)) < (((r.bl.length : Nat) : Int)))) rfl (fun hc11 => ?_) (fun hc11 => ?_)
    · replace hc11 := dT hc11
      refine E.skip ?_
      refine E.seq ?_
      refine E.block ?_
      refine E.seq ?_
      refine E.regionP rfl ?_
      refine R.loadA t31 hB1 rfl rfl rfl trivial ?_
      refine R.move ?_
      refine R.callE2 ent70 (rtake_ _ hR (by omega)) rfl rfl nofun ?_
      rintro v17 w2 hx2 hT17
      have hE0 := hE
      replace hR := hR.ext hx2
      replace hB1 := hB1.ext hx2
      replace hE := hE.ext hx2
      have hk17 := takeCases (blkO (r.read ((i : Nat) : Int)))
      rcases hk17 with hk17 | ⟨g17, j17, dt17, hk17⟩
      · replace hk17 : tk r ((i : Nat) : Int) = none := hk17
        rw [hk17] at hT17
        replace hT17 : _ = Value.tuple _ := hT17
        subst hT17
        refine R.move ?_
        refine R.extract rfl rfl ?_
        refine R.extract rfl rfl ?_
        refine R.alloc t120 nofun ?_
        intro b5 w3 hb5 hx3 hB5
        replace hb5 := Nat.le_trans hE.size hb5
        replace hR := hR.ext hx3
        replace hB1 := hB1.ext hx3
        replace hE := hE.ext hx3
        replace hB5 : Blk _ b5 120 #[.int .i64 ((0 : Nat) : Int), .int .i64 ((0 : Nat) : Int), .int .i64 ((0 : Nat) : Int), .int .i64 ((0 : Nat) : Int), .int .i64 ((0 : Nat) : Int), .slice none 0 0] := hB5
        refine R.storeA t120 hB5 rfl rfl rfl rfl (ones6 rfl rfl rfl rfl rfl rfl) nofun ?_
        intro w4 hU4 hs4 hN4
        replace hR := hR.upT hU4 hB5 (by decide)
        replace hB1 := hB1.upT hU4 hB5 (by decide)
        replace hE := hE.own hU4 hb5
        replace hB5 : Blk _ b5 120 #[.int .i64 ((0 : Nat) : Int), .int .i64 ((0 : Nat) : Int), .int .i64 ((0 : Nat) : Int), .int .i64 ((0 : Nat) : Int), .int .i64 ((0 : Nat) : Int), .slice none 0 0] := hN4
        clear hN4
        refine R.assign ?_
        refine R.nil ?_
        refine E.seq ?_
        refine E.forget [(1, .pointer (some ⟨b1, 0, none⟩)), (3, .int .i64 (((lifeL r i) : Nat) : Int)), (4, .int .i64 ((i : Nat) : Int)), (5, .pointer (some ⟨b5, 0, none⟩)), (6, .bool (false))] ⟨rfl, rfl, rfl, rfl, rfl, trivial⟩ (fun e => ?_)
        refine E.regionP rfl ?_
        refine R.move ?_
        refine R.move ?_
        refine R.gF rfl rfl rfl ?_
        refine R.gF rfl rfl rfl ?_
        refine R.gF rfl rfl rfl ?_
        refine R.gF rfl rfl rfl ?_
        refine R.pickF rfl ?_
        refine R.nil ?_
        refine E.condF rfl ?_
        refine E.skip ?_
        refine E.regionP rfl ?_
        refine R.move ?_
        refine R.addN (m := i) (n := 1) rfl rfl (by omega) ?_
        refine R.assign ?_
        refine R.nil ?_
        exact ⟨r.bl.length - (i + 1), by omega, i + 1, rfl, by omega, hR, hB1, hE, rfl, (by show Value.int _ _ = _; rw [lifeL_none hk17]), rfl, trivial⟩
      · replace hk17 : tk r ((i : Nat) : Int) = some (g17, j17, dt17) := hk17
        rw [hk17] at hT17
        obtain ⟨u17, rfl, hS17, hF17⟩ := hT17
        replace hF17 := hF17.mono hE0.size
        have htt17 := tk_total hk17
        have hto17 := tk_ok hR.ok hk17
        refine R.move ?_
        refine R.extract rfl rfl ?_
        refine R.extract rfl rfl ?_
        refine R.alloc t120 nofun ?_
        intro b5 w5 hb5 hx5 hB5
        replace hb5 := Nat.le_trans hE.size hb5
        replace hR := hR.ext hx5
        replace hS17 := hS17.ext hx5
        replace hB1 := hB1.ext hx5
        replace hE := hE.ext hx5
        replace hB5 : Blk _ b5 120 #[.int .i64 ((0 : Nat) : Int), .int .i64 ((0 : Nat) : Int), .int .i64 ((0 : Nat) : Int), .int .i64 ((0 : Nat) : Int), .int .i64 ((0 : Nat) : Int), .slice none 0 0] := hB5
        refine R.storeA t120 hB5 rfl rfl rfl rfl (ones6 rfl rfl rfl rfl rfl hS17.one) nofun ?_
        intro w6 hU6 hs6 hN6
        replace hR := hR.upT hU6 hB5 (by decide)
        replace hS17 := hS17.upT hU6 hB5 (by decide)
        replace hB1 := hB1.upT hU6 hB5 (by decide)
        replace hE := hE.own hU6 hb5
        replace hB5 : Blk _ b5 120 #[.int .i64 ((j17 : Nat) : Int), .int .i64 ((g17.total : Nat) : Int), .int .i64 ((g17.number : Nat) : Int), .int .i64 ((g17.life : Nat) : Int), .int .i64 ((g17.first : Nat) : Int), u17] := hN6
        clear hN6
        refine R.assign ?_
        refine R.nil ?_
        refine E.seq ?_
        refine E.forget [(1, .pointer (some ⟨b1, 0, none⟩)), (3, .int .i64 (((lifeL r i) : Nat) : Int)), (4, .int .i64 ((i : Nat) : Int)), (5, .pointer (some ⟨b5, 0, none⟩)), (6, .bool (true))] ⟨rfl, rfl, rfl, rfl, rfl, trivial⟩ (fun e => ?_)
        refine E.regionP rfl ?_
        refine R.move ?_
        refine R.move ?_
        refine R.gT rfl rfl ?_
        refine R.fld fa120_3 rfl ?_
        refine R.gT rfl rfl ?_
        refine R.loadB t3 hB5 rfl rfl rfl trivial ?_
        refine R.gT rfl rfl ?_
        refine R.move ?_
        refine R.gT rfl rfl ?_
        refine R.gtr (b := decide (((((lifeL r i) : Nat) : Int)) < (((g17.life : Nat) : Int)))) rfl rfl rfl ?_
        refine R.pickT rfl ?_
        refine R.nil ?_
        refine E.cond (b := decide (((((lifeL r i) : Nat) : Int)) < (((g17.life : Nat) : Int)))) rfl (fun hc26 => ?_) (fun hc26 => ?_)
        · replace hc26 := dT hc26
          refine E.regionP rfl ?_
          refine R.fld fa120_3 rfl ?_
          refine R.loadB t3 hB5 rfl rfl rfl trivial ?_
          refine R.assign ?_
          refine R.nil ?_
          refine E.forget [(1, .pointer (some ⟨b1, 0, none⟩)), (3, .int .i64 ((g17.life : Nat) : Int)), (4, .int .i64 ((i : Nat) : Int))] ⟨rfl, rfl, rfl, trivial⟩ (fun e => ?_)
          refine E.regionP rfl ?_
          refine R.move ?_
          refine R.addN (m := i) (n := 1) rfl rfl (by omega) ?_
          refine R.assign ?_
          refine R.nil ?_
          exact ⟨r.bl.length - (i + 1), by omega, i + 1, rfl, by omega, hR, hB1, hE, rfl, (by show Value.int _ _ = _; rw [lifeL_some hk17]; congr 1; omega), rfl, trivial⟩
        · replace hc26 := dF hc26
          refine E.skip ?_
          refine E.regionP rfl ?_
          refine R.move ?_
          refine R.addN (m := i) (n := 1) rfl rfl (by omega) ?_
          refine R.assign ?_
          refine R.nil ?_
          exact ⟨r.bl.length - (i + 1), by omega, i + 1, rfl, by omega, hR, hB1, hE, rfl, (by show Value.int _ _ = _; rw [lifeL_some hk17]; congr 1; omega), rfl, trivial⟩
    · replace hc11 := dF hc11
      refine E.exit ?_
      refine E.seq ?_
      refine E.regionP rfl ?_
      refine R.move ?_
      refine R.assign ?_
      refine R.nil ?_
      refine E.ret ?_
      refine ret1 (.int .i64 (((lifeL r i) : Nat) : Int)) rfl rfl ⟨_, rfl, ?_⟩
      refine ⟨hE, ?_⟩
      obtain rfl : i = r.bl.length := by omega
      rfl
end Go.Proofs.Ytlplogplicgfiaa
