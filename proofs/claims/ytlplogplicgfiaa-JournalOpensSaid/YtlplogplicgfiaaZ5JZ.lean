import Derived.Test.YtlplogplicgfiaaZ5JFrame
namespace Go.Proofs.Ytlplogplicgfiaa
open Go Go.RowKit
theorem arr_getD {b : List Nat} (hl : b.length = 64) {i : Nat} (h : i < 64) : (blkV b)[0 + i]? = some (.int .u8 ((b.getD i 0 : Nat) : Int)) := by
  rw [Nat.zero_add, List.getD_eq_getElem?_getD, List.getElem?_eq_getElem (by omega)]; simp [hl, h]
theorem blk_set {b : List Nat} (h : BlockP b) {i v : Nat} (hv : v < 256) : BlockP (b.set i v) := ⟨by rw [List.length_set]; exact h.1, fun x hx => by
  rcases List.mem_or_eq_of_mem_set hx with h1 | h1
  · exact h.2 x h1
  · omega⟩
theorem blkV_set (b : List Nat) (i v : Nat) : (blkV b).setIfInBounds (0 + i) (.int .u8 ((v : Nat) : Int)) = blkV (b.set i v) := by
  rw [Nat.zero_add]
  apply Array.ext'
  simp [List.map_set]
namespace R
variable {P : Program} {ops : Array Oper} {S : Bool → Nat → Prop} {dr : Bool} {B : List Nat} {F : Env → World → Prop} {rest : List Oper} {e : Env} {w : World}
variable {d : Tmp} {od : Option Tmp} {ty : TypeId} {pos : String} {aft : Array Edge}
theorem u8wrap (n : Nat) : IntKind.u8.wrap ((n : Nat) : Int) = ((n % 256 : Nat) : Int) := by
  have h8 : IntKind.u8.bits = 8 := rfl
  simp [IntKind.wrap, h8, IntKind.signed]
theorem addU8 {t t' : TypeId} {x y : Operand} {m n : Nat} (hx : ev e x = .int .u8 ((m : Nat) : Int)) (hy : ev e y = .int .u8 ((n : Nat) : Int))
    (h : wpR P ops S dr (kind B) F rest (upd e d (.int .u8 (((m + n) % 256 : Nat) : Int))) w) : wpR P ops S dr (kind B) F (⟨some d, .binOp .add t x y t', ty, pos, aft, none⟩ :: rest) e w :=
  bin hx hy _ (fun w => by have e := u8wrap (m + n); rw [Int.natCast_add] at e; simp [binOp, Op.intArith, e]) h
end R
def wordK (xs : List Nat) : Nat → Nat
  | 0 => 0
  | k + 1 => 256 * wordK xs k + xs.getD k 0
theorem wordK4 (xs : List Nat) : wordK xs 4 = wordL xs := by simp only [wordK, wordL]; omega
theorem wordK_lt {xs : List Nat} (h : ∀ x ∈ xs, x < 256) : ∀ k, wordK xs k < 256 ^ k
  | 0 => by simp [wordK]
  | k + 1 => by
    have := wordK_lt h k
    have := getD_lt h k
    simp only [wordK, Nat.pow_succ]; omega
theorem getD_drop (xs : List Nat) (a k : Nat) : (xs.drop a).getD k 0 = xs.getD (a + k) 0 := by simp [List.getD_eq_getElem?_getD, List.getElem?_drop]
abbrev pcC (h : Hd) (k : Nat) (v : Value) : Array Value := #[.int .i64 ((k : Nat) : Int), .int .i64 ((h.total : Nat) : Int), .int .i64 ((h.number : Nat) : Int), .int .i64 ((h.life : Nat) : Int), .int .i64 ((h.first : Nat) : Int), v]
def RTRes (w w' : World) (r : Value) : Option (Hd × Nat × List Nat) → Prop
  | none => r = .tuple #[.agg (pcC ⟨0, 0, 0, 0⟩ 0 (.slice none 0 0)), .bool false]
  | some (h, k, dt) => ∃ v, r = .tuple #[.agg (pcC h k v), .bool true] ∧ SU8s w' v dt ∧ Fresh w v
theorem takeL_bad {b : List Nat} (h : b.getD 0 0 ≠ 1 ∨ b.getD 2 0 ≤ b.getD 1 0 ∨ 84 < b.getD 2 0 ∨ b.getD 3 0 < leastB b ∨ 48 < b.getD 3 0 ∨ wordL (b.drop 8) < 1 ∨ wordL (b.drop 12) < 1 ∨ wordL (b.drop 4) < wordL (b.drop 12)) : takeL b = none := by
  unfold takeL; rw [if_pos (by unfold badB; exact decide_eq_true h)]
theorem takeL_tail {b : List Nat} {k : Nat} (hl : b.length = 64) (h1 : b.getD 3 0 ≤ k) (h2 : k < 48) (h3 : b.getD (16 + k) 0 ≠ 0) : takeL b = none := by
  unfold takeL
  split
  · rfl
  · rw [if_pos]
    refine List.any_eq_true.2 ⟨b.getD (16 + k) 0, ?_, by simpa using h3⟩
    have e9 : b.getD (16 + k) 0 = b[16 + k]'(by omega) := by rw [List.getD_eq_getElem?_getD, List.getElem?_eq_getElem (by omega)]; rfl
    rw [e9]
    generalize b.getD 3 0 = q at h1
    refine List.mem_iff_getElem.2 ⟨k - q, by simp; omega, ?_⟩
    simp only [List.getElem_drop]
    congr 1; omega
theorem any_tail {b : List Nat} {q : Nat} (hl : b.length = 64) (hz : ∀ j, q ≤ j → j < 48 → b.getD (16 + j) 0 = 0) : ¬ (b.drop (16 + q)).any (fun c => decide (c ≠ 0)) = true := by
  intro hh
  obtain ⟨x, hx, hx0⟩ := List.any_eq_true.1 hh
  obtain ⟨i, hi, rfl⟩ := List.mem_iff_getElem.1 hx
  simp only [List.length_drop] at hi
  have := hz (q + i) (by omega) (by omega)
  have e9 : b.getD (16 + (q + i)) 0 = b[16 + (q + i)]'(by omega) := by rw [List.getD_eq_getElem?_getD, List.getElem?_eq_getElem (by omega)]; rfl
  rw [e9] at this
  simp only [List.getElem_drop] at hx0
  have e8 : b[16 + q + i]'(by omega) = b[16 + (q + i)]'(by omega) := by congr 1; omega
  rw [e8, this] at hx0
  simp at hx0
theorem takeL_good {b : List Nat} (hl : b.length = 64) (h : ¬ (b.getD 0 0 ≠ 1 ∨ b.getD 2 0 ≤ b.getD 1 0 ∨ 84 < b.getD 2 0 ∨ b.getD 3 0 < leastB b ∨ 48 < b.getD 3 0 ∨ wordL (b.drop 8) < 1 ∨ wordL (b.drop 12) < 1 ∨ wordL (b.drop 4) < wordL (b.drop 12))) (hz : ∀ j, b.getD 3 0 ≤ j → j < 48 → b.getD (16 + j) 0 = 0) : takeL b = some (headL b, b.getD 1 0, (b.drop 16).take (b.getD 3 0)) := by
  unfold takeL
  rw [if_neg (by unfold badB; rw [decide_eq_false h]; decide), if_neg (any_tail hl hz)]
theorem take_min {b : List Nat} {k n : Nat} (h : n ≤ k) : (b.take (min k n)) = b.take n := by rw [Nat.min_eq_right h]
theorem bld120_0_1_2_3_4 {x0 x1 x2 x3 x4 : Value} (hx0 : x0.oneCell' = true) (hx1 : x1.oneCell' = true) (hx2 : x2.oneCell' = true) (hx3 : x3.oneCell' = true) (hx4 : x4.oneCell' = true) (w : World) : (Instr.build 120 #[(0, x0), (1, x1), (2, x2), (3, x3), (4, x4)]).run Try.prog w = .ok (.agg #[x0, x1, x2, x3, x4, (.slice none 0 0)]) w := by
  simp [Instr.build, t120.zero, underlying, Try.underlying120, Instr.fill, cells_agg, t3.sizeOf, cells_one hx0, cells_one hx1, cells_one hx2, cells_one hx3, cells_one hx4]
theorem bld120_e (w : World) : (Instr.build 120 #[]).run Try.prog w = .ok (.agg #[(.int .i64 0), (.int .i64 0), (.int .i64 0), (.int .i64 0), (.int .i64 0), (.slice none 0 0)]) w := by
  simp [Instr.build, t120.zero, underlying, Try.underlying120, Instr.fill, cells_agg]
theorem rword_ (w : World) {b : List Nat} {a n : Nat} (hb : BlockP b) (ha : a ≤ 60) (hn : wordL (b.drop a) = n) : Calls Try.prog 75 #[.agg (blkV b), .int .i64 ((a : Nat) : Int)] w (Ret fun r w' => Ext w w' ∧ r = .int .i64 ((n : Nat) : Int)) := by
  subst hn
  have hdr : ∀ x ∈ b.drop a, x < 256 := fun x hx => hb.2 x (List.mem_of_mem_drop hx)
  refine calls_E (args := [.agg (blkV b), .int .i64 ((a : Nat) : Int)]) 22 Try.func75 rfl rfl (by simp) ?_
  have hE : Ext w w := Upd.refl w
  refine E.seq ?_
  refine E.regionP rfl ?_
  refine R.box rfl nofun ?_
  intro b2 w1 hb2 hx1 hB2
  replace hb2 := Nat.le_trans hE.size hb2
  replace hE := hE.ext hx1
  replace hB2 : Blk _ b2 26 (blkV b) := hB2
  refine R.assign ?_
  refine R.nil ?_
  refine E.seq ?_
  refine E.regionP rfl ?_
  refine R.assign ?_
  refine R.nil ?_
  refine E.seq ?_
  refine E.seq ?_
  refine E.regionP rfl ?_
  refine R.move ?_
  refine R.assign ?_
  refine R.nil ?_
  refine E.block ?_
  refine E.loop (fun n e wr => ∃ (k : Nat), n = 4 - k ∧ k ≤ 4 ∧ Blk wr b2 26 (blkV b) ∧ Ext w wr ∧ Has e [(1, .int .i64 ((a : Nat) : Int)), (2, .pointer (some ⟨b2, 0, none⟩)), (5, .int .i64 ((wordK (b.drop a) k : Nat) : Int)), (6, .int .i64 ((a + k : Nat) : Int))]) (4) ?_ ?_
  · exact ⟨0, rfl, by omega, hB2, hE, rfl, rfl, rfl, rfl, trivial⟩
  · rintro n e wr ⟨k, rfl, hk, hB2, hE, hH⟩
    obtain ⟨e, rfl⟩ := hH.ex
    clear hH
    refine E.seq ?_
    refine E.seq ?_
    refine E.regionP rfl ?_
    refine R.move ?_
    refine R.move ?_
    refine R.addN (m := a) (n := 4) rfl rfl (by omega) ?_
    refine R.lss (b := decide ((((a + k : Nat) : Int)) < (((a + 4 : Nat) : Int)))) rfl rfl rfl ?_
    refine R.nil ?_
    refine E.cond (b := decide ((((a + k : Nat) : Int)) < (((a + 4 : Nat) : Int)))) rfl (fun hc11 => ?_) (fun hc11 => ?_)
    · replace hc11 := dT hc11
      have hwk := wordK_lt hdr k
      have hp4 : 256 ^ k ≤ 256 ^ 4 := Nat.pow_le_pow_right (by decide) (by omega)
      have hg := getD_lt hb.2 (a + k)
      refine E.skip ?_
      refine E.seq ?_
      refine E.block ?_
      refine E.regionP rfl ?_
      refine R.move ?_
      refine R.mulN (m := 256) (n := (wordK (b.drop a) k)) rfl rfl (by omega) ?_
      refine R.move ?_
      refine R.ixA (m := a + k) Try.underlying26 t5 rfl rfl (by first | omega | decide) ?_
      refine R.loadB (i := 0 + (a + k)) (u := .int .u8 (((b.getD (a + k) 0) : Nat) : Int)) t5 hB2 rfl (arr_getD (hb).1 (by first | omega | decide)) rfl trivial ?_
      refine R.toI (n := (b.getD (a + k) 0)) Try.underlying5 Try.underlying3 rfl (by omega) ?_
      refine R.addN (m := (256 * (wordK (b.drop a) k))) (n := ((b.getD (a + k) 0))) rfl rfl (by omega) ?_
      refine R.assign ?_
      refine R.nil ?_
      refine E.forget [(1, .int .i64 ((a : Nat) : Int)), (2, .pointer (some ⟨b2, 0, none⟩)), (5, .int .i64 (((256 * (wordK (b.drop a) k)) + ((b.getD (a + k) 0)) : Nat) : Int)), (6, .int .i64 ((a + k : Nat) : Int))] ⟨rfl, rfl, rfl, rfl, trivial⟩ (fun e => ?_)
      refine E.regionP rfl ?_
      refine R.move ?_
      refine R.addN (m := (a + k)) (n := 1) rfl rfl (by omega) ?_
      refine R.assign ?_
      refine R.nil ?_
      exact ⟨4 - (k + 1), by omega, k + 1, rfl, by omega, hB2, hE, rfl, rfl, (by show Value.int _ _ = _; simp only [wordK, getD_drop]), (by show Value.int _ _ = _; congr 1), trivial⟩
    · replace hc11 := dF hc11
      refine E.exit ?_
      refine E.seq ?_
      refine E.regionP rfl ?_
      refine R.move ?_
      refine R.assign ?_
      refine R.nil ?_
      refine E.ret ?_
      refine ret1 (.int .i64 ((wordK (b.drop a) k : Nat) : Int)) rfl rfl ⟨_, rfl, ?_⟩
      refine ⟨hE, ?_⟩
      obtain rfl : k = 4 := by omega
      rw [wordK4]
theorem rlike_ (w : World) {h g : Hd} {i k : Nat} {u v : Value} : Calls Try.prog 76 #[.agg (pcC h i u), .agg (pcC g k v)] w (Ret fun r w' => Ext w w' ∧ r = .bool (decide (h = g))) := by
  refine calls_E (args := [.agg #[.int .i64 ((i : Nat) : Int), .int .i64 ((h.total : Nat) : Int), .int .i64 ((h.number : Nat) : Int), .int .i64 ((h.life : Nat) : Int), .int .i64 ((h.first : Nat) : Int), u], .agg #[.int .i64 ((k : Nat) : Int), .int .i64 ((g.total : Nat) : Int), .int .i64 ((g.number : Nat) : Int), .int .i64 ((g.life : Nat) : Int), .int .i64 ((g.first : Nat) : Int), v]]) 31 Try.func76 rfl rfl (by simp) ?_
  have hE : Ext w w := Upd.refl w
  refine E.seq ?_
  refine E.regionP rfl ?_
  refine R.box rfl nofun ?_
  intro b2 w1 hb2 hx1 hB2
  replace hb2 := Nat.le_trans hE.size hb2
  replace hE := hE.ext hx1
  replace hB2 : Blk _ b2 120 #[.int .i64 ((i : Nat) : Int), .int .i64 ((h.total : Nat) : Int), .int .i64 ((h.number : Nat) : Int), .int .i64 ((h.life : Nat) : Int), .int .i64 ((h.first : Nat) : Int), u] := hB2
  refine R.box rfl nofun ?_
  intro b3 w2 hb3 hx2 hB3
  have ne2_3 : b2 ≠ b3 := by have := hB2.lt; omega
  replace hb3 := Nat.le_trans hE.size hb3
  replace hB2 := hB2.ext hx2
  replace hE := hE.ext hx2
  replace hB3 : Blk _ b3 120 #[.int .i64 ((k : Nat) : Int), .int .i64 ((g.total : Nat) : Int), .int .i64 ((g.number : Nat) : Int), .int .i64 ((g.life : Nat) : Int), .int .i64 ((g.first : Nat) : Int), v] := hB3
  refine R.assign ?_
  refine R.nil ?_
  refine E.seq ?_
  refine E.regionP rfl ?_
  refine R.fld fa120_1 rfl ?_
  refine R.loadB t3 hB2 rfl rfl rfl trivial ?_
  refine R.fld fa120_1 rfl ?_
  refine R.loadB t3 hB3 rfl rfl rfl trivial ?_
  refine R.eql (b := decide ((((h.total : Nat) : Int)) = (((g.total : Nat) : Int)))) rfl rfl rfl ?_
  refine R.move ?_
  have hg10 := Bool.eq_false_or_eq_true (decide ((((h.total : Nat) : Int)) = (((g.total : Nat) : Int))))
  rcases hg10 with hg10 | hg10
  · have hg10q := hg10
    replace hg10 := dT hg10
    refine R.gT rfl (congrArg Value.bool hg10q) ?_
    refine R.fld fa120_2 rfl ?_
    refine R.gT rfl (congrArg Value.bool hg10q) ?_
    refine R.loadB t3 hB2 rfl rfl rfl trivial ?_
    refine R.gT rfl (congrArg Value.bool hg10q) ?_
    refine R.fld fa120_2 rfl ?_
    refine R.gT rfl (congrArg Value.bool hg10q) ?_
    refine R.loadB t3 hB3 rfl rfl rfl trivial ?_
    refine R.gT rfl (congrArg Value.bool hg10q) ?_
    refine R.eql (b := decide ((((h.number : Nat) : Int)) = (((g.number : Nat) : Int)))) rfl rfl rfl ?_
    refine R.pickT (congrArg Value.bool hg10q) ?_
    refine R.move ?_
    have hg17 := Bool.eq_false_or_eq_true (decide ((((h.number : Nat) : Int)) = (((g.number : Nat) : Int))))
    rcases hg17 with hg17 | hg17
    · have hg17q := hg17
      replace hg17 := dT hg17
      refine R.gT rfl (congrArg Value.bool hg17q) ?_
      refine R.fld fa120_3 rfl ?_
      refine R.gT rfl (congrArg Value.bool hg17q) ?_
      refine R.loadB t3 hB2 rfl rfl rfl trivial ?_
      refine R.gT rfl (congrArg Value.bool hg17q) ?_
      refine R.fld fa120_3 rfl ?_
      refine R.gT rfl (congrArg Value.bool hg17q) ?_
      refine R.loadB t3 hB3 rfl rfl rfl trivial ?_
      refine R.gT rfl (congrArg Value.bool hg17q) ?_
      refine R.eql (b := decide ((((h.life : Nat) : Int)) = (((g.life : Nat) : Int)))) rfl rfl rfl ?_
      refine R.pickT (congrArg Value.bool hg17q) ?_
      refine R.move ?_
      have hg24 := Bool.eq_false_or_eq_true (decide ((((h.life : Nat) : Int)) = (((g.life : Nat) : Int))))
      rcases hg24 with hg24 | hg24
      · have hg24q := hg24
        replace hg24 := dT hg24
        refine R.gT rfl (congrArg Value.bool hg24q) ?_
        refine R.fld fa120_4 rfl ?_
        refine R.gT rfl (congrArg Value.bool hg24q) ?_
        refine R.loadB t3 hB2 rfl rfl rfl trivial ?_
        refine R.gT rfl (congrArg Value.bool hg24q) ?_
        refine R.fld fa120_4 rfl ?_
        refine R.gT rfl (congrArg Value.bool hg24q) ?_
        refine R.loadB t3 hB3 rfl rfl rfl trivial ?_
        refine R.gT rfl (congrArg Value.bool hg24q) ?_
        refine R.eql (b := decide ((((h.first : Nat) : Int)) = (((g.first : Nat) : Int)))) rfl rfl rfl ?_
        refine R.pickT (congrArg Value.bool hg24q) ?_
        refine R.assign ?_
        refine R.nil ?_
        refine E.ret ?_
        refine ret1 (.bool (decide ((((h.first : Nat) : Int)) = (((g.first : Nat) : Int))))) rfl rfl ⟨_, rfl, ?_⟩
        refine ⟨hE, ?_⟩
        congr 1
        exact decide_eq_decide.2 ⟨fun e => hd_eq.2 (by omega), fun e => by have := hd_eq.1 e; omega⟩
      · have hg24q := hg24
        replace hg24 := dF hg24
        refine R.gF rfl (congrArg Value.bool hg24q) rfl ?_
        refine R.gF rfl (congrArg Value.bool hg24q) rfl ?_
        refine R.gF rfl (congrArg Value.bool hg24q) rfl ?_
        refine R.gF rfl (congrArg Value.bool hg24q) rfl ?_
        refine R.gF rfl (congrArg Value.bool hg24q) rfl ?_
        refine R.pickF (congrArg Value.bool hg24q) ?_
        refine R.assign ?_
        refine R.nil ?_
        refine E.ret ?_
        refine ret1 (.bool (false)) rfl rfl ⟨_, rfl, ?_⟩
        refine ⟨hE, ?_⟩
        rw [decide_eq_false (fun e => by have := hd_eq.1 e; omega)]
    · have hg17q := hg17
      replace hg17 := dF hg17
      refine R.gF rfl (congrArg Value.bool hg17q) rfl ?_
      refine R.gF rfl (congrArg Value.bool hg17q) rfl ?_
      refine R.gF rfl (congrArg Value.bool hg17q) rfl ?_
      refine R.gF rfl (congrArg Value.bool hg17q) rfl ?_
      refine R.gF rfl (congrArg Value.bool hg17q) rfl ?_
      refine R.pickF (congrArg Value.bool hg17q) ?_
      refine R.move ?_
      refine R.gF rfl rfl rfl ?_
      refine R.gF rfl rfl rfl ?_
      refine R.gF rfl rfl rfl ?_
      refine R.gF rfl rfl rfl ?_
      refine R.gF rfl rfl rfl ?_
      refine R.pickF rfl ?_
      refine R.assign ?_
      refine R.nil ?_
      refine E.ret ?_
      refine ret1 (.bool (false)) rfl rfl ⟨_, rfl, ?_⟩
      refine ⟨hE, ?_⟩
      rw [decide_eq_false (fun e => by have := hd_eq.1 e; omega)]
  · have hg10q := hg10
    replace hg10 := dF hg10
    refine R.gF rfl (congrArg Value.bool hg10q) rfl ?_
    refine R.gF rfl (congrArg Value.bool hg10q) rfl ?_
    refine R.gF rfl (congrArg Value.bool hg10q) rfl ?_
    refine R.gF rfl (congrArg Value.bool hg10q) rfl ?_
    refine R.gF rfl (congrArg Value.bool hg10q) rfl ?_
    refine R.pickF (congrArg Value.bool hg10q) ?_
    refine R.move ?_
    refine R.gF rfl rfl rfl ?_
    refine R.gF rfl rfl rfl ?_
    refine R.gF rfl rfl rfl ?_
    refine R.gF rfl rfl rfl ?_
    refine R.gF rfl rfl rfl ?_
    refine R.pickF rfl ?_
    refine R.move ?_
    refine R.gF rfl rfl rfl ?_
    refine R.gF rfl rfl rfl ?_
    refine R.gF rfl rfl rfl ?_
    refine R.gF rfl rfl rfl ?_
    refine R.gF rfl rfl rfl ?_
    refine R.pickF rfl ?_
    refine R.assign ?_
    refine R.nil ?_
    refine E.ret ?_
    refine ret1 (.bool (false)) rfl rfl ⟨_, rfl, ?_⟩
    refine ⟨hE, ?_⟩
    rw [decide_eq_false (fun e => by have := hd_eq.1 e; omega)]
set_option maxHeartbeats 1600000 in
theorem rtake_ (w : World) {rb rd : Value} {r : Dk} {i : Nat} (hR : RD w rb rd r) (hbl : r.bl.length ≤ 1000000) : Calls Try.prog 70 #[.agg #[rb, rd, .int .i64 r.pw, .bool r.tr], .int .i64 ((i : Nat) : Int)] w (Ret fun x w' => Ext w w' ∧ RTRes w w' x (tk r ((i : Nat) : Int))) := by
  obtain ⟨b, hbb⟩ : ∃ b, b = blkO (r.read ((i : Nat) : Int)) := ⟨_, rfl⟩
  have hb : BlockP b := hbb ▸ Dk.okO hR.ok
  have hg0 := getD_lt hb.2 0
  have hg1 := getD_lt hb.2 1
  have hg2 := getD_lt hb.2 2
  have hg3 := getD_lt hb.2 3
  have hw4 := wordL_lt (xs := b.drop 4) (fun x hx => hb.2 x (List.mem_of_mem_drop hx))
  have hw8 := wordL_lt (xs := b.drop 8) (fun x hx => hb.2 x (List.mem_of_mem_drop hx))
  have hw12 := wordL_lt (xs := b.drop 12) (fun x hx => hb.2 x (List.mem_of_mem_drop hx))
  have hno : (r.read ((i : Nat) : Int)).isSome = false → b.getD 0 0 ≠ 1 := fun h => by
    have h1 : r.read ((i : Nat) : Int) = none := by simpa using h
    rw [hbb, h1]; decide
  refine calls_E (args := [.agg #[rb, rd, .int .i64 (r.pw), .bool (r.tr)], .int .i64 ((i : Nat) : Int)]) 126 Try.func70 rfl rfl (by simp) ?_
  have hE : Ext w w := Upd.refl w
  refine E.seq ?_
  refine E.regionP rfl ?_
  refine R.box rfl nofun ?_
  intro b2 w1 hb2 hx1 hB2
  replace hb2 := Nat.le_trans hE.size hb2
  replace hR := hR.ext hx1
  replace hE := hE.ext hx1
  replace hB2 : Blk _ b2 31 #[rb, rd, .int .i64 (r.pw), .bool (r.tr)] := hB2
  refine R.alloc t120 nofun ?_
  intro b4 w2 hb4 hx2 hB4
  replace hb4 := Nat.le_trans hE.size hb4
  replace hR := hR.ext hx2
  replace hB2 := hB2.ext hx2
  replace hE := hE.ext hx2
  replace hB4 : Blk _ b4 120 #[.int .i64 ((0 : Nat) : Int), .int .i64 ((0 : Nat) : Int), .int .i64 ((0 : Nat) : Int), .int .i64 ((0 : Nat) : Int), .int .i64 ((0 : Nat) : Int), .slice none 0 0] := hB4
  refine R.assign ?_
  refine R.nil ?_
  refine E.seq ?_
  refine E.regionP rfl ?_
  refine R.loadA t31 hB2 rfl rfl rfl trivial ?_
  refine R.move ?_
  refine R.callE2 ent16 (rread_ _ hR (by omega)) rfl rfl nofun ?_
  rintro v13 w3 hx3 rfl
  rw [← hbb]
  replace hR := hR.ext hx3
  replace hB2 := hB2.ext hx3
  replace hB4 := hB4.ext hx3
  replace hE := hE.ext hx3
  refine R.move ?_
  refine R.extract rfl rfl ?_
  refine R.extract rfl rfl ?_
  refine R.alloc t26 nofun ?_
  intro b6 w4 hb6 hx4 hB6
  have hn_hR_6 := hR.new hb6
  replace hb6 := Nat.le_trans hE.size hb6
  replace hR := hR.ext hx4
  replace hB2 := hB2.ext hx4
  replace hB4 := hB4.ext hx4
  replace hE := hE.ext hx4
  replace hB6 : Blk _ b6 26 (Array.replicate 64 (.int .u8 0)) := hB6
  rw [← zeroV] at hB6
  refine R.storeA t26 hB6 rfl rfl (blkV_size zeroB_ok.1) (blkV_size hb.1) blkV_ones nofun ?_
  intro w5 hU5 hs5 hN5
  replace hR := hR.upN hU5 hn_hR_6
  replace hB2 := hB2.upT hU5 hB6 (by decide)
  replace hB4 := hB4.upT hU5 hB6 (by decide)
  replace hE := hE.own hU5 hb6
  replace hB6 : Blk _ b6 26 (blkV b) := hN5
  refine R.assign ?_
  refine R.nil ?_
  refine E.seq ?_
  have hW0 := hE.size
  refine E.regionF (fun c x => x < w5.heap.size ∧ (c = false → True)) [] [23, 25, 27] mixed rfl (by kernel_rfl) (fun _ _ h => h.1) ?_
  intro w6 hx6 hh6
  replace hR := hR.ext hx6
  replace hB2 := hB2.ext hx6
  replace hB4 := hB4.ext hx6
  replace hB6 := hB6.ext hx6
  replace hE := hE.ext hx6
  have hEs : Ext w6 w6 := Upd.refl _
  have hS0 := hx6.size
  have hSB : ∀ b, b < w6.heap.size → b < w5.heap.size ∧ (true = false → (fun x => True) b) := fun b hb => ⟨by rw [hh6] at hb; exact hb, nofun⟩
  have hSA : ∀ b, b < w6.heap.size → (fun x => True) b → b < w5.heap.size ∧ (false = false → (fun x => True) b) := fun b hb h => ⟨by rw [hh6] at hb; exact hb, fun _ => h⟩
  have hSO : ∀ b, b < w.heap.size → b < w5.heap.size ∧ (false = false → (fun x => True) b) := fun b hb => hSA b (Nat.lt_of_lt_of_le hb hE.size) (trivial)
  have hRs := hR
  have hB2s := hB2
  have hB4s := hB4
  have hB6s := hB6
  refine G.q rfl (Nat.le_of_ble_eq_true rfl) ?_
  refine R.ixA (m := 1) Try.underlying26 t5 rfl rfl (by first | omega | decide) ?_
  refine R.nil ?_
  refine G.q rfl (Nat.le_of_ble_eq_true rfl) ?_
  refine R.loadB (i := 0 + 1) (u := .int .u8 (((b.getD 1 0) : Nat) : Int)) t5 hB6 rfl (arr_getD (hb).1 (by first | omega | decide)) rfl (hSA b6 hB6s.lt (trivial)) ?_
  refine R.nil ?_
  refine G.q rfl (Nat.le_of_ble_eq_true rfl) ?_
  refine R.toI (n := (b.getD 1 0)) Try.underlying5 Try.underlying3 rfl (by omega) ?_
  refine R.nil ?_
  refine G.q rfl (Nat.le_of_ble_eq_true rfl) ?_
  refine R.ixA (m := 2) Try.underlying26 t5 rfl rfl (by first | omega | decide) ?_
  refine R.nil ?_
  refine G.q rfl (Nat.le_of_ble_eq_true rfl) ?_
  refine R.loadB (i := 0 + 2) (u := .int .u8 (((b.getD 2 0) : Nat) : Int)) t5 hB6 rfl (arr_getD (hb).1 (by first | omega | decide)) rfl (hSA b6 hB6s.lt (trivial)) ?_
  refine R.nil ?_
  refine G.q rfl (Nat.le_of_ble_eq_true rfl) ?_
  refine R.toI (n := (b.getD 2 0)) Try.underlying5 Try.underlying3 rfl (by omega) ?_
  refine R.nil ?_
  refine G.q rfl (Nat.le_of_ble_eq_true rfl) ?_
  refine R.loadA t26 hB6 rfl (blkV_size hb.1) rfl (hSA b6 hB6s.lt (trivial)) ?_
  refine R.nil ?_
  refine G.l rfl rfl (.inl rfl) (Nat.le_of_ble_eq_true rfl) ?_
  intro w7 hx7
  replace hR := hR.ext hx7
  replace hB2 := hB2.ext hx7
  replace hB4 := hB4.ext hx7
  replace hB6 := hB6.ext hx7
  replace hE := hE.ext hx7
  replace hEs := hEs.ext hx7
  refine R.callE2 ent75 (rword_ _ hb (by decide) rfl) rfl rfl (fun _ _ hb => G.S1_lt (fun _ _ h => h.1) (Nat.le_trans hS0 hEs.size) hb) ?_
  rintro v23 w8 hx8 rfl
  replace hR := hR.ext hx8
  replace hB2 := hB2.ext hx8
  replace hB4 := hB4.ext hx8
  replace hB6 := hB6.ext hx8
  replace hE := hE.ext hx8
  replace hEs := hEs.ext hx8
  refine R.nil ⟨hx8.size, ?_⟩
  intro K7 hK7 hN7
  refine G.q rfl (Nat.le_of_ble_eq_true rfl) ?_
  refine R.loadA t26 hB6 rfl (blkV_size hb.1) rfl (hSA b6 hB6s.lt (trivial)) ?_
  refine R.nil ?_
  refine G.l rfl rfl (.inl rfl) (Nat.le_of_ble_eq_true rfl) ?_
  intro w9 hx9
  replace hR := hR.ext hx9
  replace hB2 := hB2.ext hx9
  replace hB4 := hB4.ext hx9
  replace hB6 := hB6.ext hx9
  replace hE := hE.ext hx9
  replace hEs := hEs.ext hx9
  refine R.callE2 ent75 (rword_ _ hb (by decide) rfl) rfl rfl (fun _ _ hb => G.S1_lt (fun _ _ h => h.1) (Nat.le_trans hS0 hEs.size) hb) ?_
  rintro v25 w10 hx10 rfl
  replace hR := hR.ext hx10
  replace hB2 := hB2.ext hx10
  replace hB4 := hB4.ext hx10
  replace hB6 := hB6.ext hx10
  replace hE := hE.ext hx10
  replace hEs := hEs.ext hx10
  refine R.nil ⟨hx10.size, ?_⟩
  intro K9 hK9 hN9
  refine G.q rfl (Nat.le_of_ble_eq_true rfl) ?_
  refine R.loadA t26 hB6 rfl (blkV_size hb.1) rfl (hSA b6 hB6s.lt (trivial)) ?_
  refine R.nil ?_
  refine G.l rfl rfl (.inl rfl) (Nat.le_of_ble_eq_true rfl) ?_
  intro w11 hx11
  replace hR := hR.ext hx11
  replace hB2 := hB2.ext hx11
  replace hB4 := hB4.ext hx11
  replace hB6 := hB6.ext hx11
  replace hE := hE.ext hx11
  replace hEs := hEs.ext hx11
  refine R.callE2 ent75 (rword_ _ hb (by decide) rfl) rfl rfl (fun _ _ hb => G.S1_lt (fun _ _ h => h.1) (Nat.le_trans hS0 hEs.size) hb) ?_
  rintro v27 w12 hx12 rfl
  replace hR := hR.ext hx12
  replace hB2 := hB2.ext hx12
  replace hB4 := hB4.ext hx12
  replace hB6 := hB6.ext hx12
  replace hE := hE.ext hx12
  replace hEs := hEs.ext hx12
  refine R.nil ⟨hx12.size, ?_⟩
  intro K11 hK11 hN11
  refine G.q rfl (Nat.le_of_ble_eq_true rfl) ?_
  refine R.build (bld120_0_1_2_3_4 rfl rfl rfl rfl rfl) rfl ?_
  refine R.nil ?_
  refine G.alloc t120 ?_
  intro w13 b8 K13 hx13 hb8 hn8 hK13 hk8 hB8
  have ne4_8 : b4 ≠ b8 := by have h1 := hB4s.lt; rw [hh6] at h1; omega
  have hn08 := hb8
  replace hb8 := Nat.le_trans hW0 hb8
  replace hR := hR.ext hx13
  replace hB2 := hB2.ext hx13
  replace hB4 := hB4.ext hx13
  replace hB6 := hB6.ext hx13
  replace hE := hE.ext hx13
  replace hEs := hEs.ext hx13
  replace hB8 : Blk _ b8 120 #[.int .i64 ((0 : Nat) : Int), .int .i64 ((0 : Nat) : Int), .int .i64 ((0 : Nat) : Int), .int .i64 ((0 : Nat) : Int), .int .i64 ((0 : Nat) : Int), .slice none 0 0] := hB8
  refine G.l rfl rfl (.inr rfl) (Nat.le_of_ble_eq_true rfl) ?_
  intro w14 hx14
  replace hR := hR.ext hx14
  replace hB2 := hB2.ext hx14
  replace hB4 := hB4.ext hx14
  replace hB6 := hB6.ext hx14
  replace hB8 := hB8.ext hx14
  replace hE := hE.ext hx14
  replace hEs := hEs.ext hx14
  refine R.storeA t120 hB8 rfl rfl rfl rfl (ones6 rfl rfl rfl rfl rfl rfl) (fun _ h => G.S1_new (fun _ _ h => h.1) hn08 hk8 h) ?_
  intro w15 hU15 hs15 hN15
  replace hR := hR.upT hU15 hB8 (by decide)
  replace hB2 := hB2.upT hU15 hB8 (by decide)
  replace hB4 := hB4.up hU15 (fun h => ne4_8 h)
  replace hB6 := hB6.upT hU15 hB8 (by decide)
  replace hE := hE.own hU15 hb8
  replace hEs := hEs.trans hU15 (fun c hc h => by have h1 : c = b8 := h; rw [hh6] at hc; omega)
  replace hB8 : Blk _ b8 120 #[.int .i64 (((b.getD 1 0) : Nat) : Int), .int .i64 (((b.getD 2 0) : Nat) : Int), .int .i64 ((wordL (b.drop 4) : Nat) : Int), .int .i64 ((wordL (b.drop 8) : Nat) : Int), .int .i64 ((wordL (b.drop 12) : Nat) : Int), .slice none 0 0] := hN15
  clear hN15
  refine R.nil ⟨hU15.size, ?_⟩
  intro K14 hK14 hN14
  replace hk8 := hK14 _ hk8
  refine G.nil ?_
  refine E.seq ?_
  refine E.seq ?_
  refine E.forget [(4, .pointer (some ⟨b4, 0, none⟩)), (6, .pointer (some ⟨b6, 0, none⟩)), (7, .bool ((r.read ((i : Nat) : Int)).isSome)), (8, .pointer (some ⟨b8, 0, none⟩))] ⟨rfl, rfl, rfl, rfl, trivial⟩ (fun e => ?_)
  refine E.regionP rfl ?_
  refine R.move ?_
  refine R.not rfl ?_
  refine R.move ?_
  have hg31 := Bool.eq_false_or_eq_true (!((r.read ((i : Nat) : Int)).isSome))
  rcases hg31 with hg31 | hg31
  · have hg31q := hg31
    have hno2 := hno (nbT hg31)
    refine R.gF rfl (congrArg Value.bool hg31q) rfl ?_
    refine R.gF rfl (congrArg Value.bool hg31q) rfl ?_
    refine R.gF rfl (congrArg Value.bool hg31q) rfl ?_
    refine R.pickT (congrArg Value.bool hg31q) ?_
    refine R.move ?_
    refine R.gF rfl rfl rfl ?_
    refine R.gF rfl rfl rfl ?_
    refine R.gF rfl rfl rfl ?_
    refine R.pickT rfl ?_
    refine R.move ?_
    refine R.gF rfl rfl rfl ?_
    refine R.gF rfl rfl rfl ?_
    refine R.gF rfl rfl rfl ?_
    refine R.gF rfl rfl rfl ?_
    refine R.gF rfl rfl rfl ?_
    refine R.pickT rfl ?_
    refine R.move ?_
    refine R.gF rfl rfl rfl ?_
    refine R.gF rfl rfl rfl ?_
    refine R.gF rfl rfl rfl ?_
    refine R.pickT rfl ?_
    refine R.move ?_
    refine R.gF rfl rfl rfl ?_
    refine R.gF rfl rfl rfl ?_
    refine R.gF rfl rfl rfl ?_
    refine R.pickT rfl ?_
    refine R.move ?_
    refine R.gF rfl rfl rfl ?_
    refine R.gF rfl rfl rfl ?_
    refine R.gF rfl rfl rfl ?_
    refine R.pickT rfl ?_
    refine R.move ?_
    refine R.gF rfl rfl rfl ?_
    refine R.gF rfl rfl rfl ?_
    refine R.gF rfl rfl rfl ?_
    refine R.gF rfl rfl rfl ?_
    refine R.gF rfl rfl rfl ?_
    refine R.pickT rfl ?_
    refine R.nil ?_
    refine E.condT rfl ?_
    refine E.seq ?_
    refine E.forget [(4, .pointer (some ⟨b4, 0, none⟩))] ⟨rfl, trivial⟩ (fun e => ?_)
    refine E.regionP rfl ?_
    refine R.build (bld120_e ) rfl ?_
    refine R.storeA t120 hB4 rfl rfl rfl rfl (ones6 rfl rfl rfl rfl rfl rfl) nofun ?_
    intro w16 hU16 hs16 hN16
    replace hR := hR.upT hU16 hB4 (by decide)
    replace hB2 := hB2.upT hU16 hB4 (by decide)
    replace hB6 := hB6.upT hU16 hB4 (by decide)
    replace hB8 := hB8.up hU16 (fun h => ne4_8 h.symm)
    replace hE := hE.own hU16 hb4
    replace hB4 : Blk _ b4 120 #[.int .i64 ((0 : Nat) : Int), .int .i64 ((0 : Nat) : Int), .int .i64 ((0 : Nat) : Int), .int .i64 ((0 : Nat) : Int), .int .i64 ((0 : Nat) : Int), .slice none 0 0] := hN16
    clear hN16
    refine R.assign ?_
    refine R.nil ?_
    refine E.ret ?_
    refine retA1 (.bool (false)) t120 hB4 rfl rfl rfl rfl ⟨_, rfl, ?_⟩
    refine ⟨hE, ?_⟩
    have hn : takeL b = none := takeL_bad (by have hlb : leastB b = if b.getD 1 0 + 1 = b.getD 2 0 then min (b.getD 1 0) 1 else 48 := rfl; split at hlb <;> omega)
    show RTRes _ _ _ (takeL (blkO (r.read ((i : Nat) : Int))))
    rw [← hbb, hn]; rfl
  · have hg31q := hg31
    refine R.gT rfl (congrArg Value.bool hg31q) ?_
    refine R.ixA (m := 0) Try.underlying26 t5 rfl rfl (by first | omega | decide) ?_
    refine R.gT rfl (congrArg Value.bool hg31q) ?_
    refine R.loadB (i := 0 + 0) (u := .int .u8 (((b.getD 0 0) : Nat) : Int)) t5 hB6 rfl (arr_getD (hb).1 (by first | omega | decide)) rfl trivial ?_
    refine R.gT rfl (congrArg Value.bool hg31q) ?_
    refine R.neq (b := !decide (((((b.getD 0 0) : Nat) : Int)) = (((1 : Nat) : Int)))) rfl rfl rfl ?_
    refine R.pickF (congrArg Value.bool hg31q) ?_
    refine R.move ?_
    have hg36 := Bool.eq_false_or_eq_true (!decide (((((b.getD 0 0) : Nat) : Int)) = (((1 : Nat) : Int))))
    rcases hg36 with hg36 | hg36
    · have hg36q := hg36
      replace hg36 := nT hg36
      refine R.gF rfl (congrArg Value.bool hg36q) rfl ?_
      refine R.gF rfl (congrArg Value.bool hg36q) rfl ?_
      refine R.gF rfl (congrArg Value.bool hg36q) rfl ?_
      refine R.pickT (congrArg Value.bool hg36q) ?_
      refine R.move ?_
      refine R.gF rfl rfl rfl ?_
      refine R.gF rfl rfl rfl ?_
      refine R.gF rfl rfl rfl ?_
      refine R.gF rfl rfl rfl ?_
      refine R.gF rfl rfl rfl ?_
      refine R.pickT rfl ?_
      refine R.move ?_
      refine R.gF rfl rfl rfl ?_
      refine R.gF rfl rfl rfl ?_
      refine R.gF rfl rfl rfl ?_
      refine R.pickT rfl ?_
      refine R.move ?_
      refine R.gF rfl rfl rfl ?_
      refine R.gF rfl rfl rfl ?_
      refine R.gF rfl rfl rfl ?_
      refine R.pickT rfl ?_
      refine R.move ?_
      refine R.gF rfl rfl rfl ?_
      refine R.gF rfl rfl rfl ?_
      refine R.gF rfl rfl rfl ?_
      refine R.pickT rfl ?_
      refine R.move ?_
      refine R.gF rfl rfl rfl ?_
      refine R.gF rfl rfl rfl ?_
      refine R.gF rfl rfl rfl ?_
      refine R.gF rfl rfl rfl ?_
      refine R.gF rfl rfl rfl ?_
      refine R.pickT rfl ?_
      refine R.nil ?_
      refine E.condT rfl ?_
      refine E.seq ?_
      refine E.forget [(4, .pointer (some ⟨b4, 0, none⟩))] ⟨rfl, trivial⟩ (fun e => ?_)
      refine E.regionP rfl ?_
      refine R.build (bld120_e ) rfl ?_
      refine R.storeA t120 hB4 rfl rfl rfl rfl (ones6 rfl rfl rfl rfl rfl rfl) nofun ?_
      intro w17 hU17 hs17 hN17
      replace hR := hR.upT hU17 hB4 (by decide)
      replace hB2 := hB2.upT hU17 hB4 (by decide)
      replace hB6 := hB6.upT hU17 hB4 (by decide)
      replace hB8 := hB8.up hU17 (fun h => ne4_8 h.symm)
      replace hE := hE.own hU17 hb4
      replace hB4 : Blk _ b4 120 #[.int .i64 ((0 : Nat) : Int), .int .i64 ((0 : Nat) : Int), .int .i64 ((0 : Nat) : Int), .int .i64 ((0 : Nat) : Int), .int .i64 ((0 : Nat) : Int), .slice none 0 0] := hN17
      clear hN17
      refine R.assign ?_
      refine R.nil ?_
      refine E.ret ?_
      refine retA1 (.bool (false)) t120 hB4 rfl rfl rfl rfl ⟨_, rfl, ?_⟩
      refine ⟨hE, ?_⟩
      have hn : takeL b = none := takeL_bad (by have hlb : leastB b = if b.getD 1 0 + 1 = b.getD 2 0 then min (b.getD 1 0) 1 else 48 := rfl; split at hlb <;> omega)
      show RTRes _ _ _ (takeL (blkO (r.read ((i : Nat) : Int))))
      rw [← hbb, hn]; rfl
    · have hg36q := hg36
      replace hg36 := nF hg36
      refine R.gT rfl (congrArg Value.bool hg36q) ?_
      refine R.fld fa120_1 rfl ?_
      refine R.gT rfl (congrArg Value.bool hg36q) ?_
      refine R.loadB t3 hB8 rfl rfl rfl trivial ?_
      refine R.gT rfl (congrArg Value.bool hg36q) ?_
      refine R.gtr (b := decide ((((84 : Nat) : Int)) < ((((b.getD 2 0) : Nat) : Int)))) rfl rfl rfl ?_
      refine R.pickF (congrArg Value.bool hg36q) ?_
      refine R.move ?_
      have hg41 := Bool.eq_false_or_eq_true (decide ((((84 : Nat) : Int)) < ((((b.getD 2 0) : Nat) : Int))))
      rcases hg41 with hg41 | hg41
      · have hg41q := hg41
        replace hg41 := dT hg41
        refine R.gF rfl (congrArg Value.bool hg41q) rfl ?_
        refine R.gF rfl (congrArg Value.bool hg41q) rfl ?_
        refine R.gF rfl (congrArg Value.bool hg41q) rfl ?_
        refine R.gF rfl (congrArg Value.bool hg41q) rfl ?_
        refine R.gF rfl (congrArg Value.bool hg41q) rfl ?_
        refine R.pickT (congrArg Value.bool hg41q) ?_
        refine R.move ?_
        refine R.gF rfl rfl rfl ?_
        refine R.gF rfl rfl rfl ?_
        refine R.gF rfl rfl rfl ?_
        refine R.pickT rfl ?_
        refine R.move ?_
        refine R.gF rfl rfl rfl ?_
        refine R.gF rfl rfl rfl ?_
        refine R.gF rfl rfl rfl ?_
        refine R.pickT rfl ?_
        refine R.move ?_
        refine R.gF rfl rfl rfl ?_
        refine R.gF rfl rfl rfl ?_
        refine R.gF rfl rfl rfl ?_
        refine R.pickT rfl ?_
        refine R.move ?_
        refine R.gF rfl rfl rfl ?_
        refine R.gF rfl rfl rfl ?_
        refine R.gF rfl rfl rfl ?_
        refine R.gF rfl rfl rfl ?_
        refine R.gF rfl rfl rfl ?_
        refine R.pickT rfl ?_
        refine R.nil ?_
        refine E.condT rfl ?_
        refine E.seq ?_
        refine E.forget [(4, .pointer (some ⟨b4, 0, none⟩))] ⟨rfl, trivial⟩ (fun e => ?_)
        refine E.regionP rfl ?_
        refine R.build (bld120_e ) rfl ?_
        refine R.storeA t120 hB4 rfl rfl rfl rfl (ones6 rfl rfl rfl rfl rfl rfl) nofun ?_
        intro w18 hU18 hs18 hN18
        replace hR := hR.upT hU18 hB4 (by decide)
        replace hB2 := hB2.upT hU18 hB4 (by decide)
        replace hB6 := hB6.upT hU18 hB4 (by decide)
        replace hB8 := hB8.up hU18 (fun h => ne4_8 h.symm)
        replace hE := hE.own hU18 hb4
        replace hB4 : Blk _ b4 120 #[.int .i64 ((0 : Nat) : Int), .int .i64 ((0 : Nat) : Int), .int .i64 ((0 : Nat) : Int), .int .i64 ((0 : Nat) : Int), .int .i64 ((0 : Nat) : Int), .slice none 0 0] := hN18
        clear hN18
        refine R.assign ?_
        refine R.nil ?_
        refine E.ret ?_
        refine retA1 (.bool (false)) t120 hB4 rfl rfl rfl rfl ⟨_, rfl, ?_⟩
        refine ⟨hE, ?_⟩
        have hn : takeL b = none := takeL_bad (by have hlb : leastB b = if b.getD 1 0 + 1 = b.getD 2 0 then min (b.getD 1 0) 1 else 48 := rfl; split at hlb <;> omega)
        show RTRes _ _ _ (takeL (blkO (r.read ((i : Nat) : Int))))
        rw [← hbb, hn]; rfl
      · have hg41q := hg41
        replace hg41 := dF hg41
        refine R.gT rfl (congrArg Value.bool hg41q) ?_
        refine R.fld fa120_0 rfl ?_
        refine R.gT rfl (congrArg Value.bool hg41q) ?_
        refine R.loadB t3 hB8 rfl rfl rfl trivial ?_
        refine R.gT rfl (congrArg Value.bool hg41q) ?_
        refine R.fld fa120_1 rfl ?_
        refine R.gT rfl (congrArg Value.bool hg41q) ?_
        refine R.loadB t3 hB8 rfl rfl rfl trivial ?_
        refine R.gT rfl (congrArg Value.bool hg41q) ?_
        refine R.geq (b := decide (((((b.getD 2 0) : Nat) : Int)) ≤ ((((b.getD 1 0) : Nat) : Int)))) rfl rfl rfl ?_
        refine R.pickF (congrArg Value.bool hg41q) ?_
        refine R.move ?_
        have hg48 := Bool.eq_false_or_eq_true (decide (((((b.getD 2 0) : Nat) : Int)) ≤ ((((b.getD 1 0) : Nat) : Int))))
        rcases hg48 with hg48 | hg48
        · have hg48q := hg48
          replace hg48 := dT hg48
          refine R.gF rfl (congrArg Value.bool hg48q) rfl ?_
          refine R.gF rfl (congrArg Value.bool hg48q) rfl ?_
          refine R.gF rfl (congrArg Value.bool hg48q) rfl ?_
          refine R.pickT (congrArg Value.bool hg48q) ?_
          refine R.move ?_
          refine R.gF rfl rfl rfl ?_
          refine R.gF rfl rfl rfl ?_
          refine R.gF rfl rfl rfl ?_
          refine R.pickT rfl ?_
          refine R.move ?_
          refine R.gF rfl rfl rfl ?_
          refine R.gF rfl rfl rfl ?_
          refine R.gF rfl rfl rfl ?_
          refine R.pickT rfl ?_
          refine R.move ?_
          refine R.gF rfl rfl rfl ?_
          refine R.gF rfl rfl rfl ?_
          refine R.gF rfl rfl rfl ?_
          refine R.gF rfl rfl rfl ?_
          refine R.gF rfl rfl rfl ?_
          refine R.pickT rfl ?_
          refine R.nil ?_
          refine E.condT rfl ?_
          refine E.seq ?_
          refine E.forget [(4, .pointer (some ⟨b4, 0, none⟩))] ⟨rfl, trivial⟩ (fun e => ?_)
          refine E.regionP rfl ?_
          refine R.build (bld120_e ) rfl ?_
          refine R.storeA t120 hB4 rfl rfl rfl rfl (ones6 rfl rfl rfl rfl rfl rfl) nofun ?_
          intro w19 hU19 hs19 hN19
          replace hR := hR.upT hU19 hB4 (by decide)
          replace hB2 := hB2.upT hU19 hB4 (by decide)
          replace hB6 := hB6.upT hU19 hB4 (by decide)
          replace hB8 := hB8.up hU19 (fun h => ne4_8 h.symm)
          replace hE := hE.own hU19 hb4
          replace hB4 : Blk _ b4 120 #[.int .i64 ((0 : Nat) : Int), .int .i64 ((0 : Nat) : Int), .int .i64 ((0 : Nat) : Int), .int .i64 ((0 : Nat) : Int), .int .i64 ((0 : Nat) : Int), .slice none 0 0] := hN19
          clear hN19
          refine R.assign ?_
          refine R.nil ?_
          refine E.ret ?_
          refine retA1 (.bool (false)) t120 hB4 rfl rfl rfl rfl ⟨_, rfl, ?_⟩
          refine ⟨hE, ?_⟩
          have hn : takeL b = none := takeL_bad (by have hlb : leastB b = if b.getD 1 0 + 1 = b.getD 2 0 then min (b.getD 1 0) 1 else 48 := rfl; split at hlb <;> omega)
          show RTRes _ _ _ (takeL (blkO (r.read ((i : Nat) : Int))))
          rw [← hbb, hn]; rfl
        · have hg48q := hg48
          replace hg48 := dF hg48
          refine R.gT rfl (congrArg Value.bool hg48q) ?_
          refine R.ixA (m := 3) Try.underlying26 t5 rfl rfl (by first | omega | decide) ?_
          refine R.gT rfl (congrArg Value.bool hg48q) ?_
          refine R.loadB (i := 0 + 3) (u := .int .u8 (((b.getD 3 0) : Nat) : Int)) t5 hB6 rfl (arr_getD (hb).1 (by first | omega | decide)) rfl trivial ?_
          refine R.gT rfl (congrArg Value.bool hg48q) ?_
          refine R.gtr (b := decide ((((48 : Nat) : Int)) < ((((b.getD 3 0) : Nat) : Int)))) rfl rfl rfl ?_
          refine R.pickF (congrArg Value.bool hg48q) ?_
          refine R.move ?_
          have hg53 := Bool.eq_false_or_eq_true (decide ((((48 : Nat) : Int)) < ((((b.getD 3 0) : Nat) : Int))))
          rcases hg53 with hg53 | hg53
          · have hg53q := hg53
            replace hg53 := dT hg53
            refine R.gF rfl (congrArg Value.bool hg53q) rfl ?_
            refine R.gF rfl (congrArg Value.bool hg53q) rfl ?_
            refine R.gF rfl (congrArg Value.bool hg53q) rfl ?_
            refine R.pickT (congrArg Value.bool hg53q) ?_
            refine R.move ?_
            refine R.gF rfl rfl rfl ?_
            refine R.gF rfl rfl rfl ?_
            refine R.gF rfl rfl rfl ?_
            refine R.pickT rfl ?_
            refine R.move ?_
            refine R.gF rfl rfl rfl ?_
            refine R.gF rfl rfl rfl ?_
            refine R.gF rfl rfl rfl ?_
            refine R.gF rfl rfl rfl ?_
            refine R.gF rfl rfl rfl ?_
            refine R.pickT rfl ?_
            refine R.nil ?_
            refine E.condT rfl ?_
            refine E.seq ?_
            refine E.forget [(4, .pointer (some ⟨b4, 0, none⟩))] ⟨rfl, trivial⟩ (fun e => ?_)
            refine E.regionP rfl ?_
            refine R.build (bld120_e ) rfl ?_
            refine R.storeA t120 hB4 rfl rfl rfl rfl (ones6 rfl rfl rfl rfl rfl rfl) nofun ?_
            intro w20 hU20 hs20 hN20
            replace hR := hR.upT hU20 hB4 (by decide)
            replace hB2 := hB2.upT hU20 hB4 (by decide)
            replace hB6 := hB6.upT hU20 hB4 (by decide)
            replace hB8 := hB8.up hU20 (fun h => ne4_8 h.symm)
            replace hE := hE.own hU20 hb4
            replace hB4 : Blk _ b4 120 #[.int .i64 ((0 : Nat) : Int), .int .i64 ((0 : Nat) : Int), .int .i64 ((0 : Nat) : Int), .int .i64 ((0 : Nat) : Int), .int .i64 ((0 : Nat) : Int), .slice none 0 0] := hN20
            clear hN20
            refine R.assign ?_
            refine R.nil ?_
            refine E.ret ?_
            refine retA1 (.bool (false)) t120 hB4 rfl rfl rfl rfl ⟨_, rfl, ?_⟩
            refine ⟨hE, ?_⟩
            have hn : takeL b = none := takeL_bad (by have hlb : leastB b = if b.getD 1 0 + 1 = b.getD 2 0 then min (b.getD 1 0) 1 else 48 := rfl; split at hlb <;> omega)
            show RTRes _ _ _ (takeL (blkO (r.read ((i : Nat) : Int))))
            rw [← hbb, hn]; rfl
          · have hg53q := hg53
            replace hg53 := dF hg53
            refine R.gT rfl (congrArg Value.bool hg53q) ?_
            refine R.fld fa120_4 rfl ?_
            refine R.gT rfl (congrArg Value.bool hg53q) ?_
            refine R.loadB t3 hB8 rfl rfl rfl trivial ?_
            refine R.gT rfl (congrArg Value.bool hg53q) ?_
            refine R.lss (b := decide ((((wordL (b.drop 12) : Nat) : Int)) < (((1 : Nat) : Int)))) rfl rfl rfl ?_
            refine R.pickF (congrArg Value.bool hg53q) ?_
            refine R.move ?_
            have hg58 := Bool.eq_false_or_eq_true (decide ((((wordL (b.drop 12) : Nat) : Int)) < (((1 : Nat) : Int))))
            rcases hg58 with hg58 | hg58
            · have hg58q := hg58
              replace hg58 := dT hg58
              refine R.gF rfl (congrArg Value.bool hg58q) rfl ?_
              refine R.gF rfl (congrArg Value.bool hg58q) rfl ?_
              refine R.gF rfl (congrArg Value.bool hg58q) rfl ?_
              refine R.pickT (congrArg Value.bool hg58q) ?_
              refine R.move ?_
              refine R.gF rfl rfl rfl ?_
              refine R.gF rfl rfl rfl ?_
              refine R.gF rfl rfl rfl ?_
              refine R.gF rfl rfl rfl ?_
              refine R.gF rfl rfl rfl ?_
              refine R.pickT rfl ?_
              refine R.nil ?_
              refine E.condT rfl ?_
              refine E.seq ?_
              refine E.forget [(4, .pointer (some ⟨b4, 0, none⟩))] ⟨rfl, trivial⟩ (fun e => ?_)
              refine E.regionP rfl ?_
              refine R.build (bld120_e ) rfl ?_
              refine R.storeA t120 hB4 rfl rfl rfl rfl (ones6 rfl rfl rfl rfl rfl rfl) nofun ?_
              intro w21 hU21 hs21 hN21
              replace hR := hR.upT hU21 hB4 (by decide)
              replace hB2 := hB2.upT hU21 hB4 (by decide)
              replace hB6 := hB6.upT hU21 hB4 (by decide)
              replace hB8 := hB8.up hU21 (fun h => ne4_8 h.symm)
              replace hE := hE.own hU21 hb4
              replace hB4 : Blk _ b4 120 #[.int .i64 ((0 : Nat) : Int), .int .i64 ((0 : Nat) : Int), .int .i64 ((0 : Nat) : Int), .int .i64 ((0 : Nat) : Int), .int .i64 ((0 : Nat) : Int), .slice none 0 0] := hN21
              clear hN21
              refine R.assign ?_
              refine R.nil ?_
              refine E.ret ?_
              refine retA1 (.bool (false)) t120 hB4 rfl rfl rfl rfl ⟨_, rfl, ?_⟩
              refine ⟨hE, ?_⟩
              have hn : takeL b = none := takeL_bad (by have hlb : leastB b = if b.getD 1 0 + 1 = b.getD 2 0 then min (b.getD 1 0) 1 else 48 := rfl; split at hlb <;> omega)
              show RTRes _ _ _ (takeL (blkO (r.read ((i : Nat) : Int))))
              rw [← hbb, hn]; rfl
            · have hg58q := hg58
              replace hg58 := dF hg58
              refine R.gT rfl (congrArg Value.bool hg58q) ?_
              refine R.fld fa120_3 rfl ?_
              refine R.gT rfl (congrArg Value.bool hg58q) ?_
              refine R.loadB t3 hB8 rfl rfl rfl trivial ?_
              refine R.gT rfl (congrArg Value.bool hg58q) ?_
              refine R.lss (b := decide ((((wordL (b.drop 8) : Nat) : Int)) < (((1 : Nat) : Int)))) rfl rfl rfl ?_
              refine R.pickF (congrArg Value.bool hg58q) ?_
              refine R.move ?_
              have hg63 := Bool.eq_false_or_eq_true (decide ((((wordL (b.drop 8) : Nat) : Int)) < (((1 : Nat) : Int))))
              rcases hg63 with hg63 | hg63
              · have hg63q := hg63
                replace hg63 := dT hg63
                refine R.gF rfl (congrArg Value.bool hg63q) rfl ?_
                refine R.gF rfl (congrArg Value.bool hg63q) rfl ?_
                refine R.gF rfl (congrArg Value.bool hg63q) rfl ?_
                refine R.gF rfl (congrArg Value.bool hg63q) rfl ?_
                refine R.gF rfl (congrArg Value.bool hg63q) rfl ?_
                refine R.pickT (congrArg Value.bool hg63q) ?_
                refine R.nil ?_
                refine E.condT rfl ?_
                refine E.seq ?_
                refine E.forget [(4, .pointer (some ⟨b4, 0, none⟩))] ⟨rfl, trivial⟩ (fun e => ?_)
                refine E.regionP rfl ?_
                refine R.build (bld120_e ) rfl ?_
                refine R.storeA t120 hB4 rfl rfl rfl rfl (ones6 rfl rfl rfl rfl rfl rfl) nofun ?_
                intro w22 hU22 hs22 hN22
                replace hR := hR.upT hU22 hB4 (by decide)
                replace hB2 := hB2.upT hU22 hB4 (by decide)
                replace hB6 := hB6.upT hU22 hB4 (by decide)
                replace hB8 := hB8.up hU22 (fun h => ne4_8 h.symm)
                replace hE := hE.own hU22 hb4
                replace hB4 : Blk _ b4 120 #[.int .i64 ((0 : Nat) : Int), .int .i64 ((0 : Nat) : Int), .int .i64 ((0 : Nat) : Int), .int .i64 ((0 : Nat) : Int), .int .i64 ((0 : Nat) : Int), .slice none 0 0] := hN22
                clear hN22
                refine R.assign ?_
                refine R.nil ?_
                refine E.ret ?_
                refine retA1 (.bool (false)) t120 hB4 rfl rfl rfl rfl ⟨_, rfl, ?_⟩
                refine ⟨hE, ?_⟩
                have hn : takeL b = none := takeL_bad (by have hlb : leastB b = if b.getD 1 0 + 1 = b.getD 2 0 then min (b.getD 1 0) 1 else 48 := rfl; split at hlb <;> omega)
                show RTRes _ _ _ (takeL (blkO (r.read ((i : Nat) : Int))))
                rw [← hbb, hn]; rfl
              · have hg63q := hg63
                replace hg63 := dF hg63
                refine R.gT rfl (congrArg Value.bool hg63q) ?_
                refine R.fld fa120_2 rfl ?_
                refine R.gT rfl (congrArg Value.bool hg63q) ?_
                refine R.loadB t3 hB8 rfl rfl rfl trivial ?_
                refine R.gT rfl (congrArg Value.bool hg63q) ?_
                refine R.fld fa120_4 rfl ?_
                refine R.gT rfl (congrArg Value.bool hg63q) ?_
                refine R.loadB t3 hB8 rfl rfl rfl trivial ?_
                refine R.gT rfl (congrArg Value.bool hg63q) ?_
                refine R.lss (b := decide ((((wordL (b.drop 4) : Nat) : Int)) < (((wordL (b.drop 12) : Nat) : Int)))) rfl rfl rfl ?_
                refine R.pickF (congrArg Value.bool hg63q) ?_
                refine R.nil ?_
                refine E.cond (b := decide ((((wordL (b.drop 4) : Nat) : Int)) < (((wordL (b.drop 12) : Nat) : Int)))) rfl (fun hc69 => ?_) (fun hc69 => ?_)
                · replace hc69 := dT hc69
                  refine E.seq ?_
                  refine E.forget [(4, .pointer (some ⟨b4, 0, none⟩))] ⟨rfl, trivial⟩ (fun e => ?_)
                  refine E.regionP rfl ?_
                  refine R.build (bld120_e ) rfl ?_
                  refine R.storeA t120 hB4 rfl rfl rfl rfl (ones6 rfl rfl rfl rfl rfl rfl) nofun ?_
                  intro w23 hU23 hs23 hN23
                  replace hR := hR.upT hU23 hB4 (by decide)
                  replace hB2 := hB2.upT hU23 hB4 (by decide)
                  replace hB6 := hB6.upT hU23 hB4 (by decide)
                  replace hB8 := hB8.up hU23 (fun h => ne4_8 h.symm)
                  replace hE := hE.own hU23 hb4
                  replace hB4 : Blk _ b4 120 #[.int .i64 ((0 : Nat) : Int), .int .i64 ((0 : Nat) : Int), .int .i64 ((0 : Nat) : Int), .int .i64 ((0 : Nat) : Int), .int .i64 ((0 : Nat) : Int), .slice none 0 0] := hN23
                  clear hN23
                  refine R.assign ?_
                  refine R.nil ?_
                  refine E.ret ?_
                  refine retA1 (.bool (false)) t120 hB4 rfl rfl rfl rfl ⟨_, rfl, ?_⟩
                  refine ⟨hE, ?_⟩
                  have hn : takeL b = none := takeL_bad (by have hlb : leastB b = if b.getD 1 0 + 1 = b.getD 2 0 then min (b.getD 1 0) 1 else 48 := rfl; split at hlb <;> omega)
                  show RTRes _ _ _ (takeL (blkO (r.read ((i : Nat) : Int))))
                  rw [← hbb, hn]; rfl
                · replace hc69 := dF hc69
                  refine E.skip ?_
                  refine E.seq ?_
                  refine E.cutM (fun e wr => leastB b ≤ b.getD 3 0 ∧ RD wr rb rd r ∧ Blk wr b2 31 #[rb, rd, .int .i64 (r.pw), .bool (r.tr)] ∧ Blk wr b4 120 #[.int .i64 ((0 : Nat) : Int), .int .i64 ((0 : Nat) : Int), .int .i64 ((0 : Nat) : Int), .int .i64 ((0 : Nat) : Int), .int .i64 ((0 : Nat) : Int), .slice none 0 0] ∧ Blk wr b6 26 (blkV b) ∧ Blk wr b8 120 #[.int .i64 (((b.getD 1 0) : Nat) : Int), .int .i64 (((b.getD 2 0) : Nat) : Int), .int .i64 ((wordL (b.drop 4) : Nat) : Int), .int .i64 ((wordL (b.drop 8) : Nat) : Int), .int .i64 ((wordL (b.drop 12) : Nat) : Int), .slice none 0 0] ∧ Ext w wr ∧ Has e [(4, .pointer (some ⟨b4, 0, none⟩)), (6, .pointer (some ⟨b6, 0, none⟩)), (8, .pointer (some ⟨b8, 0, none⟩))]) ?_ ?_
                  · refine E.seq ?_
                    refine E.forget [(4, .pointer (some ⟨b4, 0, none⟩)), (6, .pointer (some ⟨b6, 0, none⟩)), (8, .pointer (some ⟨b8, 0, none⟩))] ⟨rfl, rfl, rfl, trivial⟩ (fun e => ?_)
                    refine E.regionP rfl ?_
                    refine R.fld fa120_0 rfl ?_
                    refine R.loadB t3 hB8 rfl rfl rfl trivial ?_
                    refine R.fld fa120_1 rfl ?_
                    refine R.loadB t3 hB8 rfl rfl rfl trivial ?_
                    refine R.sub (m := (((b.getD 2 0) : Nat) : Int)) (n := ((1 : Nat) : Int)) rfl rfl (by omega) (by omega) ?_
                    refine R.lss (b := decide (((((b.getD 1 0) : Nat) : Int)) < ((((b.getD 2 0) : Nat) : Int) - ((1 : Nat) : Int)))) rfl rfl rfl ?_
                    refine R.move ?_
                    have hg77 := Bool.eq_false_or_eq_true (decide (((((b.getD 1 0) : Nat) : Int)) < ((((b.getD 2 0) : Nat) : Int) - ((1 : Nat) : Int))))
                    rcases hg77 with hg77 | hg77
                    · have hg77q := hg77
                      replace hg77 := dT hg77
                      refine R.gT rfl (congrArg Value.bool hg77q) ?_
                      refine R.ixA (m := 3) Try.underlying26 t5 rfl rfl (by first | omega | decide) ?_
                      refine R.gT rfl (congrArg Value.bool hg77q) ?_
                      refine R.loadB (i := 0 + 3) (u := .int .u8 (((b.getD 3 0) : Nat) : Int)) t5 hB6 rfl (arr_getD (hb).1 (by first | omega | decide)) rfl trivial ?_
                      refine R.gT rfl (congrArg Value.bool hg77q) ?_
                      refine R.lss (b := decide (((((b.getD 3 0) : Nat) : Int)) < (((48 : Nat) : Int)))) rfl rfl rfl ?_
                      refine R.pickT (congrArg Value.bool hg77q) ?_
                      refine R.move ?_
                      have hg82 := Bool.eq_false_or_eq_true (decide (((((b.getD 3 0) : Nat) : Int)) < (((48 : Nat) : Int))))
                      rcases hg82 with hg82 | hg82
                      · have hg82q := hg82
                        replace hg82 := dT hg82
                        refine R.gF rfl (congrArg Value.bool hg82q) rfl ?_
                        refine R.gF rfl (congrArg Value.bool hg82q) rfl ?_
                        refine R.gF rfl (congrArg Value.bool hg82q) rfl ?_
                        refine R.gF rfl (congrArg Value.bool hg82q) rfl ?_
                        refine R.gF rfl (congrArg Value.bool hg82q) rfl ?_
                        refine R.gF rfl (congrArg Value.bool hg82q) rfl ?_
                        refine R.gF rfl (congrArg Value.bool hg82q) rfl ?_
                        refine R.gU rfl rfl ?_
                        refine R.gU rfl rfl ?_
                        refine R.gU rfl rfl ?_
                        refine R.gF rfl (congrArg Value.bool hg82q) rfl ?_
                        refine R.gF rfl (congrArg Value.bool hg82q) rfl ?_
                        refine R.gU rfl rfl ?_
                        refine R.gU rfl rfl ?_
                        refine R.gU rfl rfl ?_
                        refine R.gF rfl (congrArg Value.bool hg82q) rfl ?_
                        refine R.pickT (congrArg Value.bool hg82q) ?_
                        refine R.nil ?_
                        refine E.condT rfl ?_
                        refine E.seq ?_
                        refine E.forget [(4, .pointer (some ⟨b4, 0, none⟩))] ⟨rfl, trivial⟩ (fun e => ?_)
                        refine E.regionP rfl ?_
                        refine R.build (bld120_e ) rfl ?_
                        refine R.storeA t120 hB4 rfl rfl rfl rfl (ones6 rfl rfl rfl rfl rfl rfl) nofun ?_
                        intro w24 hU24 hs24 hN24
                        replace hR := hR.upT hU24 hB4 (by decide)
                        replace hB2 := hB2.upT hU24 hB4 (by decide)
                        replace hB6 := hB6.upT hU24 hB4 (by decide)
                        replace hB8 := hB8.up hU24 (fun h => ne4_8 h.symm)
                        replace hE := hE.own hU24 hb4
                        replace hB4 : Blk _ b4 120 #[.int .i64 ((0 : Nat) : Int), .int .i64 ((0 : Nat) : Int), .int .i64 ((0 : Nat) : Int), .int .i64 ((0 : Nat) : Int), .int .i64 ((0 : Nat) : Int), .slice none 0 0] := hN24
                        clear hN24
                        refine R.assign ?_
                        refine R.nil ?_
                        refine E.ret ?_
                        refine retA1 (.bool (false)) t120 hB4 rfl rfl rfl rfl ⟨_, rfl, ?_⟩
                        refine ⟨hE, ?_⟩
                        have hn : takeL b = none := takeL_bad (by have hlb : leastB b = if b.getD 1 0 + 1 = b.getD 2 0 then min (b.getD 1 0) 1 else 48 := rfl; split at hlb <;> omega)
                        show RTRes _ _ _ (takeL (blkO (r.read ((i : Nat) : Int))))
                        rw [← hbb, hn]; rfl
                      · have hg82q := hg82
                        replace hg82 := dF hg82
                        refine R.gT rfl (congrArg Value.bool hg82q) ?_
                        refine R.fld fa120_0 rfl ?_
                        refine R.gT rfl (congrArg Value.bool hg82q) ?_
                        refine R.loadB t3 hB8 rfl rfl rfl trivial ?_
                        refine R.gT rfl (congrArg Value.bool hg82q) ?_
                        refine R.fld fa120_1 rfl ?_
                        refine R.gT rfl (congrArg Value.bool hg82q) ?_
                        refine R.loadB t3 hB8 rfl rfl rfl trivial ?_
                        refine R.gT rfl (congrArg Value.bool hg82q) ?_
                        refine R.sub (m := (((b.getD 2 0) : Nat) : Int)) (n := ((1 : Nat) : Int)) rfl rfl (by omega) (by omega) ?_
                        refine R.gT rfl (congrArg Value.bool hg82q) ?_
                        refine R.eql (b := decide (((((b.getD 1 0) : Nat) : Int)) = ((((b.getD 2 0) : Nat) : Int) - ((1 : Nat) : Int)))) rfl rfl rfl ?_
                        refine R.gT rfl (congrArg Value.bool hg82q) ?_
                        refine R.move ?_
                        have hg89 := Bool.eq_false_or_eq_true (decide (((((b.getD 1 0) : Nat) : Int)) = ((((b.getD 2 0) : Nat) : Int) - ((1 : Nat) : Int))))
                        rcases hg89 with hg89 | hg89
                        · have hg89q := hg89
                          replace hg89 := dT hg89
                          refine R.gT rfl (congrArg Value.bool hg89q) ?_
                          refine R.fld fa120_0 rfl ?_
                          refine R.gT rfl (congrArg Value.bool hg89q) ?_
                          refine R.loadB t3 hB8 rfl rfl rfl trivial ?_
                          refine R.gT rfl (congrArg Value.bool hg89q) ?_
                          refine R.gtr (b := decide ((((0 : Nat) : Int)) < ((((b.getD 1 0) : Nat) : Int)))) rfl rfl rfl ?_
                          refine R.gT rfl (congrArg Value.bool hg82q) ?_
                          refine R.pickT (congrArg Value.bool hg89q) ?_
                          refine R.gT rfl (congrArg Value.bool hg82q) ?_
                          refine R.move ?_
                          have hg94 := Bool.eq_false_or_eq_true (decide ((((0 : Nat) : Int)) < ((((b.getD 1 0) : Nat) : Int))))
                          rcases hg94 with hg94 | hg94
                          · have hg94q := hg94
                            replace hg94 := dT hg94
                            refine R.gT rfl (congrArg Value.bool hg94q) ?_
                            refine R.ixA (m := 3) Try.underlying26 t5 rfl rfl (by first | omega | decide) ?_
                            refine R.gT rfl (congrArg Value.bool hg94q) ?_
                            refine R.loadB (i := 0 + 3) (u := .int .u8 (((b.getD 3 0) : Nat) : Int)) t5 hB6 rfl (arr_getD (hb).1 (by first | omega | decide)) rfl trivial ?_
                            refine R.gT rfl (congrArg Value.bool hg94q) ?_
                            refine R.eql (b := decide (((((b.getD 3 0) : Nat) : Int)) = (((0 : Nat) : Int)))) rfl rfl rfl ?_
                            refine R.gT rfl (congrArg Value.bool hg82q) ?_
                            refine R.pickT (congrArg Value.bool hg94q) ?_
                            refine R.pickF (congrArg Value.bool hg82q) ?_
                            refine R.nil ?_
                            refine E.cond (b := decide (((((b.getD 3 0) : Nat) : Int)) = (((0 : Nat) : Int)))) rfl (fun hc99 => ?_) (fun hc99 => ?_)
                            · replace hc99 := dT hc99
                              refine E.seq ?_
                              refine E.forget [(4, .pointer (some ⟨b4, 0, none⟩))] ⟨rfl, trivial⟩ (fun e => ?_)
                              refine E.regionP rfl ?_
                              refine R.build (bld120_e ) rfl ?_
                              refine R.storeA t120 hB4 rfl rfl rfl rfl (ones6 rfl rfl rfl rfl rfl rfl) nofun ?_
                              intro w25 hU25 hs25 hN25
                              replace hR := hR.upT hU25 hB4 (by decide)
                              replace hB2 := hB2.upT hU25 hB4 (by decide)
                              replace hB6 := hB6.upT hU25 hB4 (by decide)
                              replace hB8 := hB8.up hU25 (fun h => ne4_8 h.symm)
                              replace hE := hE.own hU25 hb4
                              replace hB4 : Blk _ b4 120 #[.int .i64 ((0 : Nat) : Int), .int .i64 ((0 : Nat) : Int), .int .i64 ((0 : Nat) : Int), .int .i64 ((0 : Nat) : Int), .int .i64 ((0 : Nat) : Int), .slice none 0 0] := hN25
                              clear hN25
                              refine R.assign ?_
                              refine R.nil ?_
                              refine E.ret ?_
                              refine retA1 (.bool (false)) t120 hB4 rfl rfl rfl rfl ⟨_, rfl, ?_⟩
                              refine ⟨hE, ?_⟩
                              have hn : takeL b = none := takeL_bad (by have hlb : leastB b = if b.getD 1 0 + 1 = b.getD 2 0 then min (b.getD 1 0) 1 else 48 := rfl; split at hlb <;> omega)
                              show RTRes _ _ _ (takeL (blkO (r.read ((i : Nat) : Int))))
                              rw [← hbb, hn]; rfl
                            · replace hc99 := dF hc99
                              refine E.skip ?_
                              exact ⟨(by have hlb : leastB b = if b.getD 1 0 + 1 = b.getD 2 0 then min (b.getD 1 0) 1 else 48 := rfl; split at hlb <;> omega), hR, hB2, hB4, hB6, hB8, hE, rfl, rfl, rfl, trivial⟩
                          · have hg94q := hg94
                            replace hg94 := dF hg94
                            refine R.gF rfl (congrArg Value.bool hg94q) rfl ?_
                            refine R.gF rfl (congrArg Value.bool hg94q) rfl ?_
                            refine R.gF rfl (congrArg Value.bool hg94q) rfl ?_
                            refine R.gT rfl (congrArg Value.bool hg82q) ?_
                            refine R.pickF (congrArg Value.bool hg94q) ?_
                            refine R.pickF (congrArg Value.bool hg82q) ?_
                            refine R.nil ?_
                            refine E.condF rfl ?_
                            refine E.skip ?_
                            exact ⟨(by have hlb : leastB b = if b.getD 1 0 + 1 = b.getD 2 0 then min (b.getD 1 0) 1 else 48 := rfl; split at hlb <;> omega), hR, hB2, hB4, hB6, hB8, hE, rfl, rfl, rfl, trivial⟩
                        · have hg89q := hg89
                          replace hg89 := dF hg89
                          refine R.gF rfl (congrArg Value.bool hg89q) rfl ?_
                          refine R.gF rfl (congrArg Value.bool hg89q) rfl ?_
                          refine R.gF rfl (congrArg Value.bool hg89q) rfl ?_
                          refine R.gT rfl (congrArg Value.bool hg82q) ?_
                          refine R.pickF (congrArg Value.bool hg89q) ?_
                          refine R.gT rfl (congrArg Value.bool hg82q) ?_
                          refine R.move ?_
                          refine R.gF rfl rfl rfl ?_
                          refine R.gF rfl rfl rfl ?_
                          refine R.gF rfl rfl rfl ?_
                          refine R.gT rfl (congrArg Value.bool hg82q) ?_
                          refine R.pickF rfl ?_
                          refine R.pickF (congrArg Value.bool hg82q) ?_
                          refine R.nil ?_
                          refine E.condF rfl ?_
                          refine E.skip ?_
                          exact ⟨(by have hlb : leastB b = if b.getD 1 0 + 1 = b.getD 2 0 then min (b.getD 1 0) 1 else 48 := rfl; split at hlb <;> omega), hR, hB2, hB4, hB6, hB8, hE, rfl, rfl, rfl, trivial⟩
                    · have hg77q := hg77
                      replace hg77 := dF hg77
                      refine R.gF rfl (congrArg Value.bool hg77q) rfl ?_
                      refine R.gF rfl (congrArg Value.bool hg77q) rfl ?_
                      refine R.gF rfl (congrArg Value.bool hg77q) rfl ?_
                      refine R.pickF (congrArg Value.bool hg77q) ?_
                      refine R.move ?_
                      refine R.gT rfl rfl ?_
                      refine R.fld fa120_0 rfl ?_
                      refine R.gT rfl rfl ?_
                      refine R.loadB t3 hB8 rfl rfl rfl trivial ?_
                      refine R.gT rfl rfl ?_
                      refine R.fld fa120_1 rfl ?_
                      refine R.gT rfl rfl ?_
                      refine R.loadB t3 hB8 rfl rfl rfl trivial ?_
                      refine R.gT rfl rfl ?_
                      refine R.sub (m := (((b.getD 2 0) : Nat) : Int)) (n := ((1 : Nat) : Int)) rfl rfl (by omega) (by omega) ?_
                      refine R.gT rfl rfl ?_
                      refine R.eql (b := decide (((((b.getD 1 0) : Nat) : Int)) = ((((b.getD 2 0) : Nat) : Int) - ((1 : Nat) : Int)))) rfl rfl rfl ?_
                      refine R.gT rfl rfl ?_
                      refine R.move ?_
                      have hg89 := Bool.eq_false_or_eq_true (decide (((((b.getD 1 0) : Nat) : Int)) = ((((b.getD 2 0) : Nat) : Int) - ((1 : Nat) : Int))))
                      rcases hg89 with hg89 | hg89
                      · have hg89q := hg89
                        replace hg89 := dT hg89
                        refine R.gT rfl (congrArg Value.bool hg89q) ?_
                        refine R.fld fa120_0 rfl ?_
                        refine R.gT rfl (congrArg Value.bool hg89q) ?_
                        refine R.loadB t3 hB8 rfl rfl rfl trivial ?_
                        refine R.gT rfl (congrArg Value.bool hg89q) ?_
                        refine R.gtr (b := decide ((((0 : Nat) : Int)) < ((((b.getD 1 0) : Nat) : Int)))) rfl rfl rfl ?_
                        refine R.gT rfl rfl ?_
                        refine R.pickT (congrArg Value.bool hg89q) ?_
                        refine R.gT rfl rfl ?_
                        refine R.move ?_
                        have hg94 := Bool.eq_false_or_eq_true (decide ((((0 : Nat) : Int)) < ((((b.getD 1 0) : Nat) : Int))))
                        rcases hg94 with hg94 | hg94
                        · have hg94q := hg94
                          replace hg94 := dT hg94
                          refine R.gT rfl (congrArg Value.bool hg94q) ?_
                          refine R.ixA (m := 3) Try.underlying26 t5 rfl rfl (by first | omega | decide) ?_
                          refine R.gT rfl (congrArg Value.bool hg94q) ?_
                          refine R.loadB (i := 0 + 3) (u := .int .u8 (((b.getD 3 0) : Nat) : Int)) t5 hB6 rfl (arr_getD (hb).1 (by first | omega | decide)) rfl trivial ?_
                          refine R.gT rfl (congrArg Value.bool hg94q) ?_
                          refine R.eql (b := decide (((((b.getD 3 0) : Nat) : Int)) = (((0 : Nat) : Int)))) rfl rfl rfl ?_
                          refine R.gT rfl rfl ?_
                          refine R.pickT (congrArg Value.bool hg94q) ?_
                          refine R.pickF rfl ?_
                          refine R.nil ?_
                          refine E.cond (b := decide (((((b.getD 3 0) : Nat) : Int)) = (((0 : Nat) : Int)))) rfl (fun hc99 => ?_) (fun hc99 => ?_)
                          · replace hc99 := dT hc99
                            refine E.seq ?_
                            refine E.forget [(4, .pointer (some ⟨b4, 0, none⟩))] ⟨rfl, trivial⟩ (fun e => ?_)
                            refine E.regionP rfl ?_
                            refine R.build (bld120_e ) rfl ?_
                            refine R.storeA t120 hB4 rfl rfl rfl rfl (ones6 rfl rfl rfl rfl rfl rfl) nofun ?_
                            intro w26 hU26 hs26 hN26
                            replace hR := hR.upT hU26 hB4 (by decide)
                            replace hB2 := hB2.upT hU26 hB4 (by decide)
                            replace hB6 := hB6.upT hU26 hB4 (by decide)
                            replace hB8 := hB8.up hU26 (fun h => ne4_8 h.symm)
                            replace hE := hE.own hU26 hb4
                            replace hB4 : Blk _ b4 120 #[.int .i64 ((0 : Nat) : Int), .int .i64 ((0 : Nat) : Int), .int .i64 ((0 : Nat) : Int), .int .i64 ((0 : Nat) : Int), .int .i64 ((0 : Nat) : Int), .slice none 0 0] := hN26
                            clear hN26
                            refine R.assign ?_
                            refine R.nil ?_
                            refine E.ret ?_
                            refine retA1 (.bool (false)) t120 hB4 rfl rfl rfl rfl ⟨_, rfl, ?_⟩
                            refine ⟨hE, ?_⟩
                            have hn : takeL b = none := takeL_bad (by have hlb : leastB b = if b.getD 1 0 + 1 = b.getD 2 0 then min (b.getD 1 0) 1 else 48 := rfl; split at hlb <;> omega)
                            show RTRes _ _ _ (takeL (blkO (r.read ((i : Nat) : Int))))
                            rw [← hbb, hn]; rfl
                          · replace hc99 := dF hc99
                            refine E.skip ?_
                            exact ⟨(by have hlb : leastB b = if b.getD 1 0 + 1 = b.getD 2 0 then min (b.getD 1 0) 1 else 48 := rfl; split at hlb <;> omega), hR, hB2, hB4, hB6, hB8, hE, rfl, rfl, rfl, trivial⟩
                        · have hg94q := hg94
                          replace hg94 := dF hg94
                          refine R.gF rfl (congrArg Value.bool hg94q) rfl ?_
                          refine R.gF rfl (congrArg Value.bool hg94q) rfl ?_
                          refine R.gF rfl (congrArg Value.bool hg94q) rfl ?_
                          refine R.gT rfl rfl ?_
                          refine R.pickF (congrArg Value.bool hg94q) ?_
                          refine R.pickF rfl ?_
                          refine R.nil ?_
                          refine E.condF rfl ?_
                          refine E.skip ?_
                          exact ⟨(by have hlb : leastB b = if b.getD 1 0 + 1 = b.getD 2 0 then min (b.getD 1 0) 1 else 48 := rfl; split at hlb <;> omega), hR, hB2, hB4, hB6, hB8, hE, rfl, rfl, rfl, trivial⟩
                      · have hg89q := hg89
                        replace hg89 := dF hg89
                        refine R.gF rfl (congrArg Value.bool hg89q) rfl ?_
                        refine R.gF rfl (congrArg Value.bool hg89q) rfl ?_
                        refine R.gF rfl (congrArg Value.bool hg89q) rfl ?_
                        refine R.gT rfl rfl ?_
                        refine R.pickF (congrArg Value.bool hg89q) ?_
                        refine R.gT rfl rfl ?_
                        refine R.move ?_
                        refine R.gF rfl rfl rfl ?_
                        refine R.gF rfl rfl rfl ?_
                        refine R.gF rfl rfl rfl ?_
                        refine R.gT rfl rfl ?_
                        refine R.pickF rfl ?_
                        refine R.pickF rfl ?_
                        refine R.nil ?_
                        refine E.condF rfl ?_
                        refine E.skip ?_
                        exact ⟨(by have hlb : leastB b = if b.getD 1 0 + 1 = b.getD 2 0 then min (b.getD 1 0) 1 else 48 := rfl; split at hlb <;> omega), hR, hB2, hB4, hB6, hB8, hE, rfl, rfl, rfl, trivial⟩
                  · rintro e wr ⟨hlb, hR, hB2, hB4, hB6, hB8, hE, hH⟩
                    obtain ⟨e, rfl⟩ := hH.ex
                    clear hH
                    refine E.seq ?_
                    refine E.seq ?_
                    refine E.regionP rfl ?_
                    refine R.assign ?_
                    refine R.nil ?_
                    refine E.block ?_
                    refine E.loop (fun n e wr => ∃ (k : Nat) (v : Value), n = 48 - k ∧ k ≤ 48 ∧ Fresh w v ∧ (∀ j, b.getD 3 0 ≤ j → j < k → b.getD (16 + j) 0 = 0) ∧ RD wr rb rd r ∧ Sl wr 5 1 v (((b.drop 16).take (min k (b.getD 3 0)))).length (u8s (((b.drop 16).take (min k (b.getD 3 0))))) ∧ Blk wr b2 31 #[rb, rd, .int .i64 (r.pw), .bool (r.tr)] ∧ Blk wr b4 120 #[.int .i64 ((0 : Nat) : Int), .int .i64 ((0 : Nat) : Int), .int .i64 ((0 : Nat) : Int), .int .i64 ((0 : Nat) : Int), .int .i64 ((0 : Nat) : Int), .slice none 0 0] ∧ Blk wr b6 26 (blkV b) ∧ Blk wr b8 120 #[.int .i64 (((b.getD 1 0) : Nat) : Int), .int .i64 (((b.getD 2 0) : Nat) : Int), .int .i64 ((wordL (b.drop 4) : Nat) : Int), .int .i64 ((wordL (b.drop 8) : Nat) : Int), .int .i64 ((wordL (b.drop 12) : Nat) : Int), v] ∧ Ext w wr ∧ Has e [(4, .pointer (some ⟨b4, 0, none⟩)), (6, .pointer (some ⟨b6, 0, none⟩)), (8, .pointer (some ⟨b8, 0, none⟩)), (9, .int .i64 ((k : Nat) : Int))]) (48) ?_ ?_
                    · exact ⟨0, .slice none 0 0, rfl, by omega, Fresh.nil _, fun j _ h => absurd h (Nat.not_lt_zero _), hR, (by rw [Nat.zero_min, List.take_zero]; exact Sl.nil _ _ _), hB2, hB4, hB6, hB8, hE, rfl, rfl, rfl, rfl, trivial⟩
                    · rintro n e wr ⟨k, v, rfl, hk, hfv, hz, hR, hV, hB2, hB4, hB6, hB8, hE, hH⟩
                      obtain ⟨e, rfl⟩ := hH.ex
                      clear hH
                      refine E.seq ?_
                      refine E.seq ?_
                      refine E.regionP rfl ?_
                      refine R.move ?_
                      refine R.lss (b := decide ((((k : Nat) : Int)) < (((48 : Nat) : Int)))) rfl rfl rfl ?_
                      refine R.nil ?_
                      refine E.cond (b := decide ((((k : Nat) : Int)) < (((48 : Nat) : Int)))) rfl (fun hc102 => ?_) (fun hc102 => ?_)
                      · replace hc102 := dT hc102
                        refine E.skip ?_
                        refine E.seq ?_
                        refine E.block ?_
                        refine E.seq ?_
                        refine E.regionP rfl ?_
                        refine R.move ?_
                        refine R.ixA (m := 3) Try.underlying26 t5 rfl rfl (by first | omega | decide) ?_
                        refine R.loadB (i := 0 + 3) (u := .int .u8 (((b.getD 3 0) : Nat) : Int)) t5 hB6 rfl (arr_getD (hb).1 (by first | omega | decide)) rfl trivial ?_
                        refine R.toI (n := (b.getD 3 0)) Try.underlying5 Try.underlying3 rfl (by omega) ?_
                        refine R.lss (b := decide ((((k : Nat) : Int)) < ((((b.getD 3 0) : Nat) : Int)))) rfl rfl rfl ?_
                        refine R.nil ?_
                        refine E.cond (b := decide ((((k : Nat) : Int)) < ((((b.getD 3 0) : Nat) : Int)))) rfl (fun hc109 => ?_) (fun hc109 => ?_)
                        · replace hc109 := dT hc109
                          refine E.regionW (fun c x => x < wr.heap.size ∧ (c = false → x ≠ b8 ∧ vblk v ≠ some x)) [111]  mixed rfl (by kernel_rfl) ?_
                          intro w27 hx27 hh27
                          replace hR := hR.ext hx27
                          replace hV := hV.ext hx27
                          replace hB2 := hB2.ext hx27
                          replace hB4 := hB4.ext hx27
                          replace hB6 := hB6.ext hx27
                          replace hB8 := hB8.ext hx27
                          replace hE := hE.ext hx27
                          have hEs : Ext w27 w27 := Upd.refl _
                          have hS0 := hx27.size
                          have hSB : ∀ b, b < w27.heap.size → b < wr.heap.size ∧ (true = false → (fun x => x ≠ b8 ∧ vblk v ≠ some x) b) := fun b hb => ⟨by rw [hh27] at hb; exact hb, nofun⟩
                          have hSA : ∀ b, b < w27.heap.size → (fun x => x ≠ b8 ∧ vblk v ≠ some x) b → b < wr.heap.size ∧ (false = false → (fun x => x ≠ b8 ∧ vblk v ≠ some x) b) := fun b hb h => ⟨by rw [hh27] at hb; exact hb, fun _ => h⟩
                          have hRs := hR
                          have hVs := hV
                          have hB2s := hB2
                          have hB4s := hB4
                          have hB6s := hB6
                          have hB8s := hB8
                          refine R.fld fa120_5 rfl ?_
                          refine R.loadB t55 hB8 rfl rfl rfl (hSB b8 hB8s.lt) ?_
                          refine R.move ?_
                          refine R.addN (m := 16) (n := k) rfl rfl (by omega) ?_
                          refine R.ixA (m := 16 + k) Try.underlying26 t5 rfl rfl (by first | omega | decide) ?_
                          refine R.loadB (i := 0 + (16 + k)) (u := .int .u8 (((b.getD (16 + k) 0) : Nat) : Int)) t5 hB6 rfl (arr_getD (hb).1 (by first | omega | decide)) rfl (hSA b6 hB6s.lt (⟨hB6s.ne hB8s (by decide), fun e => hB6s.ne_vblk hVs (by decide) e⟩)) ?_
                          refine R.buildSlice [.int .u8 (((b.getD (16 + k) 0) : Nat) : Int)] Try.underlying55 t5 rfl rfl (by simp [Value.cells]) (by simp) (fun _ _ _ hb => Nat.lt_of_lt_of_le hb.1 (Nat.le_trans hS0 hEs.size)) ?_
                          intro b116 w28 hb116 hx28 hB116 hS116
                          have hnb116 := Nat.le_trans (Nat.le_trans hS0 hEs.size) hb116
                          replace hb116 := Nat.le_trans hE.size hb116
                          replace hR := hR.ext hx28
                          replace hV := hV.ext hx28
                          replace hB2 := hB2.ext hx28
                          replace hB4 := hB4.ext hx28
                          replace hB6 := hB6.ext hx28
                          replace hB8 := hB8.ext hx28
                          replace hE := hE.ext hx28
                          replace hEs := hEs.ext hx28
                          replace hS116 : Sl _ 5 1 (.slice (some ⟨b116, 0, none⟩) 1 1) ([(b.getD (16 + k) 0)]).length (u8s ([(b.getD (16 + k) 0)])) := hS116
                          refine R.append Try.underlying55 Try.underlying55 t5 (by decide) rfl hV hS116.row u8s_one rfl rfl (by simp; omega) (by simp; omega) (fun _ b hb => ⟨Nat.lt_of_lt_of_le hb.1 (Nat.le_trans hS0 hEs.size), fun e => (hb.2 rfl).2 e⟩) ?_
                          intro v117 w29 hU29 hS117 hd29
                          have hF117 := Fresh.app hE hfv hd29
                          replace hR := hR.upS hU29 hV (by decide)
                          replace hB2 := hB2.upS hU29 hV (by decide)
                          replace hB4 := hB4.upS hU29 hV (by decide)
                          replace hB6 := hB6.upS hU29 hV (by decide)
                          replace hB8 := hB8.upS hU29 hV (by decide)
                          replace hE := hE.app hU29 hfv
                          replace hS117 : Sl w29 5 1 v117 ((((b.drop 16).take (min k (b.getD 3 0))) ++ [(b.getD (16 + k) 0)])).length (u8s ((((b.drop 16).take (min k (b.getD 3 0))) ++ [(b.getD (16 + k) 0)]))) := TA5 (xs := ((b.drop 16).take (min k (b.getD 3 0)))) (ys := [(b.getD (16 + k) 0)]) hS117
                          refine R.fld fa120_5 rfl ?_
                          refine R.store t55 hB8 rfl rfl (hS117.one) (by simp) (fun _ h => (h.2 rfl).1 rfl) ?_
                          intro w30 hU30 hs30 hN30
                          replace hR := hR.upT hU30 hB8 (by decide)
                          replace hS117 := hS117.upT hU30 hB8 (by decide)
                          replace hB2 := hB2.upT hU30 hB8 (by decide)
                          replace hB4 := hB4.up hU30 (fun h => ne4_8 h)
                          replace hB6 := hB6.upT hU30 hB8 (by decide)
                          replace hE := hE.own hU30 hb8
                          replace hB8 : Blk _ b8 120 #[.int .i64 (((b.getD 1 0) : Nat) : Int), .int .i64 (((b.getD 2 0) : Nat) : Int), .int .i64 ((wordL (b.drop 4) : Nat) : Int), .int .i64 ((wordL (b.drop 8) : Nat) : Int), .int .i64 ((wordL (b.drop 12) : Nat) : Int), v117] := hN30
                          clear hN30
                          refine R.nil ?_
                          refine E.forget [(4, .pointer (some ⟨b4, 0, none⟩)), (6, .pointer (some ⟨b6, 0, none⟩)), (8, .pointer (some ⟨b8, 0, none⟩)), (9, .int .i64 ((k : Nat) : Int))] ⟨rfl, rfl, rfl, rfl, trivial⟩ (fun e => ?_)
                          refine E.regionP rfl ?_
                          refine R.move ?_
                          refine R.addN (m := k) (n := 1) rfl rfl (by omega) ?_
                          refine R.assign ?_
                          refine R.nil ?_
                          exact ⟨48 - (k + 1), by omega, k + 1, v117, rfl, by omega, hF117, (fun j h1 h2 => hz j h1 (by omega)), hR, (by rw [Nat.min_eq_left (by omega)] at hS117 ⊢; rw [take_getD (z := 0) (by rw [List.length_drop, hb.1]; omega), getD_drop]; exact hS117), hB2, hB4, hB6, hB8, hE, rfl, rfl, rfl, rfl, trivial⟩
                        · replace hc109 := dF hc109
                          refine E.seq ?_
                          refine E.regionP rfl ?_
                          refine R.move ?_
                          refine R.addN (m := 16) (n := k) rfl rfl (by omega) ?_
                          refine R.ixA (m := 16 + k) Try.underlying26 t5 rfl rfl (by first | omega | decide) ?_
                          refine R.loadB (i := 0 + (16 + k)) (u := .int .u8 (((b.getD (16 + k) 0) : Nat) : Int)) t5 hB6 rfl (arr_getD (hb).1 (by first | omega | decide)) rfl trivial ?_
                          refine R.neq (b := !decide (((((b.getD (16 + k) 0) : Nat) : Int)) = (((0 : Nat) : Int)))) rfl rfl rfl ?_
                          refine R.nil ?_
                          refine E.cond (b := !decide (((((b.getD (16 + k) 0) : Nat) : Int)) = (((0 : Nat) : Int)))) rfl (fun hc123 => ?_) (fun hc123 => ?_)
                          · replace hc123 := nT hc123
                            skip
                            refine E.seq ?_
                            refine E.forget [(4, .pointer (some ⟨b4, 0, none⟩))] ⟨rfl, trivial⟩ (fun e => ?_)
                            refine E.regionP rfl ?_
                            refine R.build (bld120_e ) rfl ?_
                            refine R.storeA t120 hB4 rfl rfl rfl rfl (ones6 rfl rfl rfl rfl rfl rfl) nofun ?_
                            intro w31 hU31 hs31 hN31
                            replace hR := hR.upT hU31 hB4 (by decide)
                            replace hV := hV.upT hU31 hB4 (by decide)
                            replace hB2 := hB2.upT hU31 hB4 (by decide)
                            replace hB6 := hB6.upT hU31 hB4 (by decide)
                            replace hB8 := hB8.up hU31 (fun h => ne4_8 h.symm)
                            replace hE := hE.own hU31 hb4
                            replace hB4 : Blk _ b4 120 #[.int .i64 ((0 : Nat) : Int), .int .i64 ((0 : Nat) : Int), .int .i64 ((0 : Nat) : Int), .int .i64 ((0 : Nat) : Int), .int .i64 ((0 : Nat) : Int), .slice none 0 0] := hN31
                            clear hN31
                            refine R.assign ?_
                            refine R.nil ?_
                            refine E.ret ?_
                            refine retA1 (.bool (false)) t120 hB4 rfl rfl rfl rfl ⟨_, rfl, ?_⟩
                            refine ⟨hE, ?_⟩
                            have hn : takeL b = none := takeL_tail hb.1 (k := k) (by omega) (by omega) (by omega)
                            show RTRes _ _ _ (takeL (blkO (r.read ((i : Nat) : Int))))
                            rw [← hbb, hn]; rfl
                          · replace hc123 := nF hc123
                            refine E.skip ?_
                            refine E.forget [(4, .pointer (some ⟨b4, 0, none⟩)), (6, .pointer (some ⟨b6, 0, none⟩)), (8, .pointer (some ⟨b8, 0, none⟩)), (9, .int .i64 ((k : Nat) : Int))] ⟨rfl, rfl, rfl, rfl, trivial⟩ (fun e => ?_)
                            refine E.regionP rfl ?_
                            refine R.move ?_
                            refine R.addN (m := k) (n := 1) rfl rfl (by omega) ?_
                            refine R.assign ?_
                            refine R.nil ?_
                            exact ⟨48 - (k + 1), by omega, k + 1, v, rfl, by omega, hfv, (fun j h1 h2 => by rcases Nat.lt_or_ge j k with h3 | h3; exact hz j h1 h3; obtain rfl : j = k := (by omega); omega), hR, (by rw [Nat.min_eq_right (by omega)] at hV ⊢; exact hV), hB2, hB4, hB6, hB8, hE, rfl, rfl, rfl, rfl, trivial⟩
                      · replace hc102 := dF hc102
                        refine E.exit ?_
                        refine E.seq ?_
                        refine E.regionP rfl ?_
                        refine R.loadA t120 hB8 rfl rfl rfl trivial ?_
                        refine R.storeA t120 hB4 rfl rfl rfl rfl (ones6 rfl rfl rfl rfl rfl hV.one) nofun ?_
                        intro w32 hU32 hs32 hN32
                        replace hR := hR.upT hU32 hB4 (by decide)
                        replace hV := hV.upT hU32 hB4 (by decide)
                        replace hB2 := hB2.upT hU32 hB4 (by decide)
                        replace hB6 := hB6.upT hU32 hB4 (by decide)
                        replace hB8 := hB8.up hU32 (fun h => ne4_8 h.symm)
                        replace hE := hE.own hU32 hb4
                        replace hB4 : Blk _ b4 120 #[.int .i64 (((b.getD 1 0) : Nat) : Int), .int .i64 (((b.getD 2 0) : Nat) : Int), .int .i64 ((wordL (b.drop 4) : Nat) : Int), .int .i64 ((wordL (b.drop 8) : Nat) : Int), .int .i64 ((wordL (b.drop 12) : Nat) : Int), v] := hN32
                        clear hN32
                        refine R.assign ?_
                        refine R.nil ?_
                        refine E.ret ?_
                        refine retA1 (.bool (true)) t120 hB4 rfl rfl rfl rfl ⟨_, rfl, ?_⟩
                        refine ⟨hE, ?_⟩
                        obtain rfl : k = 48 := by omega
                        rw [take_min (by omega)] at hV
                        show RTRes _ _ _ (takeL (blkO (r.read ((i : Nat) : Int))))
                        rw [← hbb, takeL_good hb.1 (by omega) (fun j h1 h2 => hz j h1 h2)]
                        exact ⟨v, rfl, hV, hfv⟩
end Go.Proofs.Ytlplogplicgfiaa
