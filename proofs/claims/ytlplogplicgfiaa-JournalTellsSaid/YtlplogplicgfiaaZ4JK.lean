import Derived.Test.YtlplogplicgfiaaZ4JH
import Derived.Laws.StructEq
namespace Go.Proofs.Ytlplogplicgfiaa
open Go Go.RowKit
namespace R
variable {P : Program} {ops : Array Oper} {S : Bool → Nat → Prop} {dr : Bool} {B : List Nat} {F : Env → World → Prop} {rest : List Oper} {e : Env} {w : World}
variable {d : Tmp} {od : Option Tmp} {ty : TypeId} {pos : String} {aft : Array Edge}
theorem eqlA {x y : Operand} {t t' : TypeId} {xs ys : Array Value} {b' : Bool} (hx : ev e x = .agg xs) (hy : ev e y = .agg ys) (hg : P.eqGuardType P.depth t = false)
    (hq : ∀ w, (Op.equalIn 10000 t (.agg xs) (.agg ys)).run P w = .ok b' w)
    (h : wpR P ops S dr (kind B) F rest (upd e d (.bool b')) w) : wpR P ops S dr (kind B) F (⟨some d, .binOp .eql t x y t', ty, pos, aft, none⟩ :: rest) e w :=
  quiet (.bool b') rfl (fun w' _ => by
    have h1 : ∀ w, (eqGuard .eql t x y (.agg xs) (.agg ys)).run P w = .ok () w := fun w => run_eqGuard_agg w .eql t x y _ _ hg
    simp only [execOp, hx, hy, Sem.run_bind, h1, Result.andThen_ok, run_eql_struct, hq, Sem.run_pure]) h
theorem neqA {x y : Operand} {t t' : TypeId} {xs ys : Array Value} {b' : Bool} (hx : ev e x = .agg xs) (hy : ev e y = .agg ys) (hg : P.eqGuardType P.depth t = false)
    (hq : ∀ w, (Op.equalIn 10000 t (.agg xs) (.agg ys)).run P w = .ok b' w)
    (h : wpR P ops S dr (kind B) F rest (upd e d (.bool (!b'))) w) : wpR P ops S dr (kind B) F (⟨some d, .binOp .neq t x y t', ty, pos, aft, none⟩ :: rest) e w :=
  quiet (.bool (!b')) rfl (fun w' _ => by
    have h1 : ∀ w, (eqGuard .neq t x y (.agg xs) (.agg ys)).run P w = .ok () w := fun w => run_eqGuard_agg w .neq t x y _ _ hg
    simp only [execOp, hx, hy, Sem.run_bind, h1, Result.andThen_ok, run_neq_struct, hq, Sem.run_pure]) h
theorem maxN {x y : Operand} {ats : Array TypeId} {m n : Nat} (hx : ev e x = .int .i64 (m : Nat)) (hy : ev e y = .int .i64 (n : Nat))
    (h : wpR P ops S dr (kind B) F rest (upd e d (.int .i64 ((max m n : Nat) : Int))) w) : wpR P ops S dr (kind B) F (⟨some d, .call { callee := .builtin .max, args := #[x, y], argTypes := ats }, ty, pos, aft, none⟩ :: rest) e w := by
  refine R.quiet (N6 (max m n)) rfl (fun w' _ => ?_) h; simp [execOp, resolve, invoke, builtin, hx, hy, run_max_int2]
  split <;> omega
theorem loadS {x : Operand} {t : TypeId} {c : Bool} {k by_ b off : Nat} {z : Value} {tb : TypeId} {cs : Array Value} {us : List Value} (hk : Ty P t k by_ true z) (hb : Blk w b tb cs) (hx : ev e x = .pointer (some ⟨b, off, none⟩)) (hi : (cs.toList.drop off).take k = us) (hu : us.length = k) (hc : B.contains d = c) (hS : S c b)
    (h : wpR P ops S dr (kind B) F rest (upd e d (.agg us.toArray)) w) : wpR P ops S dr (kind B) F (⟨some d, .load t x, ty, pos, aft, none⟩ :: rest) e w := by
  refine quietL (.agg us.toArray) hc (fun w' ha => ?_) h; have hl : (loadCells ⟨b, off, none⟩ us.length).run P w' = .ok us.toArray w' := run_loadCells_list (P := P) (w := w') ⟨b, off, none⟩ us (fun j v hj => by
    have hik : j < k := by rw [← hu]; exact (List.getElem?_eq_some_iff.1 hj).1
    rw [add_none, cell_agree (w := w) (ha _ hS), hb.cell, ← hj, ← hi, List.getElem?_take, if_pos hik, List.getElem?_drop, Array.getElem?_toList])
  rw [hu] at hl; simp [execOp, hx, Instr.loadAt, Instr.sureAddr, loadVar, hk.isAgg, hk.sizeOf, hl]
end R
theorem bld133 {a b : Int} (w : World) : (Instr.build 133 #[(0, .int .i64 a), (1, .int .i64 b)]).run Try.prog w = .ok (.agg #[.int .i64 a, .int .i64 b]) w := by
  simp [Instr.build, t133.zero, underlying, Try.underlying133, t3.sizeOf, Instr.fill, Value.cells]
theorem hd_eq {h g : Hd} : h = g ↔ h.total = g.total ∧ h.number = g.number ∧ h.life = g.life ∧ h.first = g.first := by
  cases h; cases g; simp
theorem eq103 {h g : Hd} (w : World) : (Op.equalIn 10000 103 (.agg (hdC h)) (.agg (hdC g))).run Try.prog w = .ok (decide (h = g)) w := by
  rw [run_equalIn_struct w 9999 103 _ _ (by kernel_rfl) Try.stoodInHeld103]; have hf : Try.prog.fieldsOf 103 = (match Try.prog.underlying 103 with | some (.struct fs) => fs | _ => #[]) := by kernel_rfl
  rw [hf, Try.underlying103]; have hag : ∀ w, (isAgg 3).run Try.prog w = .ok false w := fun w => t3.isAgg w; have hsz : ∀ w, (sizeOf 3).run Try.prog w = .ok 1 w := fun w => t3.sizeOf w; have e : decide (h = g) = decide (h.total = g.total ∧ h.number = g.number ∧ h.life = g.life ∧ h.first = g.first) := decide_eq_decide.2 hd_eq; rw [e]
  by_cases h1 : h.total = g.total <;> by_cases h2 : h.number = g.number <;> by_cases h3 : h.life = g.life <;> by_cases h4 : h.first = g.first <;>
    simp [Op.eqFields, part, hag, hsz, run_equalIn_int _ _ _ _ _ _ _ Try.underlying3, h1, h2, h3, h4] <;> omega
theorem all_range_eqN : ∀ (xs ys : List Nat), xs.length = ys.length → ((List.range xs.length).all fun i => decide (xs.getD i 0 = ys.getD i 0)) = decide (xs = ys)
  | [], [], _ => rfl
  | x :: xs, y :: ys, h => by
    have ih := all_range_eqN xs ys (by simpa using h); rw [List.length_cons, List.range_succ_eq_map, List.all_cons, List.all_map]; simp only [List.getD_cons_zero, Function.comp_def, List.getD_cons_succ, ih]; by_cases h1 : x = y <;> by_cases h2 : xs = ys <;> simp [h1, h2]
  | [], _ :: _, h => by simp at h
  | _ :: _, [], h => by simp at h
theorem eqArr {P : Program} {t e n : Nat} (ht : P.underlying t = some (.array n e)) (he : P.underlying e = some (.int .u8)) (hsz : ∀ w, (sizeOf e).run P w = .ok 1 w)
    {xs ys : List Nat} (hx : xs.length = n) (hy : ys.length = n) (w : World) : (Op.equalIn 10000 t (.agg (blkV xs)) (.agg (blkV ys))).run P w = .ok (decide (xs = ys)) w := by
  rw [← all_range_eqN xs ys (hx.trans hy.symm), hx, List.range_eq_range', Op.equalIn]; simp only [Sem.run_bind, run_underlying ht, Result.andThen_ok, hsz, Std.Legacy.Range.forIn_eq_forIn_range', Std.Legacy.Range.size, Nat.sub_zero, Nat.add_sub_cancel, Nat.div_one]; have hl : ∀ i ∈ List.range' 0 n 1, i < n := fun i hi => by simpa using (List.mem_range'_1.1 hi).2
  generalize List.range' 0 n 1 = l at hl ⊢
  induction l with
  | nil => simp
  | cons i l ih =>
    have hi : i < n := hl i (by simp); have p : ∀ (zs : List Nat), zs.length = n → (part e (blkV zs) (i * 1)).run P w = .ok (.int .u8 (zs.getD i 0 : Nat)) w := fun zs hz => by
      simp [part, isAgg, run_underlying he, List.getD, List.getElem?_eq_getElem (show i < zs.length by omega)]
    have pe : (Op.equalIn 9999 e (.int .u8 (xs.getD i 0 : Nat)) (.int .u8 (ys.getD i 0 : Nat))).run P w = .ok (decide (xs.getD i 0 = ys.getD i 0)) w := by
      rw [run_equalIn_int w 9998 e .u8 .u8 _ _ he]
      congr 1
      rw [Bool.eq_iff_iff]; simp; omega
    simp only [List.forIn_cons, Sem.run_bind, p xs hx, p ys hy, pe, Result.andThen_ok, List.all_cons]; cases hb : (decide (xs.getD i 0 = ys.getD i 0))
    · simp
    · simp only [Bool.not_true, Bool.false_eq_true, if_false, Sem.run_pure, Result.andThen_ok, Bool.true_and]; exact ih fun j hj => hl j (by simp [hj])
theorem eq27 {xs ys : List Nat} (hx : BlockP xs) (hy : BlockP ys) (w : World) : (Op.equalIn 10000 27 (.agg (blkV xs)) (.agg (blkV ys))).run Try.prog w = .ok (decide (xs = ys)) w :=
  eqArr Try.underlying27 Try.underlying5 (fun w => t5.sizeOf w) hx.1 hy.1 w
theorem eq26 {xs ys : List Nat} (hx : BlockP xs) (hy : BlockP ys) (w : World) : (Op.equalIn 10000 26 (.agg (blkV xs)) (.agg (blkV ys))).run Try.prog w = .ok (decide (xs = ys)) w :=
  eqArr Try.underlying26 Try.underlying5 (fun w => t5.sizeOf w) hx.1 hy.1 w
end Go.Proofs.Ytlplogplicgfiaa

namespace Go.Proofs.Ytlplogplicgfiaa
open Go Go.RowKit
def tk (d : Dk) (i : Int) : Option (Hd × Nat × List Nat) := takeL (blkO (d.read i))
theorem Dk.okO {d : Dk} {i : Int} (h : ∀ b ∈ d.bl, BlockP b) : BlockP (blkO (d.read i)) := by
  unfold Dk.read
  split
  · split
    · exact zeroB_ok
    · show BlockP (d.bl.getD i.toNat [])
      rename_i h1 _
      rcases Nat.lt_or_ge i.toNat d.bl.length with h2 | h2
      · rw [List.getD_eq_getElem?_getD, List.getElem?_eq_getElem h2]; exact h _ (List.getElem_mem h2)
      · have h3 := (Dk.n_pos (d := d) (by omega)).2.1; omega
  · exact zeroB_ok
theorem takeCases (b : List Nat) : takeL b = none ∨ ∃ g j dt, takeL b = some (g, j, dt) := by
  cases h : takeL b with
  | none => exact .inl rfl
  | some x => exact .inr ⟨x.1, x.2.1, x.2.2, rfl⟩
def hitL (o : Option (Hd × Nat × List Nat)) (h : Hd) (k : Nat) : Option (List Nat) :=
  match o with
  | some (g, j, dt) => if g = h ∧ j = k then some dt else none
  | none => none
theorem hitL_miss {g h : Hd} {j k : Nat} {dt : List Nat} (hn : ¬ (g = h ∧ j = k)) : hitL (some (g, j, dt)) h k = none := by simp [hitL, hn]
theorem hitL_hit {g h : Hd} {j k : Nat} {dt : List Nat} (h1 : g = h) (h2 : j = k) : hitL (some (g, j, dt)) h k = some dt := by simp [hitL, h1, h2]
def partL (d : Dk) (pl : Nat) (h : Hd) (k : Nat) : Option (List Nat) :=
  match hitL (tk d pl) h k with
  | some x => some x
  | none => hitL (tk d ((pl + d.n : Nat) : Int)) h k
theorem at2 {a n i : Nat} (h : i < 2) : (#[Value.int .i64 (a : Int), .int .i64 ((a + n : Nat) : Int)])[i]? = some (.int .i64 ((a + i * n : Nat) : Int)) := by
  rcases (show i = 0 ∨ i = 1 by omega) with rfl | rfl <;> simp
def PRes (w w' : World) (r : Value) : Option (List Nat) → Prop
  | none => r = .tuple #[.slice none 0 0, .bool false]
  | some dt => ∃ v, r = .tuple #[v, .bool true] ∧ SU8s w' v dt ∧ Fresh w v
theorem part_none {d : Dk} {pl k : Nat} {h : Hd} (hz : ∀ j, j < 2 → hitL (tk d ((pl + j * d.n : Nat) : Int)) h k = none) : partL d pl h k = none := by
  have h0 := hz 0 (by decide); have h1 := hz 1 (by decide); simp only [Nat.zero_mul, Nat.add_zero, Nat.one_mul] at h0 h1; unfold partL; rw [h0]; exact h1
theorem part_some {d : Dk} {pl k i : Nat} {h : Hd} {dt : List Nat} (hi : i < 2) (hz : ∀ j, j < i → hitL (tk d ((pl + j * d.n : Nat) : Int)) h k = none) (hh : hitL (tk d ((pl + i * d.n : Nat) : Int)) h k = some dt) : partL d pl h k = some dt := by
  unfold partL; rcases (show i = 0 ∨ i = 1 by omega) with rfl | rfl
  · simp only [Nat.zero_mul, Nat.add_zero] at hh; rw [hh]
  · have h0 := hz 0 (by decide); simp only [Nat.zero_mul, Nat.add_zero, Nat.one_mul] at h0 hh; rw [h0]; exact hh
theorem snoc_none {p : Nat → Prop} {i : Nat} (hz : ∀ j, j < i → p j) (h : p i) : ∀ j, j < i + 1 → p j := fun j hj => by
  rcases Nat.lt_or_ge j i with h1 | h1
  · exact hz j h1
  · have e : j = i := by omega
    subst e; exact h
theorem part_ (w : World) {b900 pl k : Nat} {vb vd : Value} {d : Dk} {h : Hd} (hD : DM w b900 vb vd d) (hpl : pl ≤ 1000000) :
    Calls Try.prog 74 #[.pointer (some ⟨b900, 0, none⟩), .int .i64 (pl : Nat), .agg (hdC h), .int .i64 (k : Nat)] w (Ret fun r w' => Ext w w' ∧ PRes w w' r (partL d pl h k)) := by
  have hnl := d.n_le; refine calls_E (args := [P6 b900, N6 pl, .agg #[N6 h.total, N6 h.number, N6 h.life, N6 h.first], N6 k]) 53 Try.func74 rfl rfl (by simp) ?_; have hE : Ext w w := Upd.refl w; refine E.seq ?_; refine E.regionP rfl ?_; refine R.box rfl nofun ?_; intro b6 w1 hb6 hx1 hB6; replace hb6 := Nat.le_trans hE.size hb6; replace hD := hD.ext hx1; replace hE := hE.ext hx1; replace hB6 : Blk _ b6 103 #[N6 h.total, N6 h.number, N6 h.life, N6 h.first] := hB6; (iterate 2 refine R.assign ?_); refine R.nil ?_; (iterate 2 refine E.seq ?_); refine E.regionP rfl ?_; (iterate 3 refine R.move ?_); refine R.callE1 ent43 (places_ _ hD) rfl nofun ?_; rintro v21 w2 hx2 rfl; replace hD := hD.ext hx2; replace hB6 := hB6.ext hx2; replace hE := hE.ext hx2; refine R.addN (m := pl) (n := d.n) rfl rfl (by omega) ?_; refine R.build bld133 rfl ?_; refine R.move ?_; refine R.nil ?_; refine E.block ?_; refine E.loop (fun n e wr => ∃ (i : Nat), n = 2 - i ∧ i ≤ 2 ∧ (∀ j, j < i → hitL (tk d ((pl + j * d.n : Nat) : Int)) h k = none) ∧ DM wr b900 vb vd d ∧ Blk wr b6 103 #[N6 h.total, N6 h.number, N6 h.life, N6 h.first] ∧ Ext w wr ∧ Has e [(0, P6 b900), (3, N6 k), (6, P6 b6), (23, .agg #[N6 pl, N6 (pl + d.n)]), (24, N6 i)]) (2) ?_ ?_
  · exact ⟨0, rfl, by omega, fun j hj => absurd hj (Nat.not_lt_zero _), hD, hB6, hE, rfl, rfl, rfl, rfl, rfl, trivial⟩
  · rintro n e wr ⟨i, rfl, hi, hz, hD, hB6, hE, hH⟩; obtain ⟨e, rfl⟩ := hH.ex; clear hH; refine E.seq ?_; refine E.regionP rfl ?_; refine R.lss (b := decide (((i : Int)) < (((2 : Nat) : Int)))) rfl rfl rfl ?_; refine R.nil ?_; refine E.seq ?_; refine E.cond (b := decide (((i : Int)) < (((2 : Nat) : Int)))) rfl (fun hc25 => ?_) (fun hc25 => ?_)
    · replace hc25 := dT hc25; refine E.skip ?_; refine E.seq ?_; refine E.block ?_; refine E.seq ?_; refine E.regionP rfl ?_; refine R.indexA (m := i) (u := N6 (pl + i * d.n)) Try.underlying133 t3 rfl rfl (by omega) (at2 (by omega)) rfl ?_; refine R.assign ?_; refine R.nil ?_; refine E.seq ?_; refine E.regionP rfl ?_; (iterate 2 refine R.move ?_); refine R.callE2 ent15 (read_ _ hD) rfl rfl nofun ?_; rintro v30 w3 hx3 rfl; replace hD := hD.ext hx3; replace hB6 := hB6.ext hx3; replace hE := hE.ext hx3; refine R.move ?_; (iterate 2 refine R.extract rfl rfl ?_); refine R.alloc t27 nofun ?_; intro b12 w4 hb12 hx4 hB12; have hn_hD_12 := hD.new hb12; replace hb12 := Nat.le_trans hE.size hb12; replace hD := hD.ext hx4; replace hB6 := hB6.ext hx4; replace hE := hE.ext hx4; replace hB12 : Blk _ b12 27 (Array.replicate 64 (.int .u8 0)) := hB12; rw [← zeroV] at hB12; refine R.storeA t27 hB12 rfl rfl (blkV_size zeroB_ok.1) (blkV_size (Dk.okO hD.ok).1) blkV_ones nofun ?_; intro w5 hU5 hs5 hN5; replace hD := hD.upN hU5 hn_hD_12; replace hB6 := hB6.upT hU5 hB12 (by decide); replace hE := hE.own hU5 hb12; replace hB12 : Blk _ b12 27 (blkV ((blkO (d.read ((pl + i * d.n : Nat) : Int))))) := hN5; refine R.assign ?_; refine R.nil ?_; refine E.seq ?_; refine E.regionP rfl ?_; refine R.loadA t27 hB12 rfl (blkV_size (Dk.okO hD.ok).1) rfl trivial ?_; refine R.callE1 ent73 (take_ _ (Dk.okO hD.ok)) rfl nofun ?_; rintro v35 w6 hx6 hT35; have hE0 := hE; replace hD := hD.ext hx6; replace hB6 := hB6.ext hx6; replace hB12 := hB12.ext hx6; replace hE := hE.ext hx6; have hk35 := takeCases ((blkO (d.read ((pl + i * d.n : Nat) : Int)))); rcases hk35 with hk35 | ⟨g35, j35, dt35, hk35⟩
      · rw [hk35] at hT35; replace hT35 : _ = Value.tuple _ := hT35; subst hT35; refine R.move ?_; (iterate 4 refine R.extract rfl rfl ?_); refine R.alloc t103 nofun ?_; intro b14 w7 hb14 hx7 hB14; have ne6_14 : b6 ≠ b14 := by have := hB6.lt; omega
        replace hb14 := Nat.le_trans hE.size hb14; replace hD := hD.ext hx7; replace hB6 := hB6.ext hx7; replace hB12 := hB12.ext hx7; replace hE := hE.ext hx7; replace hB14 : Blk _ b14 103 #[N6 0, N6 0, N6 0, N6 0] := hB14; refine R.storeA t103 hB14 rfl rfl rfl rfl (ones4 rfl rfl rfl rfl) nofun ?_; intro w8 hU8 hs8 hN8; replace hD := hD.upT hU8 hB14 (by decide); replace hB6 := hB6.up hU8 (fun h => ne6_14 h); replace hB12 := hB12.upT hU8 hB14 (by decide); replace hE := hE.own hU8 hb14; replace hB14 : Blk _ b14 103 #[N6 0, N6 0, N6 0, N6 0] := hN8; clear hN8; (iterate 3 refine R.assign ?_); refine R.nil ?_; refine E.seq ?_; refine E.forget [(0, P6 b900), (3, N6 k), (6, P6 b6), (14, P6 b14), (15, N6 0), (16, .slice none 0 0), (17, .bool (false)), (23, .agg #[N6 pl, N6 (pl + d.n)]), (24, N6 i)] ⟨rfl, rfl, rfl, rfl, rfl, rfl, rfl, rfl, rfl, trivial⟩ (fun e => ?_); refine E.regionP rfl ?_; (iterate 2 refine R.move ?_); (iterate 3 refine R.gF rfl rfl rfl ?_); refine R.pickF rfl ?_; refine R.move ?_; (iterate 3 refine R.gF rfl rfl rfl ?_); refine R.pickF rfl ?_; refine R.nil ?_; refine E.condF rfl ?_; refine E.skip ?_; refine E.forget [(0, P6 b900), (3, N6 k), (6, P6 b6), (23, .agg #[N6 pl, N6 (pl + d.n)]), (24, N6 i)] ⟨rfl, rfl, rfl, rfl, rfl, trivial⟩ (fun e => ?_); refine E.regionP rfl ?_; refine R.addN (m := i) (n := 1) rfl rfl (by omega) ?_; refine R.move ?_; refine R.nil ?_; have hm : hitL (tk d ((pl + i * d.n : Nat) : Int)) h k = none := by unfold tk; rw [hk35]; rfl
        exact ⟨2 - (i + 1), by omega, i + 1, rfl, by omega, snoc_none hz hm, hD, hB6, hE, rfl, rfl, rfl, rfl, rfl, trivial⟩
      · rw [hk35] at hT35; obtain ⟨u35, rfl, hS35, hF35⟩ := hT35; replace hF35 := hF35.mono hE0.size; refine R.move ?_; (iterate 4 refine R.extract rfl rfl ?_); refine R.alloc t103 nofun ?_; intro b14 w9 hb14 hx9 hB14; have ne6_14 : b6 ≠ b14 := by have := hB6.lt; omega
        replace hb14 := Nat.le_trans hE.size hb14; replace hD := hD.ext hx9; replace hS35 := hS35.ext hx9; replace hB6 := hB6.ext hx9; replace hB12 := hB12.ext hx9; replace hE := hE.ext hx9; replace hB14 : Blk _ b14 103 #[N6 0, N6 0, N6 0, N6 0] := hB14; refine R.storeA t103 hB14 rfl rfl rfl rfl (ones4 rfl rfl rfl rfl) nofun ?_; intro w10 hU10 hs10 hN10; replace hD := hD.upT hU10 hB14 (by decide); replace hS35 := hS35.upT hU10 hB14 (by decide); replace hB6 := hB6.up hU10 (fun h => ne6_14 h); replace hB12 := hB12.upT hU10 hB14 (by decide); replace hE := hE.own hU10 hb14; replace hB14 : Blk _ b14 103 #[N6 g35.total, N6 g35.number, N6 g35.life, N6 g35.first] := hN10; clear hN10; (iterate 3 refine R.assign ?_); refine R.nil ?_; refine E.seq ?_; refine E.forget [(0, P6 b900), (3, N6 k), (6, P6 b6), (14, P6 b14), (15, N6 j35), (16, u35), (17, .bool (true)), (23, .agg #[N6 pl, N6 (pl + d.n)]), (24, N6 i)] ⟨rfl, rfl, rfl, rfl, rfl, rfl, rfl, rfl, rfl, trivial⟩ (fun e => ?_); refine E.regionP rfl ?_; (iterate 2 refine R.move ?_); refine R.gT rfl rfl ?_; refine R.loadA t103 hB14 rfl rfl rfl trivial ?_; refine R.gT rfl rfl ?_; refine R.loadA t103 hB6 rfl rfl rfl trivial ?_; refine R.gT rfl rfl ?_; refine R.eqlA (b' := decide (g35 = h)) rfl rfl Try.eqGuardType103 eq103 ?_; refine R.pickT rfl ?_; refine R.move ?_; have hg46 := Bool.eq_false_or_eq_true (decide (g35 = h)); rcases hg46 with hg46 | hg46
        · have hg46q := hg46; replace hg46 := dT hg46; refine R.gT rfl (cb6 hg46q) ?_; refine R.move ?_; refine R.gT rfl (cb6 hg46q) ?_; refine R.move ?_; refine R.gT rfl (cb6 hg46q) ?_; refine R.eql (b := decide (((j35 : Int)) = ((k : Int)))) rfl rfl rfl ?_; refine R.pickT (cb6 hg46q) ?_; refine R.nil ?_; refine E.cond (b := decide (((j35 : Int)) = ((k : Int)))) rfl (fun hc50 => ?_) (fun hc50 => ?_)
          · replace hc50 := dT hc50; refine E.seq ?_; refine E.forget [(16, u35)] ⟨rfl, trivial⟩ (fun e => ?_); refine E.regionP rfl ?_; refine R.move ?_; (iterate 2 refine R.assign ?_); refine R.nil ?_; refine E.ret ?_; refine ret2 (u35) (.bool (true)) rfl rfl rfl ⟨_, rfl, ?_⟩; refine ⟨hE, ?_⟩; rw [part_some (by omega) hz (show hitL (tk d ((pl + i * d.n : Nat) : Int)) h k = some dt35 by unfold tk; rw [hk35]; exact hitL_hit hg46 (by omega))]; exact ⟨u35, rfl, hS35, hF35⟩
          · replace hc50 := dF hc50; refine E.skip ?_; refine E.forget [(0, P6 b900), (3, N6 k), (6, P6 b6), (23, .agg #[N6 pl, N6 (pl + d.n)]), (24, N6 i)] ⟨rfl, rfl, rfl, rfl, rfl, trivial⟩ (fun e => ?_); refine E.regionP rfl ?_; refine R.addN (m := i) (n := 1) rfl rfl (by omega) ?_; refine R.move ?_; refine R.nil ?_; have hm : hitL (tk d ((pl + i * d.n : Nat) : Int)) h k = none := by unfold tk; rw [hk35]; exact hitL_miss (fun h => hc50 (by omega))
            exact ⟨2 - (i + 1), by omega, i + 1, rfl, by omega, snoc_none hz hm, hD, hB6, hE, rfl, rfl, rfl, rfl, rfl, trivial⟩
        · have hg46q := hg46; replace hg46 := dF hg46; (iterate 3 refine R.gF rfl (cb6 hg46q) rfl ?_); refine R.pickF (cb6 hg46q) ?_; refine R.nil ?_; refine E.condF rfl ?_; refine E.skip ?_; refine E.forget [(0, P6 b900), (3, N6 k), (6, P6 b6), (23, .agg #[N6 pl, N6 (pl + d.n)]), (24, N6 i)] ⟨rfl, rfl, rfl, rfl, rfl, trivial⟩ (fun e => ?_); refine E.regionP rfl ?_; refine R.addN (m := i) (n := 1) rfl rfl (by omega) ?_; refine R.move ?_; refine R.nil ?_; have hm : hitL (tk d ((pl + i * d.n : Nat) : Int)) h k = none := by unfold tk; rw [hk35]; exact hitL_miss (fun h => hg46 h.1)
          exact ⟨2 - (i + 1), by omega, i + 1, rfl, by omega, snoc_none hz hm, hD, hB6, hE, rfl, rfl, rfl, rfl, rfl, trivial⟩
    · replace hc25 := dF hc25; refine E.exit ?_; refine E.seq ?_; refine E.regionP rfl ?_; (iterate 2 refine R.assign ?_); refine R.nil ?_; refine E.ret ?_; refine ret2 (.slice none 0 0) (.bool (false)) rfl rfl rfl ⟨_, rfl, ?_⟩; refine ⟨hE, ?_⟩; rw [part_none (fun j hj => hz j (by omega))]; rfl
end Go.Proofs.Ytlplogplicgfiaa
