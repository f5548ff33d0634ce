/- limits -/
import Derived.Test.YtfdmndkoiheebaaH1
namespace Go.Proofs.Ytfdmndkoiheebaa
open Go Go.RowKit


/-- Moves to and fro. -/
def alt (i : Nat) : Int × Int := (((i % 2 : Nat) : Int), ((1 - i % 2 : Nat) : Int))
def alts (k : Nat) : List (Int × Int) := (List.range k).map alt
def stOf (i : Nat) : List (List Int) := if i % 2 = 0 then [[1], []] else [[], [1]]
theorem alts_succ (k : Nat) : alts (k + 1) = alts k ++ [alt k] := by simp [alts, List.range_succ]
theorem alts_len (k : Nat) : (alts k).length = k := by simp [alts]
theorem stOf_step (i : Nat) : shiftL (stOf i) 1 (alt i).1 (alt i).2 = (stOf (i + 1), 0) := by
  rcases Nat.mod_two_eq_zero_or_one i with h | h
  · have h2 : (i + 1) % 2 = 1 := by omega
    simp only [stOf, alt, h, h2]; decide
  · have h2 : (i + 1) % 2 = 0 := by omega
    simp only [stOf, alt, h, h2]; decide
theorem play_alts (i k : Nat) (r : List (Int × Int)) : playL 1 (stOf i) i ((List.range' i k).map alt ++ r) = playL 1 (stOf (i + k)) (i + k) r := by
  induction k generalizing i with
  | zero => simp
  | succ k ih =>
    rw [List.range'_succ, List.map_cons, List.cons_append]
    simp only [playL, stOf_step, if_true]
    rw [ih (i + 1), show i + 1 + k = i + (k + 1) by omega]
theorem right_st : rightB [[1], []] 1 = true := by decide
theorem playR_alts {k : Nat} (h : k ≤ 10000) : playR [[1], []] 1 (alts k) = (stOf k, 1, 0, 0) := by
  have e : playL (1 : Int).toNat [[1], []] 0 (alts k) = (stOf k, 0, 0) := by
    have := play_alts 0 k []
    rw [List.append_nil, Nat.zero_add] at this
    rw [alts, List.range_eq_range']
    exact this
  simp only [playR, right_st, alts_len]
  rw [if_neg (by simp), if_neg (by omega), e]; rfl
theorem playR_many {k : Nat} (h : 10000 < k) : playR [[1], []] 1 (alts k) = ([], 0, 0, 5) := by
  simp only [playR, right_st, alts_len]
  rw [if_neg (by simp), if_pos h]
theorem playR_wrong {k : Nat} (h : k < 10000) : playR [[1], []] 1 (alts k ++ [(2, 0)]) = ([], 0, k, 6) := by
  have e : playL (1 : Int).toNat [[1], []] 0 (alts k ++ [(2, 0)]) = ([], k, 6) := by
    have := play_alts 0 k [(2, 0)]
    rw [Nat.zero_add] at this
    rw [alts, List.range_eq_range']
    refine this.trans ?_
    have hs : shiftL (stOf k) 1 2 0 = (stOf k, 6) := by
      rcases Nat.mod_two_eq_zero_or_one k with h | h <;> simp only [stOf, h] <;> decide
    simp [playL, hs]
  simp only [playR, right_st]
  rw [if_neg (by simp), if_neg (by simp [alts_len]; omega), e]; rfl
theorem set_last (k : Nat) (m : Int × Int) : (alts (k + 1)).set k m = alts k ++ [m] := by
  rw [alts_succ, List.set_append_right _ _ (by rw [alts_len]; exact Nat.le_refl _), alts_len]; simp
theorem movesC_set {ms : List (Int × Int)} {i : Nat} {m : Int × Int} (h : i < ms.length) : (movesC (ms.set i m)).length = (movesC ms).length ∧ ∀ j, (movesC (ms.set i m))[j]? = if j = i * 2 then some (.int .i64 m.1) else if j = i * 2 + 1 then some (.int .i64 m.2) else (movesC ms)[j]? := by
  refine ⟨by simp [movesC_len], fun j => ?_⟩
  by_cases hj : j < ms.length * 2
  · have g1 := movesC_get (ms := ms.set i m) (i := j / 2) (by simp; omega)
    have g2 := movesC_get (ms := ms) (i := j / 2) (by omega)
    rcases (show j = j / 2 * 2 ∨ j = j / 2 * 2 + 1 by omega) with e | e
    · by_cases hij : j / 2 = i
      · rw [if_pos (by omega)]
        rw [e, g1.1]; subst hij; simp
      · rw [if_neg (by omega), if_neg (by omega)]
        rw [e, g1.1, g2.1, List.getElem_set_ne (by omega)]
    · by_cases hij : j / 2 = i
      · rw [if_neg (by omega), if_pos (by omega)]
        rw [e, g1.2]; subst hij; simp
      · rw [if_neg (by omega), if_neg (by omega)]
        rw [e, g1.2, g2.2, List.getElem_set_ne (by omega)]
  · rw [if_neg (by omega), if_neg (by omega), List.getElem?_eq_none (by rw [movesC_len]; simp; omega), List.getElem?_eq_none (by rw [movesC_len]; omega)]
/-- A move of a list of one's own is exchanged. -/
theorem R.stM {P : Program} {ops : Array Oper} {S : Bool → Nat → Prop} {dr : Bool} {B : List Nat} {F : Env → World → Prop} {rest : List Oper} {e : Env} {w : World} {od : Option Tmp} {ty : TypeId} {pos : String} {aft : Array Edge} {x y : Operand} {t tb : TypeId} {by_ i : Nat} {z v : Value} {ms : List (Int × Int)} {m : Int × Int}
    (hk : Ty P t 2 by_ true z) (hs : Sl w tb 2 v ms.length (movesC ms)) (hx : ev e x = elemPtr v (i * 2)) (hy : ev e y = .agg #[.int .i64 m.1, .int .i64 m.2]) (hi : i < ms.length) (hag : dr = true → ∀ b, vblk v = some b → ¬ S false b)
    (h : ∀ w', Upd (fun b => vblk v = some b) w w' → w'.heap.size = w.heap.size → Sl w' tb 2 v ms.length (movesC (ms.set i m)) → wpR P ops S dr (kind B) F rest (updo e od undef) w') : wpR P ops S dr (kind B) F (⟨od, .store t x y, ty, pos, aft, none⟩ :: rest) e w := by
  obtain ⟨a, c, rfl, hc, hl, hq⟩ := hs
  rcases hq with ⟨_, rfl⟩ | ⟨b, off, cur, rfl, hb, ho, hq⟩
  · omega
  · simp only [elemPtr, add_none] at hx
    have hfit : off + i * 2 + [Value.int .i64 m.1, Value.int .i64 m.2].length ≤ cur.size := by simp; omega
    refine R.storeG (vs := [.int .i64 m.1, .int .i64 m.2]) hk hb hx hy rfl rfl (by simp [Value.oneCell']) (by omega) (fun hd => hag hd b rfl) (fun w' hU hs hB => h w' (hU.mono (fun x _ hx => by simp [vblk]; exact hx.symm)) hs ⟨_, _, rfl, hc, by rw [movesC_len]; simp, .inr ⟨b, off, _, rfl, hB, by rw [put_size hfit]; exact ho, fun j hj => ?_⟩⟩)
    obtain ⟨h1, h2⟩ := movesC_set (m := m) hi
    rw [h1] at hj
    rw [h2, put_get hfit]
    by_cases hj1 : j = i * 2
    · rw [if_neg (by omega), if_pos (by simp; omega), if_pos hj1]
      rw [show off + j - (off + i * 2) = 0 by omega]; rfl
    · by_cases hj2 : j = i * 2 + 1
      · rw [if_neg (by omega), if_pos (by simp; omega), if_neg hj1, if_pos hj2]
        rw [show off + j - (off + i * 2) = 1 by omega]; rfl
      · rw [if_neg hj1, if_neg hj2]
        by_cases hj3 : off + j < off + i * 2
        · rw [if_pos hj3]; exact hq j hj
        · rw [if_neg hj3, if_neg (by simp; omega)]; exact hq j hj
theorem mat2 {w : World} {v u1 u2 : Value} {cs : List Value} {a b : List Int} (h : Sl w 35 1 v 2 cs) (hc : cs = [u1, u2]) (h1 : Ints w u1 a) (h2 : Ints w u2 b) : Mat w v [u1, u2] [a, b] := by
  subst hc
  refine ⟨h.row, fun i hi => ?_⟩
  match i, hi with
  | 0, _ => exact ⟨u1, rfl, h1⟩
  | 1, _ => exact ⟨u2, rfl, h2⟩
theorem ints1 {w : World} {b : Nat} {k : Nat} (h : Sl w 3 1 (.slice (some ⟨b, 0, none⟩) 1 1) 1 (cellsOf [.int .i64 1])) (hk : k ≤ 1) : Ints w (.slice (some ⟨b, 0, none⟩) k 1) (if k = 0 then [] else [1]) := by
  have h1 : SInts w (.slice (some ⟨b, 0, none⟩) 1 1) [1] := h
  have h2 := h1.take hk
  rw [cut0] at h2
  rcases (show k = 0 ∨ k = 1 by omega) with rfl | rfl
  · exact h2.row
  · exact h2.row


theorem movesOf {w : World} {v : Value} {i : Nat} (h : Sl w 30 2 v i (movesC (alts i))) : Moves w v (alts i) := by
  have := h.row
  show Row w 2 v (alts i).length _
  rw [alts_len]; exact this
theorem movesOf2 {w : World} {v : Value} {ms : List (Int × Int)} {n : Nat} (h : Sl w 30 2 v n (movesC ms)) : Moves w v ms := by
  have hl := h.len
  rw [movesC_len] at hl
  obtain rfl : ms.length = n := by omega
  exact h.row
theorem stMat {w : World} {v : Value} {b1 b2 i : Nat} (h : Sl w 35 1 v 2 (cellsOf [.slice (some ⟨b1, 0, none⟩) (1 - i % 2) 1, .slice (some ⟨b2, 0, none⟩) (i % 2) 1])) (h1 : Sl w 3 1 (.slice (some ⟨b1, 0, none⟩) 1 1) 1 (cellsOf [.int .i64 1])) (h2 : Sl w 3 1 (.slice (some ⟨b2, 0, none⟩) 1 1) 1 (cellsOf [.int .i64 1])) :
    Mat w v [.slice (some ⟨b1, 0, none⟩) (1 - i % 2) 1, .slice (some ⟨b2, 0, none⟩) (i % 2) 1] (stOf i) := by
  have m := mat2 h (by simp [cellsOf, Value.cells]) (ints1 (k := 1 - i % 2) h1 (by omega)) (ints1 (k := i % 2) h2 (by omega))
  have e : [if 1 - i % 2 = 0 then [] else [1], if i % 2 = 0 then [] else [1]] = stOf i := by
    rcases Nat.mod_two_eq_zero_or_one i with h | h <;> simp [stOf, h]
  rw [e] at m
  exact m

set_option maxHeartbeats 3200000 in
theorem limits (w : World) : Calls Try.prog 35 #[] w (Ret fun r w' => Ext w w' ∧ r = .bool true) := by
  refine calls_E (args := []) 105 Try.func35 rfl rfl (by simp) ?_
  have hE : Ext w w := Upd.refl w
  refine E.seq ?_
  refine E.regionP rfl ?_  -- region 0
  refine R.assign ?_  -- 0 := assign ('const', ('bool', ('false',)))
  refine R.nil ?_
  refine E.seq ?_
  refine E.seq ?_
  refine E.regionP rfl ?_  -- region 1
  refine R.assign ?_  -- 1 := assign ('const', ('int', ('i64',), 9999))
  refine R.nil ?_
  refine E.block ?_  -- block 0
  refine E.loop (fun n e wr => ∃ (n0 : Nat), n = 10002 - n0 ∧ 9999 ≤ n0 ∧ n0 ≤ 10002 ∧ Ext w wr ∧ Has e [(1, .int .i64 (n0 : Nat))]) (10002 - 9999) ?_ ?_
  · exact ⟨9999, rfl, by omega, by omega, hE, rfl, trivial⟩
  · rintro n e wr ⟨n0, rfl, hn9, hn2, hE, hH⟩
    obtain ⟨e, rfl⟩ := hH.ex
    clear hH
    refine E.seq ?_
    refine E.seq ?_
    refine E.regionP rfl ?_  -- region 2
    refine R.move ?_  -- 10 := move ('tmp', 1)
    refine R.lss rfl rfl rfl ?_  -- 11 := binOp ('lss',) 3 ('tmp', 10) ('const', ('int', ('i64',), 10002)) 3
    refine R.nil ?_
    refine E.cond rfl (fun hc11 => ?_) (fun hc11 => ?_)  -- cond t11
    · replace hc11 := dT hc11
      have hn1 : n0 < 10002 := by omega
      refine E.skip ?_
      refine E.seq ?_
      refine E.block ?_  -- block 1
      refine E.seq ?_
      refine E.regionP rfl ?_  -- region 4
      refine R.assign ?_  -- 2 := assign ('const', ('slice', ('none',), 0, 0))
      refine R.nil ?_
      refine E.seq ?_
      refine E.seq ?_
      refine E.regionP rfl ?_  -- region 5
      refine R.assign ?_  -- 3 := assign ('const', ('int', ('i64',), 0))
      refine R.nil ?_
      refine E.block ?_  -- block 2
      refine E.loop (fun n e wr => ∃ (i : Nat) (ov : Value), n = n0 - i ∧ i ≤ n0 ∧ Ext w wr ∧ Sl wr 30 2 ov i (movesC (alts i)) ∧ Fresh w ov ∧ Has e [(1, .int .i64 (n0 : Nat)), (2, ov), (3, .int .i64 (i : Nat))]) (n0) ?_ ?_
      · exact ⟨0, _, rfl, Nat.zero_le _, hE, Sl.nil _ _ _, Fresh.nil _, rfl, rfl, rfl, trivial⟩
      · rintro n e wr ⟨i, ov, rfl, hi, hE, hV, hf, hH⟩
        obtain ⟨e, rfl⟩ := hH.ex
        clear hH
        refine E.seq ?_
        refine E.seq ?_
        refine E.regionP rfl ?_  -- region 6
        refine R.move ?_  -- 14 := move ('tmp', 3)
        refine R.move ?_  -- 15 := move ('tmp', 1)
        refine R.lss rfl rfl rfl ?_  -- 16 := binOp ('lss',) 3 ('tmp', 14) ('tmp', 15) 3
        refine R.nil ?_
        refine E.cond rfl (fun hc16 => ?_) (fun hc16 => ?_)  -- cond t16
        · replace hc16 := dT hc16
          refine E.skip ?_
          refine E.seq ?_
          refine E.block ?_  -- block 3
          refine E.regionP rfl ?_  -- region 8
          refine R.move ?_  -- 19 := move ('tmp', 2)
          refine R.move ?_  -- 20 := move ('tmp', 3)
          refine R.remN (m := i) (n := 2) rfl rfl (by omega) ?_  -- 21 := binOp ('rem',) 3 ('tmp', 20) ('const', ('int', ('i64',), 2)) 3
          refine R.move ?_  -- 22 := move ('tmp', 3)
          refine R.remN (m := i) (n := 2) rfl rfl (by omega) ?_  -- 23 := binOp ('rem',) 3 ('tmp', 22) ('const', ('int', ('i64',), 2)) 3
          refine R.subN (m := 1) (n := i % 2) rfl rfl (by omega) (by omega) ?_  -- 24 := binOp ('sub',) 3 ('const', ('int', ('i64',), 1)) ('tmp', 23) 3
          refine R.build build30 rfl ?_  -- 25 := build 30 [('tup', 0, ('tmp', 21)), ('tup', 1, ('tmp', 24))]
          refine R.buildSlice [.agg #[.int .i64 (alt i).1, .int .i64 (alt i).2]] Try.underlying48 t30 rfl rfl (by simp [Value.cells]) (by simp) nofun ?_  -- 26 := buildSlice 48 1 [('tup', 0, ('tmp', 25))]
          intro b26 w1 hb26 hx1 hB26 hS26
          replace hb26 := Nat.le_trans hE.size hb26
          replace hV := hV.ext hx1
          replace hE := hE.ext hx1
          refine R.append (m := 1) Try.underlying48 Try.underlying48 t30 (by decide) rfl hV hS26.row (by simp [cellsOf, Value.cells, Value.oneCell']) rfl rfl (by omega) (by omega) nofun ?_  -- 27 := call {'callee': ('builtin', ('append',)), 'args': [('tmp', 19), ('tmp', 26)], 'argTypes': [48, 48]}
          intro v27 w27 hU27 hS27 hd27
          have hf27 := Fresh.app' hE.size hf hd27
          replace hE := hE.app hU27 hf
          replace hV : Sl w27 30 2 v27 (i + 1) (movesC (alts (i + 1))) := by
            rw [alts_succ, movesC_snoc]
            simpa [cellsOf, Value.cells] using hS27
          clear hS26 hS27 hd27
          refine R.assign ?_  -- 2 := assign ('tmp', 27)
          refine R.nil ?_
          refine E.regionP rfl ?_  -- region 7
          refine R.move ?_  -- 17 := move ('tmp', 3)
          refine R.addN (n := 1) rfl rfl (by omega) ?_  -- 18 := binOp ('add',) 3 ('tmp', 17) ('const', ('int', ('i64',), 1)) 3
          refine R.assign ?_  -- 3 := assign ('tmp', 18)
          refine R.nil ?_
          exact ⟨n0 - (i + 1), by omega, i + 1, v27, rfl, by omega, hE, hV, hf27, rfl, rfl, rfl, trivial⟩  -- round end 0 path TT
        · replace hc16 := dF hc16
          obtain rfl : i = n0 := by omega
          have hVm := hV.row
          have hal := alts_len i
          refine E.exit ?_  -- exit 2
          refine E.seq ?_
          rcases Nat.lt_or_ge 10000 i with hq | hq
          · refine E.regionP rfl ?_  -- region 9
            refine R.buildSlice [.int .i64 1] Try.underlying35 t3 rfl rfl (by simp [Value.cells]) (by simp) nofun ?_  -- 29 := buildSlice 35 1 [('tup', 0, ('const', ('int', ('i64',), 1)))]
            intro b29 w2 hb29 hx2 hB29 hS29
            replace hb29 := Nat.le_trans hE.size hb29
            replace hV := hV.ext hx2
            replace hE := hE.ext hx2
            refine R.buildSlice [.slice (some ⟨b29, 0, none⟩) 1 1, .slice none 0 0] Try.underlying22 t35 rfl rfl (by simp [Value.cells]) (by simp) nofun ?_  -- 30 := buildSlice 22 2 [('tup', 0, ('tmp', 29)), ('tup', 1, ('const', ('slice', ('none',), 0, 0)))]
            intro b30 w3 hb30 hx3 hB30 hS30
            replace hb30 := Nat.le_trans hE.size hb30
            replace hV := hV.ext hx3
            replace hS29 := hS29.ext hx3
            replace hE := hE.ext hx3
            refine R.build (build24 hS30.one rfl) rfl ?_  -- 31 := build 24 [('tup', 0, ('tmp', 30)), ('tup', 1, ('const', ('int', ('i64',), 1)))]
            refine R.move ?_  -- 32 := move ('tmp', 2)
            refine R.callE2 ent31 (yPlayP _ (xss := [[1], []]) ⟨_, mat2 hS30 (by simp [cellsOf, Value.cells]) (ints1 hS29 (Nat.le_refl _)) (SInts.nil _).row⟩ (ms := alts i) (movesOf hV) (by rw [alts_len]; omega) (by decide) (by decide) (playR_many hq)) rfl rfl nofun ?_  -- 33 := call {'callee': ('value', ('func', 31)), 'args': [('tmp', 31), ('tmp', 32)], 'argTypes': [24, 48]}
            rintro v33 w4 hx4 ⟨u33, rfl, hY33⟩
            replace hV := hV.ext hx4
            replace hS29 := hS29.ext hx4
            replace hS30 := hS30.ext hx4
            replace hE := hE.ext hx4
            refine R.move ?_  -- 28 := move ('tmp', 33)
            refine R.extract rfl rfl ?_  -- 34 := extract ('tmp', 28) 0
            refine R.extract rfl rfl ?_  -- 35 := extract ('tmp', 28) 1
            refine R.extract rfl rfl ?_  -- 36 := extract ('tmp', 28) 2
            refine R.alloc t24 nofun ?_  -- 4 := alloc 24
            intro b4 w5 hb4 hx5 hB4
            replace hb4 := Nat.le_trans hE.size hb4
            replace hV := hV.ext hx5
            replace hS29 := hS29.ext hx5
            replace hS30 := hS30.ext hx5
            replace hY33 := hY33.ext hx5
            replace hE := hE.ext hx5
            replace hB4 : Blk _ b4 24 #[.slice none 0 0, .int .i64 0] := hB4
            refine R.storeA t24 hB4 rfl rfl rfl rfl (ones2 hY33.one' rfl) nofun ?_  -- None := store 24 ('tmp', 4) ('tmp', 34)
            intro w6 hU6 hs6 hN6
            replace hV := hV.upT hU6 hB4 (by decide)
            replace hS29 := hS29.upT hU6 hB4 (by decide)
            replace hS30 := hS30.upT hU6 hB4 (by decide)
            replace hY33 := hY33.upT hU6 hB4 (by decide)
            replace hE := hE.own hU6 hb4
            replace hB4 : Blk _ b4 24 #[u33, .int .i64 0] := hN6
            clear hN6
            refine R.assign ?_  -- 5 := assign ('tmp', 35)
            refine R.assign ?_  -- 6 := assign ('tmp', 36)
            refine R.nil ?_
            refine E.seq ?_
            refine E.seq ?_
            have hW0 := hE.size
            refine E.regionF (fun c x => x < w6.heap.size ∧ (c = false → True)) [] [] mixed rfl (by kernel_rfl) (fun _ _ h => h.1) ?_  -- region 10
            intro w7 hx7 hh7
            replace hV := hV.ext hx7
            replace hS29 := hS29.ext hx7
            replace hS30 := hS30.ext hx7
            replace hY33 := hY33.ext hx7
            replace hB4 := hB4.ext hx7
            replace hE := hE.ext hx7
            have hEs : Ext w7 w7 := Upd.refl _
            have hS0 := hx7.size
            have hSB : ∀ b, b < w7.heap.size → b < w6.heap.size ∧ (true = false → (fun x => True) b) := fun b hb => ⟨by rw [hh7] at hb; exact hb, nofun⟩
            have hSA : ∀ b, b < w7.heap.size → (fun x => True) b → b < w6.heap.size ∧ (false = false → (fun x => True) b) := fun b hb h => ⟨by rw [hh7] at hb; exact hb, fun _ => h⟩
            have hSO : ∀ b, b < w.heap.size → b < w6.heap.size ∧ (false = false → (fun x => True) b) := fun b hb => hSA b (Nat.lt_of_lt_of_le hb hE.size) (trivial)
            have hVs := hV
            have hS29s := hS29
            have hS30s := hS30
            have hY33s := hY33
            have hB4s := hB4
            refine G.q rfl (Nat.le_of_ble_eq_true rfl) ?_
            refine R.move ?_  -- 37 := move ('tmp', 1)
            refine R.nil ?_
            refine G.q rfl (Nat.le_of_ble_eq_true rfl) ?_
            refine R.gtr (b := true) rfl rfl (decide_eq_true (by omega)) ?_  -- 38 := binOp ('gtr',) 3 ('tmp', 37) ('const', ('int', ('i64',), 10000)) 3
            refine R.nil ?_
            refine G.q rfl (Nat.le_of_ble_eq_true rfl) ?_
            refine R.move ?_  -- 39 := move ('tmp', 38)
            refine R.nil ?_
            refine G.gT rfl rfl ?_
            refine G.q rfl (Nat.le_of_ble_eq_true rfl) ?_
            refine R.fld fa24_0 rfl ?_  -- 40 := fieldAddr 24 ('tmp', 4) 0
            refine R.nil ?_
            refine G.gT rfl rfl ?_
            refine G.q rfl (Nat.le_of_ble_eq_true rfl) ?_
            refine R.loadB t22 (hB4s.ext hEs) rfl rfl rfl (hSA b4 hB4s.lt (trivial)) ?_  -- 41 := load 22 ('tmp', 40)
            refine R.nil ?_
            refine G.gT rfl rfl ?_
            refine G.q rfl (Nat.le_of_ble_eq_true rfl) ?_
            refine R.len Try.underlying22 (YO.nil_row hY33) rfl ?_  -- 42 := call {'callee': ('builtin', ('len',)), 'args': [('tmp', 41)], 'argTypes': [22]}
            refine R.nil ?_
            refine G.gT rfl rfl ?_
            refine G.q rfl (Nat.le_of_ble_eq_true rfl) ?_
            refine R.neq (b := false) rfl rfl (by simp) ?_  -- 43 := binOp ('neq',) 3 ('tmp', 42) ('const', ('int', ('i64',), 0)) 3
            refine R.nil ?_
            refine G.gT rfl rfl ?_
            refine G.q rfl (Nat.le_of_ble_eq_true rfl) ?_
            refine R.move ?_  -- 44 := move ('tmp', 43)
            refine R.nil ?_
            refine G.gT rfl rfl ?_
            refine G.q rfl (Nat.le_of_ble_eq_true rfl) ?_
            refine R.move ?_  -- 45 := move ('tmp', 5)
            refine R.nil ?_
            refine G.gT rfl rfl ?_
            refine G.q rfl (Nat.le_of_ble_eq_true rfl) ?_
            refine R.neq (b := false) rfl rfl (by simp) ?_  -- 46 := binOp ('neq',) 3 ('tmp', 45) ('const', ('int', ('i64',), 0)) 3
            refine R.nil ?_
            refine G.gT rfl rfl ?_
            refine G.q rfl (Nat.le_of_ble_eq_true rfl) ?_
            refine R.pickF rfl ?_  -- 47 := pick ('tmp', 44) ('const', ('bool', ('true',))) ('tmp', 46)
            refine R.nil ?_
            refine G.gT rfl rfl ?_
            refine G.q rfl (Nat.le_of_ble_eq_true rfl) ?_
            refine R.move ?_  -- 48 := move ('tmp', 47)
            refine R.nil ?_
            refine G.gT rfl rfl ?_
            refine G.q rfl (Nat.le_of_ble_eq_true rfl) ?_
            refine R.move ?_  -- 49 := move ('tmp', 6)
            refine R.nil ?_
            refine G.gT rfl rfl ?_
            refine G.q rfl (Nat.le_of_ble_eq_true rfl) ?_
            refine R.neq (b := false) rfl rfl (by simp) ?_  -- 50 := binOp ('neq',) 38 ('tmp', 49) ('const', ('int', ('i64',), 5)) 38
            refine R.nil ?_
            refine G.gT rfl rfl ?_
            refine G.q rfl (Nat.le_of_ble_eq_true rfl) ?_
            refine R.pickF rfl ?_  -- 51 := pick ('tmp', 48) ('const', ('bool', ('true',))) ('tmp', 50)
            refine R.nil ?_
            refine G.q rfl (Nat.le_of_ble_eq_true rfl) ?_
            refine R.pickT rfl ?_  -- 52 := pick ('tmp', 39) ('tmp', 51) ('const', ('bool', ('false',)))
            refine R.nil ?_
            refine G.q rfl (Nat.le_of_ble_eq_true rfl) ?_
            refine R.move ?_  -- 53 := move ('tmp', 52)
            refine R.nil ?_
            refine G.gT rfl rfl ?_
            refine G.q rfl (Nat.le_of_ble_eq_true rfl) ?_
            refine R.move ?_  -- 54 := move ('tmp', 1)
            refine R.nil ?_
            refine G.gT rfl rfl ?_
            refine G.q rfl (Nat.le_of_ble_eq_true rfl) ?_
            refine R.leq (b := false) rfl rfl (decide_eq_false (by omega)) ?_  -- 55 := binOp ('leq',) 3 ('tmp', 54) ('const', ('int', ('i64',), 10000)) 3
            refine R.nil ?_
            refine G.gT rfl rfl ?_
            refine G.q rfl (Nat.le_of_ble_eq_true rfl) ?_
            refine R.move ?_  -- 56 := move ('tmp', 55)
            refine R.nil ?_
            refine G.gF rfl rfl rfl ?_  -- 57 := move ('tmp', 6)
            refine G.gF rfl rfl rfl ?_  -- 58 := binOp ('neq',) 38 ('tmp', 57) ('const', ('int', ('i64',), 0)) 38
            refine G.gF rfl rfl rfl ?_  -- 59 := move ('tmp', 58)
            refine G.gU rfl rfl ?_  -- 60 := move ('tmp', 5)
            refine G.gU rfl rfl ?_  -- 61 := binOp ('neq',) 3 ('tmp', 60) ('const', ('int', ('i64',), 0)) 3
            refine G.gF rfl rfl rfl ?_  -- 62 := pick ('tmp', 59) ('const', ('bool', ('true',))) ('tmp', 61)
            refine G.gF rfl rfl rfl ?_  -- 63 := move ('tmp', 62)
            refine G.gU rfl rfl ?_  -- 64 := load 24 ('tmp', 4)
            refine G.gU rfl rfl ?_  -- 65 := buildSlice 35 1 [('tup', 0, ('const', ('int', ('i64',), 1)))]
            refine G.gU rfl rfl ?_  -- 66 := move ('tmp', 1)
            refine G.gU rfl rfl ?_  -- 67 := binOp ('rem',) 3 ('tmp', 66) ('const', ('int', ('i64',), 2)) 3
            refine G.gU rfl rfl ?_  -- 68 := binOp ('sub',) 3 ('const', ('int', ('i64',), 1)) ('tmp', 67) 3
            refine G.gU rfl rfl ?_  -- 69 := slice 35 ('tmp', 65) ('none',) ('some', ('tmp', 68)) ('none',)
            refine G.gU rfl rfl ?_  -- 70 := buildSlice 35 1 [('tup', 0, ('const', ('int', ('i64',), 1)))]
            refine G.gU rfl rfl ?_  -- 71 := move ('tmp', 1)
            refine G.gU rfl rfl ?_  -- 72 := binOp ('rem',) 3 ('tmp', 71) ('const', ('int', ('i64',), 2)) 3
            refine G.gU rfl rfl ?_  -- 73 := slice 35 ('tmp', 70) ('none',) ('some', ('tmp', 72)) ('none',)
            refine G.gU rfl rfl ?_  -- 74 := buildSlice 22 2 [('tup', 0, ('tmp', 69)), ('tup', 1, ('tmp', 73))]
            refine G.gU rfl rfl ?_  -- 75 := build 24 [('tup', 0, ('tmp', 74)), ('tup', 1, ('const', ('int', ('i64',), 1)))]
            refine G.gU rfl rfl ?_  -- 76 := call {'callee': ('value', ('func', 28)), 'args': [('tmp', 64), ('tmp', 75)], 'argTypes': [24, 24]}
            refine G.gU rfl rfl ?_  -- 77 := unOp ('not',) 4 ('tmp', 76)
            refine G.gF rfl rfl rfl ?_  -- 78 := pick ('tmp', 63) ('const', ('bool', ('true',))) ('tmp', 77)
            refine G.gT rfl rfl ?_
            refine G.q rfl (Nat.le_of_ble_eq_true rfl) ?_
            refine R.pickF rfl ?_  -- 79 := pick ('tmp', 56) ('tmp', 78) ('const', ('bool', ('false',)))
            refine R.nil ?_
            refine G.q rfl (Nat.le_of_ble_eq_true rfl) ?_
            refine R.pickF rfl ?_  -- 80 := pick ('tmp', 53) ('const', ('bool', ('true',))) ('tmp', 79)
            refine R.nil ?_
            refine G.nil ?_
            refine E.condF rfl ?_  -- cond t80
            refine E.skip ?_
            refine E.seq ?_
            refine E.seq ?_
            refine E.forget [(1, .int .i64 (i : Nat)), (2, ov)] ⟨rfl, rfl, trivial⟩ (fun e => ?_)
            refine E.regionP rfl ?_  -- region 12
            refine R.move ?_  -- 81 := move ('tmp', 1)
            refine R.gtr (b := true) rfl rfl (decide_eq_true (by omega)) ?_  -- 82 := binOp ('gtr',) 3 ('tmp', 81) ('const', ('int', ('i64',), 10000)) 3
            refine R.nil ?_
            refine E.condT rfl ?_  -- cond t82
            refine E.exit ?_  -- exit 1
            refine E.regionP rfl ?_  -- region 3
            refine R.move ?_  -- 12 := move ('tmp', 1)
            refine R.addN (n := 1) rfl rfl (by omega) ?_  -- 13 := binOp ('add',) 3 ('tmp', 12) ('const', ('int', ('i64',), 1)) 3
            refine R.assign ?_  -- 1 := assign ('tmp', 13)
            refine R.nil ?_
            exact ⟨10002 - (i + 1), by omega, i + 1, rfl, by omega, by omega, hE, rfl, trivial⟩  -- round end 1 path TF0
          · refine E.regionP rfl ?_  -- region 9
            refine R.buildSlice [.int .i64 1] Try.underlying35 t3 rfl rfl (by simp [Value.cells]) (by simp) nofun ?_  -- 29 := buildSlice 35 1 [('tup', 0, ('const', ('int', ('i64',), 1)))]
            intro b29 w8 hb29 hx8 hB29 hS29
            replace hb29 := Nat.le_trans hE.size hb29
            replace hV := hV.ext hx8
            replace hE := hE.ext hx8
            refine R.buildSlice [.slice (some ⟨b29, 0, none⟩) 1 1, .slice none 0 0] Try.underlying22 t35 rfl rfl (by simp [Value.cells]) (by simp) nofun ?_  -- 30 := buildSlice 22 2 [('tup', 0, ('tmp', 29)), ('tup', 1, ('const', ('slice', ('none',), 0, 0)))]
            intro b30 w9 hb30 hx9 hB30 hS30
            replace hb30 := Nat.le_trans hE.size hb30
            replace hV := hV.ext hx9
            replace hS29 := hS29.ext hx9
            replace hE := hE.ext hx9
            refine R.build (build24 hS30.one rfl) rfl ?_  -- 31 := build 24 [('tup', 0, ('tmp', 30)), ('tup', 1, ('const', ('int', ('i64',), 1)))]
            refine R.move ?_  -- 32 := move ('tmp', 2)
            refine R.callE2 ent31 (yPlayP _ (xss := [[1], []]) ⟨_, mat2 hS30 (by simp [cellsOf, Value.cells]) (ints1 hS29 (Nat.le_refl _)) (SInts.nil _).row⟩ (ms := alts i) (movesOf hV) (by rw [alts_len]; omega) (by decide) (by decide) (playR_alts hq)) rfl rfl nofun ?_  -- 33 := call {'callee': ('value', ('func', 31)), 'args': [('tmp', 31), ('tmp', 32)], 'argTypes': [24, 48]}
            rintro v33 w10 hx10 ⟨u33, rfl, hY33⟩
            replace hV := hV.ext hx10
            replace hS29 := hS29.ext hx10
            replace hS30 := hS30.ext hx10
            replace hE := hE.ext hx10
            refine R.move ?_  -- 28 := move ('tmp', 33)
            refine R.extract rfl rfl ?_  -- 34 := extract ('tmp', 28) 0
            refine R.extract rfl rfl ?_  -- 35 := extract ('tmp', 28) 1
            refine R.extract rfl rfl ?_  -- 36 := extract ('tmp', 28) 2
            refine R.alloc t24 nofun ?_  -- 4 := alloc 24
            intro b4 w11 hb4 hx11 hB4
            replace hb4 := Nat.le_trans hE.size hb4
            replace hV := hV.ext hx11
            replace hS29 := hS29.ext hx11
            replace hS30 := hS30.ext hx11
            replace hY33 := hY33.ext hx11
            replace hE := hE.ext hx11
            replace hB4 : Blk _ b4 24 #[.slice none 0 0, .int .i64 0] := hB4
            refine R.storeA t24 hB4 rfl rfl rfl rfl (ones2 hY33.one' rfl) nofun ?_  -- None := store 24 ('tmp', 4) ('tmp', 34)
            intro w12 hU12 hs12 hN12
            replace hV := hV.upT hU12 hB4 (by decide)
            replace hS29 := hS29.upT hU12 hB4 (by decide)
            replace hS30 := hS30.upT hU12 hB4 (by decide)
            replace hY33 := hY33.upT hU12 hB4 (by decide)
            replace hE := hE.own hU12 hb4
            replace hB4 : Blk _ b4 24 #[u33, .int .i64 1] := hN12
            clear hN12
            refine R.assign ?_  -- 5 := assign ('tmp', 35)
            refine R.assign ?_  -- 6 := assign ('tmp', 36)
            refine R.nil ?_
            refine E.seq ?_
            refine E.seq ?_
            have hW0 := hE.size
            refine E.regionF (fun c x => x < w12.heap.size ∧ (c = false → True)) [] [] mixed rfl (by kernel_rfl) (fun _ _ h => h.1) ?_  -- region 10
            intro w13 hx13 hh13
            replace hV := hV.ext hx13
            replace hS29 := hS29.ext hx13
            replace hS30 := hS30.ext hx13
            replace hY33 := hY33.ext hx13
            replace hB4 := hB4.ext hx13
            replace hE := hE.ext hx13
            have hEs : Ext w13 w13 := Upd.refl _
            have hS0 := hx13.size
            have hSB : ∀ b, b < w13.heap.size → b < w12.heap.size ∧ (true = false → (fun x => True) b) := fun b hb => ⟨by rw [hh13] at hb; exact hb, nofun⟩
            have hSA : ∀ b, b < w13.heap.size → (fun x => True) b → b < w12.heap.size ∧ (false = false → (fun x => True) b) := fun b hb h => ⟨by rw [hh13] at hb; exact hb, fun _ => h⟩
            have hSO : ∀ b, b < w.heap.size → b < w12.heap.size ∧ (false = false → (fun x => True) b) := fun b hb => hSA b (Nat.lt_of_lt_of_le hb hE.size) (trivial)
            have hVs := hV
            have hS29s := hS29
            have hS30s := hS30
            have hY33s := hY33
            have hB4s := hB4
            refine G.q rfl (Nat.le_of_ble_eq_true rfl) ?_
            refine R.move ?_  -- 37 := move ('tmp', 1)
            refine R.nil ?_
            refine G.q rfl (Nat.le_of_ble_eq_true rfl) ?_
            refine R.gtr (b := false) rfl rfl (decide_eq_false (by omega)) ?_  -- 38 := binOp ('gtr',) 3 ('tmp', 37) ('const', ('int', ('i64',), 10000)) 3
            refine R.nil ?_
            refine G.q rfl (Nat.le_of_ble_eq_true rfl) ?_
            refine R.move ?_  -- 39 := move ('tmp', 38)
            refine R.nil ?_
            refine G.gF rfl rfl rfl ?_  -- 40 := fieldAddr 24 ('tmp', 4) 0
            refine G.gF rfl rfl rfl ?_  -- 41 := load 22 ('tmp', 40)
            refine G.gF rfl rfl rfl ?_  -- 42 := call {'callee': ('builtin', ('len',)), 'args': [('tmp', 41)], 'argTypes': [22]}
            refine G.gF rfl rfl rfl ?_  -- 43 := binOp ('neq',) 3 ('tmp', 42) ('const', ('int', ('i64',), 0)) 3
            refine G.gF rfl rfl rfl ?_  -- 44 := move ('tmp', 43)
            refine G.gU rfl rfl ?_  -- 45 := move ('tmp', 5)
            refine G.gU rfl rfl ?_  -- 46 := binOp ('neq',) 3 ('tmp', 45) ('const', ('int', ('i64',), 0)) 3
            refine G.gF rfl rfl rfl ?_  -- 47 := pick ('tmp', 44) ('const', ('bool', ('true',))) ('tmp', 46)
            refine G.gF rfl rfl rfl ?_  -- 48 := move ('tmp', 47)
            refine G.gU rfl rfl ?_  -- 49 := move ('tmp', 6)
            refine G.gU rfl rfl ?_  -- 50 := binOp ('neq',) 38 ('tmp', 49) ('const', ('int', ('i64',), 5)) 38
            refine G.gF rfl rfl rfl ?_  -- 51 := pick ('tmp', 48) ('const', ('bool', ('true',))) ('tmp', 50)
            refine G.q rfl (Nat.le_of_ble_eq_true rfl) ?_
            refine R.pickF rfl ?_  -- 52 := pick ('tmp', 39) ('tmp', 51) ('const', ('bool', ('false',)))
            refine R.nil ?_
            refine G.q rfl (Nat.le_of_ble_eq_true rfl) ?_
            refine R.move ?_  -- 53 := move ('tmp', 52)
            refine R.nil ?_
            refine G.gT rfl rfl ?_
            refine G.q rfl (Nat.le_of_ble_eq_true rfl) ?_
            refine R.move ?_  -- 54 := move ('tmp', 1)
            refine R.nil ?_
            refine G.gT rfl rfl ?_
            refine G.q rfl (Nat.le_of_ble_eq_true rfl) ?_
            refine R.leq (b := true) rfl rfl (decide_eq_true (by omega)) ?_  -- 55 := binOp ('leq',) 3 ('tmp', 54) ('const', ('int', ('i64',), 10000)) 3
            refine R.nil ?_
            refine G.gT rfl rfl ?_
            refine G.q rfl (Nat.le_of_ble_eq_true rfl) ?_
            refine R.move ?_  -- 56 := move ('tmp', 55)
            refine R.nil ?_
            refine G.gT rfl rfl ?_
            refine G.q rfl (Nat.le_of_ble_eq_true rfl) ?_
            refine R.move ?_  -- 57 := move ('tmp', 6)
            refine R.nil ?_
            refine G.gT rfl rfl ?_
            refine G.q rfl (Nat.le_of_ble_eq_true rfl) ?_
            refine R.neq (b := false) rfl rfl (by simp) ?_  -- 58 := binOp ('neq',) 38 ('tmp', 57) ('const', ('int', ('i64',), 0)) 38
            refine R.nil ?_
            refine G.gT rfl rfl ?_
            refine G.q rfl (Nat.le_of_ble_eq_true rfl) ?_
            refine R.move ?_  -- 59 := move ('tmp', 58)
            refine R.nil ?_
            refine G.gT rfl rfl ?_
            refine G.q rfl (Nat.le_of_ble_eq_true rfl) ?_
            refine R.move ?_  -- 60 := move ('tmp', 5)
            refine R.nil ?_
            refine G.gT rfl rfl ?_
            refine G.q rfl (Nat.le_of_ble_eq_true rfl) ?_
            refine R.neq (b := false) rfl rfl (by simp) ?_  -- 61 := binOp ('neq',) 3 ('tmp', 60) ('const', ('int', ('i64',), 0)) 3
            refine R.nil ?_
            refine G.gT rfl rfl ?_
            refine G.q rfl (Nat.le_of_ble_eq_true rfl) ?_
            refine R.pickF rfl ?_  -- 62 := pick ('tmp', 59) ('const', ('bool', ('true',))) ('tmp', 61)
            refine R.nil ?_
            refine G.gT rfl rfl ?_
            refine G.q rfl (Nat.le_of_ble_eq_true rfl) ?_
            refine R.move ?_  -- 63 := move ('tmp', 62)
            refine R.nil ?_
            refine G.gT rfl rfl ?_
            refine G.q rfl (Nat.le_of_ble_eq_true rfl) ?_
            refine R.loadA t24 (hB4s.ext hEs) rfl rfl rfl (hSA b4 hB4s.lt (trivial)) ?_  -- 64 := load 24 ('tmp', 4)
            refine R.nil ?_
            refine G.gT rfl rfl ?_
            refine G.buildSlice [.int .i64 1] Try.underlying35 t3 rfl rfl (by simp [Value.cells]) (by simp) ?_  -- 65 := buildSlice 35 1 [('tup', 0, ('const', ('int', ('i64',), 1)))]
            intro w14 b65 K14 hx14 hb65 hn65 hK14 hk65 hS65
            have hn065 := hb65
            replace hb65 := Nat.le_trans hW0 hb65
            replace hV := hV.ext hx14
            replace hS29 := hS29.ext hx14
            replace hS30 := hS30.ext hx14
            replace hY33 := hY33.ext hx14
            replace hB4 := hB4.ext hx14
            replace hE := hE.ext hx14
            replace hEs := hEs.ext hx14
            refine G.gT rfl rfl ?_
            refine G.q rfl (Nat.le_of_ble_eq_true rfl) ?_
            refine R.move ?_  -- 66 := move ('tmp', 1)
            refine R.nil ?_
            refine G.gT rfl rfl ?_
            refine G.q rfl (Nat.le_of_ble_eq_true rfl) ?_
            refine R.remN (m := i) (n := 2) rfl rfl (by omega) ?_  -- 67 := binOp ('rem',) 3 ('tmp', 66) ('const', ('int', ('i64',), 2)) 3
            refine R.nil ?_
            refine G.gT rfl rfl ?_
            refine G.q rfl (Nat.le_of_ble_eq_true rfl) ?_
            refine R.subN (m := 1) (n := i % 2) rfl rfl (by omega) (by omega) ?_  -- 68 := binOp ('sub',) 3 ('const', ('int', ('i64',), 1)) ('tmp', 67) 3
            refine R.nil ?_
            refine G.gT rfl rfl ?_
            refine G.q rfl (Nat.le_of_ble_eq_true rfl) ?_
            refine R.slcE (v := .slice (some ⟨b65, 0, none⟩) 1 1) (l := 0) (r := 1 - i % 2) (.slice (some ⟨b65, 0, none⟩) (1 - i % 2) 1) Try.underlying35 t3 rfl rfl rfl ⟨_, rfl⟩ (Nat.zero_le _) (by omega) (cut0 _ _ _ _) ?_  -- 69 := slice 35 ('tmp', 65) ('none',) ('some', ('tmp', 68)) ('none',)
            refine R.nil ?_
            refine G.gT rfl rfl ?_
            refine G.buildSlice [.int .i64 1] Try.underlying35 t3 rfl rfl (by simp [Value.cells]) (by simp) ?_  -- 70 := buildSlice 35 1 [('tup', 0, ('const', ('int', ('i64',), 1)))]
            intro w15 b70 K15 hx15 hb70 hn70 hK15 hk70 hS70
            replace hk65 := hK15 _ hk65
            have hn070 := hb70
            replace hb70 := Nat.le_trans hW0 hb70
            replace hV := hV.ext hx15
            replace hS29 := hS29.ext hx15
            replace hS30 := hS30.ext hx15
            replace hY33 := hY33.ext hx15
            replace hS65 := hS65.ext hx15
            replace hB4 := hB4.ext hx15
            replace hE := hE.ext hx15
            replace hEs := hEs.ext hx15
            refine G.gT rfl rfl ?_
            refine G.q rfl (Nat.le_of_ble_eq_true rfl) ?_
            refine R.move ?_  -- 71 := move ('tmp', 1)
            refine R.nil ?_
            refine G.gT rfl rfl ?_
            refine G.q rfl (Nat.le_of_ble_eq_true rfl) ?_
            refine R.remN (m := i) (n := 2) rfl rfl (by omega) ?_  -- 72 := binOp ('rem',) 3 ('tmp', 71) ('const', ('int', ('i64',), 2)) 3
            refine R.nil ?_
            refine G.gT rfl rfl ?_
            refine G.q rfl (Nat.le_of_ble_eq_true rfl) ?_
            refine R.slcE (v := .slice (some ⟨b70, 0, none⟩) 1 1) (l := 0) (r := i % 2) (.slice (some ⟨b70, 0, none⟩) (i % 2) 1) Try.underlying35 t3 rfl rfl rfl ⟨_, rfl⟩ (Nat.zero_le _) (by omega) (cut0 _ _ _ _) ?_  -- 73 := slice 35 ('tmp', 70) ('none',) ('some', ('tmp', 72)) ('none',)
            refine R.nil ?_
            refine G.gT rfl rfl ?_
            refine G.buildSlice [.slice (some ⟨b65, 0, none⟩) (1 - i % 2) 1, .slice (some ⟨b70, 0, none⟩) (i % 2) 1] Try.underlying22 t35 rfl rfl (by simp [Value.cells]) (by simp) ?_  -- 74 := buildSlice 22 2 [('tup', 0, ('tmp', 69)), ('tup', 1, ('tmp', 73))]
            intro w16 b74 K16 hx16 hb74 hn74 hK16 hk74 hS74
            replace hk65 := hK16 _ hk65
            replace hk70 := hK16 _ hk70
            have hn074 := hb74
            replace hb74 := Nat.le_trans hW0 hb74
            replace hV := hV.ext hx16
            replace hS29 := hS29.ext hx16
            replace hS30 := hS30.ext hx16
            replace hY33 := hY33.ext hx16
            replace hS65 := hS65.ext hx16
            replace hS70 := hS70.ext hx16
            replace hB4 := hB4.ext hx16
            replace hE := hE.ext hx16
            replace hEs := hEs.ext hx16
            refine G.gT rfl rfl ?_
            refine G.q rfl (Nat.le_of_ble_eq_true rfl) ?_
            refine R.build (build24 rfl rfl) rfl ?_  -- 75 := build 24 [('tup', 0, ('tmp', 74)), ('tup', 1, ('const', ('int', ('i64',), 1)))]
            refine R.nil ?_
            refine G.gT rfl rfl ?_
            refine G.l rfl rfl (.inr rfl) (Nat.le_of_ble_eq_true rfl) ?_
            intro w17 hx17
            replace hV := hV.ext hx17
            replace hS29 := hS29.ext hx17
            replace hS30 := hS30.ext hx17
            replace hY33 := hY33.ext hx17
            replace hS65 := hS65.ext hx17
            replace hS70 := hS70.ext hx17
            replace hS74 := hS74.ext hx17
            replace hB4 := hB4.ext hx17
            replace hE := hE.ext hx17
            replace hEs := hEs.ext hx17
            refine R.callE2 ent28 (same1 _ (k := 1) hY33.mat (stMat hS74 hS65 hS70) (by unfold stOf; split <;> decide) (by unfold stOf; split <;> decide)) rfl rfl (fun _ _ hb => G.S1_lt (fun _ _ h => h.1) (Nat.le_trans hS0 hEs.size) hb) ?_  -- 76 := call {'callee': ('value', ('func', 28)), 'args': [('tmp', 64), ('tmp', 75)], 'argTypes': [24, 24]}
            rintro v76 w18 hx18 rfl
            replace hV := hV.ext hx18
            replace hS29 := hS29.ext hx18
            replace hS30 := hS30.ext hx18
            replace hY33 := hY33.ext hx18
            replace hS65 := hS65.ext hx18
            replace hS70 := hS70.ext hx18
            replace hS74 := hS74.ext hx18
            replace hB4 := hB4.ext hx18
            replace hE := hE.ext hx18
            replace hEs := hEs.ext hx18
            refine R.nil ⟨hx18.size, ?_⟩
            intro K17 hK17 hN17
            replace hk65 := hK17 _ hk65
            replace hk70 := hK17 _ hk70
            replace hk74 := hK17 _ hk74
            refine G.gT rfl rfl ?_
            refine G.q rfl (Nat.le_of_ble_eq_true rfl) ?_
            refine R.not rfl ?_  -- 77 := unOp ('not',) 4 ('tmp', 76)
            refine R.nil ?_
            refine G.gT rfl rfl ?_
            refine G.q rfl (Nat.le_of_ble_eq_true rfl) ?_
            refine R.pickF rfl ?_  -- 78 := pick ('tmp', 63) ('const', ('bool', ('true',))) ('tmp', 77)
            refine R.nil ?_
            refine G.gT rfl rfl ?_
            refine G.q rfl (Nat.le_of_ble_eq_true rfl) ?_
            refine R.pickT rfl ?_  -- 79 := pick ('tmp', 56) ('tmp', 78) ('const', ('bool', ('false',)))
            refine R.nil ?_
            refine G.q rfl (Nat.le_of_ble_eq_true rfl) ?_
            refine R.pickF rfl ?_  -- 80 := pick ('tmp', 53) ('const', ('bool', ('true',))) ('tmp', 79)
            refine R.nil ?_
            refine G.nil ?_
            refine E.condF rfl ?_  -- cond t80
            refine E.skip ?_
            refine E.seq ?_
            refine E.seq ?_
            refine E.forget [(1, .int .i64 (i : Nat)), (2, ov)] ⟨rfl, rfl, trivial⟩ (fun e => ?_)
            refine E.regionP rfl ?_  -- region 12
            refine R.move ?_  -- 81 := move ('tmp', 1)
            refine R.gtr (b := false) rfl rfl (decide_eq_false (by omega)) ?_  -- 82 := binOp ('gtr',) 3 ('tmp', 81) ('const', ('int', ('i64',), 10000)) 3
            refine R.nil ?_
            refine E.condF rfl ?_  -- cond t82
            refine E.skip ?_
            refine E.seq ?_
            refine E.regionP rfl ?_  -- region 13
            refine R.move ?_  -- 83 := move ('tmp', 2)
            refine R.move ?_  -- 84 := move ('tmp', 1)
            refine R.subN (m := i) (n := 1) rfl rfl (by omega) (by omega) ?_  -- 85 := binOp ('sub',) 3 ('tmp', 84) ('const', ('int', ('i64',), 1)) 3
            obtain ⟨j, rfl⟩ : ∃ j, i = j + 1 := ⟨i - 1, by omega⟩
            rw [Nat.add_sub_cancel]
            refine R.build build30 rfl ?_  -- 86 := build 30 [('tup', 0, ('const', ('int', ('i64',), 2))), ('tup', 1, ('const', ('int', ('i64',), 0)))]
            refine R.ix (m := j) Try.underlying48 t30 (by decide) hV.row rfl rfl (by omega) ?_  -- 87 := indexAddr 48 ('tmp', 83) ('tmp', 85)
            refine R.stM (m := (2, 0)) (i := j) (ms := alts (j + 1)) t30 (by rw [alts_len]; exact hV) rfl rfl (by rw [alts_len]; omega) nofun ?_  -- None := store 30 ('tmp', 87) ('tmp', 86)
            intro w87 hU87 hs87 hV87
            rw [set_last] at hV87
            replace hE := hE.app hU87 hf
            replace hB4 := hB4.upS hU87 hV (by decide)
            clear hV
            refine R.nil ?_
            refine E.seq ?_
            refine E.regionP rfl ?_  -- region 14
            refine R.buildSlice [.int .i64 1] Try.underlying35 t3 rfl rfl (by simp [Value.cells]) (by simp) nofun ?_  -- 89 := buildSlice 35 1 [('tup', 0, ('const', ('int', ('i64',), 1)))]
            intro b89 w19 hb89 hx19 hB89 hS89
            replace hb89 := Nat.le_trans hE.size hb89
            replace hV87 := hV87.ext hx19
            replace hB4 := hB4.ext hx19
            replace hE := hE.ext hx19
            refine R.buildSlice [.slice (some ⟨b89, 0, none⟩) 1 1, .slice none 0 0] Try.underlying22 t35 rfl rfl (by simp [Value.cells]) (by simp) nofun ?_  -- 90 := buildSlice 22 2 [('tup', 0, ('tmp', 89)), ('tup', 1, ('const', ('slice', ('none',), 0, 0)))]
            intro b90 w20 hb90 hx20 hB90 hS90
            replace hb90 := Nat.le_trans hE.size hb90
            replace hV87 := hV87.ext hx20
            replace hS89 := hS89.ext hx20
            replace hB4 := hB4.ext hx20
            replace hE := hE.ext hx20
            refine R.build (build24 hS90.one rfl) rfl ?_  -- 91 := build 24 [('tup', 0, ('tmp', 90)), ('tup', 1, ('const', ('int', ('i64',), 1)))]
            refine R.move ?_  -- 92 := move ('tmp', 2)
            refine R.callE2 ent31 (yPlayP _ (xss := [[1], []]) ⟨_, mat2 hS90 (by simp [cellsOf, Value.cells]) (ints1 hS89 (Nat.le_refl _)) (SInts.nil _).row⟩ (ms := alts j ++ [(2, 0)]) (movesOf2 hV87) (by simp [alts_len]; omega) (by decide) (by decide) (playR_wrong (by omega))) rfl rfl nofun ?_  -- 93 := call {'callee': ('value', ('func', 31)), 'args': [('tmp', 91), ('tmp', 92)], 'argTypes': [24, 48]}
            rintro v93 w21 hx21 ⟨u93, rfl, hY93⟩
            replace hV87 := hV87.ext hx21
            replace hS89 := hS89.ext hx21
            replace hS90 := hS90.ext hx21
            replace hB4 := hB4.ext hx21
            replace hE := hE.ext hx21
            refine R.move ?_  -- 88 := move ('tmp', 93)
            refine R.extract rfl rfl ?_  -- 94 := extract ('tmp', 88) 0
            refine R.extract rfl rfl ?_  -- 95 := extract ('tmp', 88) 1
            refine R.extract rfl rfl ?_  -- 96 := extract ('tmp', 88) 2
            refine R.alloc t24 nofun ?_  -- 7 := alloc 24
            intro b7 w22 hb7 hx22 hB7
            have ne4_7 : b4 ≠ b7 := by have := hB4.lt; omega
            replace hb7 := Nat.le_trans hE.size hb7
            replace hV87 := hV87.ext hx22
            replace hS89 := hS89.ext hx22
            replace hS90 := hS90.ext hx22
            replace hY93 := hY93.ext hx22
            replace hB4 := hB4.ext hx22
            replace hE := hE.ext hx22
            replace hB7 : Blk _ b7 24 #[.slice none 0 0, .int .i64 0] := hB7
            refine R.storeA t24 hB7 rfl rfl rfl rfl (ones2 hY93.one' rfl) nofun ?_  -- None := store 24 ('tmp', 7) ('tmp', 94)
            intro w23 hU23 hs23 hN23
            replace hV87 := hV87.upT hU23 hB7 (by decide)
            replace hS89 := hS89.upT hU23 hB7 (by decide)
            replace hS90 := hS90.upT hU23 hB7 (by decide)
            replace hY93 := hY93.upT hU23 hB7 (by decide)
            replace hB4 := hB4.up hU23 (fun h => ne4_7 h)
            replace hE := hE.own hU23 hb7
            replace hB7 : Blk _ b7 24 #[u93, .int .i64 0] := hN23
            clear hN23
            refine R.assign ?_  -- 8 := assign ('tmp', 95)
            refine R.assign ?_  -- 9 := assign ('tmp', 96)
            refine R.nil ?_
            refine E.seq ?_
            refine E.regionP rfl ?_  -- region 15
            refine R.move ?_  -- 97 := move ('tmp', 8)
            refine R.move ?_  -- 98 := move ('tmp', 1)
            refine R.subN (m := j + 1) (n := 1) rfl rfl (by omega) (by omega) ?_  -- 99 := binOp ('sub',) 3 ('tmp', 98) ('const', ('int', ('i64',), 1)) 3
            rw [Nat.add_sub_cancel]
            refine R.neq (b := false) rfl rfl (by simp) ?_  -- 100 := binOp ('neq',) 3 ('tmp', 97) ('tmp', 99) 3
            refine R.move ?_  -- 101 := move ('tmp', 100)
            refine R.gT rfl rfl ?_
            refine R.move ?_  -- 102 := move ('tmp', 9)
            refine R.gT rfl rfl ?_
            refine R.neq (b := false) rfl rfl (by simp) ?_  -- 103 := binOp ('neq',) 38 ('tmp', 102) ('const', ('int', ('i64',), 6)) 38
            refine R.pickF rfl ?_  -- 104 := pick ('tmp', 101) ('const', ('bool', ('true',))) ('tmp', 103)
            refine R.nil ?_
            refine E.condF rfl ?_  -- cond t104
            refine E.skip ?_
            refine E.regionP rfl ?_  -- region 3
            refine R.move ?_  -- 12 := move ('tmp', 1)
            refine R.addN (n := 1) rfl rfl (by omega) ?_  -- 13 := binOp ('add',) 3 ('tmp', 12) ('const', ('int', ('i64',), 1)) 3
            refine R.assign ?_  -- 1 := assign ('tmp', 13)
            refine R.nil ?_
            exact ⟨10002 - (j + 1 + 1), by omega, j + 1 + 1, rfl, by omega, by omega, hE, rfl, trivial⟩  -- round end 2 path TF1
    · replace hc11 := dF hc11
      refine E.exit ?_  -- exit 0
      refine E.seq ?_
      refine E.regionP rfl ?_  -- region 17
      refine R.assign ?_  -- 0 := assign ('const', ('bool', ('true',)))
      refine R.nil ?_
      refine E.ret ?_
      exact ret1 (.bool true) rfl rfl ⟨_, rfl, hE, rfl⟩  -- return 0 path F

end Go.Proofs.Ytfdmndkoiheebaa
