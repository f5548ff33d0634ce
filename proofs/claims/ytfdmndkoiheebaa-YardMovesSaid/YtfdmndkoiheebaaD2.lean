/- Pick, changes -/
import Derived.Test.YtfdmndkoiheebaaD1
namespace Go.Proofs.Ytfdmndkoiheebaa
open Go Go.RowKit


/-- The remainder, not below 0. -/
def pickL (a n : Int) : Int := if n < 1 then 0 else a % n
theorem pickL_range {a n : Int} (h : 1 ≤ n) : 0 ≤ pickL a n ∧ pickL a n < n := by
  unfold pickL; rw [if_neg (by omega)]
  exact ⟨Int.emod_nonneg _ (by omega), Int.emod_lt_of_pos _ (by omega)⟩

theorem pick (w : World) {a n : Int} (hn : n ≤ 9223372036854775807) :
    Calls Try.prog 21 #[.int .i64 a, .int .i64 n] w (Ret fun r w' => Ext w w' ∧ r = .int .i64 (pickL a n)) := by
  refine calls_E (args := [.int .i64 a, .int .i64 n]) 16 Try.func21 rfl rfl (by simp) ?_
  have hE : Ext w w := Upd.refl w
  refine E.seq ?_
  refine E.regionP rfl ?_  -- region 0
  refine R.assign ?_  -- 4 := assign ('const', ('int', ('i64',), 0))
  refine R.nil ?_
  refine E.seq ?_
  refine E.seq ?_
  refine E.regionP rfl ?_  -- region 1
  refine R.move ?_  -- 5 := move ('tmp', 1)
  refine R.lss rfl rfl rfl ?_  -- 6 := binOp ('lss',) 3 ('tmp', 5) ('const', ('int', ('i64',), 1)) 3
  refine R.nil ?_
  refine E.cond rfl (fun hc6 => ?_) (fun hc6 => ?_)  -- cond t6
  · replace hc6 := dT hc6
    refine E.seq ?_
    refine E.regionP rfl ?_  -- region 2
    refine R.assign ?_  -- 4 := assign ('const', ('int', ('i64',), 0))
    refine R.nil ?_
    refine E.ret ?_
    exact ret1 (.int .i64 0) rfl rfl ⟨_, rfl, hE, by simp [pickL, hc6]⟩  -- return 0 path T
  · replace hc6 := dF hc6
    have htm := Int.tmod_lt_of_pos a (show 0 < n by omega)
    have htn := Int.lt_tmod_of_pos a (show 0 < n by omega)
    have hem : a % n = if a.tmod n < 0 then a.tmod n + n else a.tmod n := by
      rw [Int.tmod_eq_emod]
      have h1 := Int.emod_nonneg a (show n ≠ 0 by omega)
      have h2 := Int.emod_lt_of_pos a (show 0 < n by omega)
      split
      · simp; omega
      · have : (n.natAbs : Int) = n := by omega
        rw [this]
        split <;> omega
    refine E.skip ?_
    refine E.seq ?_
    refine E.regionP rfl ?_  -- region 3
    refine R.move ?_  -- 7 := move ('tmp', 0)
    refine R.move ?_  -- 8 := move ('tmp', 1)
    refine R.remT rfl rfl (by omega) ?_  -- 9 := binOp ('rem',) 3 ('tmp', 7) ('tmp', 8) 3
    refine R.assign ?_  -- 0 := assign ('tmp', 9)
    refine R.nil ?_
    refine E.seq ?_
    refine E.seq ?_
    refine E.regionP rfl ?_  -- region 4
    refine R.move ?_  -- 10 := move ('tmp', 0)
    refine R.lss rfl rfl rfl ?_  -- 11 := binOp ('lss',) 3 ('tmp', 10) ('const', ('int', ('i64',), 0)) 3
    refine R.nil ?_
    refine E.cond rfl (fun hc11 => ?_) (fun hc11 => ?_)  -- cond t11
    · replace hc11 := dT hc11
      refine E.regionP rfl ?_  -- region 5
      refine R.move ?_  -- 12 := move ('tmp', 0)
      refine R.move ?_  -- 13 := move ('tmp', 1)
      refine R.add rfl rfl (by omega) (by omega) ?_  -- 14 := binOp ('add',) 3 ('tmp', 12) ('tmp', 13) 3
      refine R.assign ?_  -- 0 := assign ('tmp', 14)
      refine R.nil ?_
      refine E.seq ?_
      refine E.regionP rfl ?_  -- region 6
      refine R.move ?_  -- 15 := move ('tmp', 0)
      refine R.assign ?_  -- 4 := assign ('tmp', 15)
      refine R.nil ?_
      refine E.ret ?_
      exact ret1 (.int .i64 (a.tmod n + n)) rfl rfl ⟨_, rfl, hE, by simp [pickL, hc6, hem, hc11]⟩  -- return 1 path FT
    · replace hc11 := dF hc11
      refine E.skip ?_
      refine E.seq ?_
      refine E.regionP rfl ?_  -- region 6
      refine R.move ?_  -- 15 := move ('tmp', 0)
      refine R.assign ?_  -- 4 := assign ('tmp', 15)
      refine R.nil ?_
      refine E.ret ?_
      exact ret1 (.int .i64 (a.tmod n)) rfl rfl ⟨_, rfl, hE, by simp [pickL, hc6, hem, hc11]⟩  -- return 2 path FF


def Fit (xss : List (List Int)) : Prop := xss.length ≤ 32 ∧ ∀ xs ∈ xss, xs.length ≤ 10
theorem Fit.nil : Fit [] := ⟨by simp, by simp⟩
theorem Fit.set {xss : List (List Int)} {i : Nat} {x : List Int} (h : Fit xss) (hx : x.length ≤ 10) : Fit (xss.set i x) := ⟨by rw [List.length_set]; exact h.1, fun xs hxs => by
  rcases List.mem_or_eq_of_mem_set hxs with h1 | h1
  · exact h.2 xs h1
  · subst h1; exact hx⟩
theorem right_getD {xss : List (List Int)} {h : Int} (hR : rightB xss h = true) (i : Nat) : (xss.getD i []).length ≤ 6 := by
  by_cases hi : i < xss.length
  · simp [hi]; exact sum_lengths (rightB_true.1 hR) _ (List.getElem_mem hi)
  · simp [hi]
theorem shiftL_fit {xss : List (List Int)} {H : Nat} {f t : Int} (hF : Fit xss) (h6 : ∀ i, (xss.getD i []).length ≤ 6) : Fit (shiftL xss H f t).1 := by
  unfold shiftL
  split
  · exact hF
  · split
    · exact hF
    · split
      · exact hF
      · split
        · exact hF
        · exact (hF.set (by have := h6 t.toNat; simp only [List.length_append, List.length_cons, List.length_nil]; omega)).set (by have := h6 f.toNat; rw [List.length_dropLast]; omega)
theorem shiftR_fit {xss : List (List Int)} {h f t : Int} (hF : Fit xss) : Fit (shiftR xss h f t).1 := by
  unfold shiftR
  cases hR : rightB xss h
  · exact Fit.nil
  · simp only [Bool.true_eq_false, if_false]
    split
    · exact shiftL_fit hF (right_getD hR)
    · exact Fit.nil
theorem takeR_fit {xss : List (List Int)} {h b : Int} (hF : Fit xss) : Fit (takeR xss h b).1 := by
  unfold takeR
  cases hR : rightB xss h
  · exact Fit.nil
  · simp only [Bool.true_eq_false, if_false]
    split
    · exact Fit.nil
    · split
      · exact Fit.nil
      · rename_i i k _ _
        exact hF.set (by have := right_getD hR i; rw [List.length_take]; omega)
theorem putR_fit {xss : List (List Int)} {h b s : Int} (hF : Fit xss) : Fit (putR xss h b s).1 := by
  unfold putR
  split
  · exact Fit.nil
  · split
    · exact Fit.nil
    · split
      · exact Fit.nil
      · split
        · exact Fit.nil
        · rename_i h1 _ _ _
          have hR : rightB xss h = true := by cases hR : rightB xss h <;> simp_all
          exact hF.set (by have := right_getD hR s.toNat; simp only [List.length_append, List.length_cons, List.length_nil]; omega)
theorem Fit.l6 {xss : List (List Int)} (h : Fit xss) : xss.length < 1000000 := by have := h.1; omega
theorem Fit.l9 {xss : List (List Int)} (h : Fit xss) : xss.length < 1000000000 := by have := h.1; omega
theorem Fit.x6 {xss : List (List Int)} (h : Fit xss) : ∀ xs ∈ xss, xs.length < 1000000 := fun xs hx => by have := h.2 xs hx; omega
theorem Fit.x9 {xss : List (List Int)} (h : Fit xss) : ∀ xs ∈ xss, xs.length < 1000000000 := fun xs hx => by have := h.2 xs hx; omega
theorem yShiftE (w : World) {v : Value} {h f t : Int} {xss : List (List Int)} (hm : ∃ us, Mat w v us xss) (hl : xss.length < 1000000) (hx : ∀ xs ∈ xss, xs.length < 1000000) :
    Calls Try.prog 36 #[.agg #[v, .int .i64 h], .agg #[.int .i64 f, .int .i64 t]] w (Ret fun r w' => Ext w w' ∧ YRes w w' r (shiftR xss h f t)) := by
  obtain ⟨us, hm⟩ := hm; exact yShift w hm hl hx
theorem yTakeE (w : World) {v : Value} {h b : Int} {xss : List (List Int)} (hm : ∃ us, Mat w v us xss) (hl : xss.length < 1000000) (hx : ∀ xs ∈ xss, xs.length < 1000000) :
    Calls Try.prog 25 #[.agg #[v, .int .i64 h], .int .i64 b] w (Ret fun r w' => Ext w w' ∧ YRes w w' r (takeR xss h b)) := by
  obtain ⟨us, hm⟩ := hm; exact yTake w hm hl hx
theorem yPutE (w : World) {v : Value} {h b s : Int} {xss : List (List Int)} (hm : ∃ us, Mat w v us xss) (hl : xss.length < 1000000) (hx : ∀ xs ∈ xss, xs.length < 1000000) :
    Calls Try.prog 26 #[.agg #[v, .int .i64 h], .int .i64 b, .int .i64 s] w (Ret fun r w' => Ext w w' ∧ YRes w w' r (putR xss h b s)) := by
  obtain ⟨us, hm⟩ := hm; exact yPut w hm hl hx

set_option maxHeartbeats 3200000 in
theorem changes (w : World) {v : Value} {h f t b s : Int} {us : List Value} {xss : List (List Int)} (hm : Mat w v us xss) (hF : Fit xss) :
    Calls Try.prog 20 #[.agg #[v, .int .i64 h], .agg #[.int .i64 f, .int .i64 t], .int .i64 b, .int .i64 s] w (Ret fun r w' => Ext w w' ∧ r = .bool true) := by
  refine calls_E (args := [.agg #[v, .int .i64 h], .agg #[.int .i64 f, .int .i64 t], .int .i64 b, .int .i64 s]) 121 Try.func20 rfl rfl (by simp) ?_
  have hE : Ext w w := Upd.refl w
  refine E.seq ?_
  refine E.regionP rfl ?_  -- region 0
  refine R.box rfl nofun ?_  -- 4 := box 24 ('tmp', 0)
  intro b4 w1 hb4 hx1 hB4
  replace hb4 := Nat.le_trans hE.size hb4
  replace hE := hE.ext hx1
  replace hB4 : Blk _ b4 24 #[v, .int .i64 h] := hB4
  refine R.box rfl nofun ?_  -- 5 := box 30 ('tmp', 1)
  intro b5 w2 hb5 hx2 hB5
  replace hb5 := Nat.le_trans hE.size hb5
  replace hB4 := hB4.ext hx2
  replace hE := hE.ext hx2
  replace hB5 : Blk _ b5 30 #[.int .i64 f, .int .i64 t] := hB5
  refine R.assign ?_  -- 8 := assign ('const', ('bool', ('false',)))
  refine R.nil ?_
  refine E.seq ?_
  refine E.regionP rfl ?_  -- region 1
  refine R.loadA t24 hB4 rfl rfl rfl trivial ?_  -- 15 := load 24 ('tmp', 4)
  refine R.callE1 ent30 (own _ (hm.ext hE) hF.l6 hF.x6) rfl nofun ?_  -- 16 := call {'callee': ('value', ('func', 30)), 'args': [('tmp', 15)], 'argTypes': [24]}
  rintro v16 w3 hx3 ⟨u16, rfl, hL16, hf16⟩
  replace hB4 := hB4.ext hx3
  replace hB5 := hB5.ext hx3
  replace hE := hE.ext hx3
  refine R.alloc t24 nofun ?_  -- 9 := alloc 24
  intro b9 w4 hb9 hx4 hB9
  have ne4_9 : b4 ≠ b9 := by have := hB4.lt; omega
  replace hb9 := Nat.le_trans hE.size hb9
  replace hL16 := hL16.ext hx4
  replace hB4 := hB4.ext hx4
  replace hB5 := hB5.ext hx4
  replace hE := hE.ext hx4
  replace hB9 : Blk _ b9 24 #[.slice none 0 0, .int .i64 0] := hB9
  refine R.storeA t24 hB9 rfl rfl rfl rfl (ones2 hL16.one rfl) nofun ?_  -- None := store 24 ('tmp', 9) ('tmp', 16)
  intro w5 hU5 hs5 hN5
  replace hL16 := hL16.upT hU5 hB9 (by decide)
  replace hB4 := hB4.up hU5 (fun h => ne4_9 h)
  replace hB5 := hB5.upT hU5 hB9 (by decide)
  replace hE := hE.own hU5 hb9
  replace hB9 : Blk _ b9 24 #[u16, .int .i64 h] := hN5
  clear hN5
  refine R.nil ?_
  refine E.seq ?_
  refine E.regionP rfl ?_  -- region 2
  refine R.loadA t24 hB4 rfl rfl rfl trivial ?_  -- 17 := load 24 ('tmp', 4)
  refine R.alloc t54 nofun ?_  -- 10 := alloc 54
  intro b10 w6 hb10 hx6 hB10
  replace hb10 := Nat.le_trans hE.size hb10
  replace hL16 := hL16.ext hx6
  replace hB4 := hB4.ext hx6
  replace hB5 := hB5.ext hx6
  replace hB9 := hB9.ext hx6
  replace hE := hE.ext hx6
  replace hB10 : Blk _ b10 54 #[.slice none 0 0, .int .i64 0] := hB10
  refine R.storeA t54 hB10 rfl rfl rfl rfl (ones2 hm.row.one rfl) nofun ?_  -- None := store 54 ('tmp', 10) ('tmp', 17)
  intro w7 hU7 hs7 hN7
  replace hL16 := hL16.upT hU7 hB10 (by decide)
  replace hB4 := hB4.upT hU7 hB10 (by decide)
  replace hB5 := hB5.upT hU7 hB10 (by decide)
  replace hB9 := hB9.upT hU7 hB10 (by decide)
  replace hE := hE.own hU7 hb10
  replace hB10 : Blk _ b10 54 #[v, .int .i64 h] := hN7
  clear hN7
  refine R.nil ?_
  refine E.seq ?_
  refine E.regionP rfl ?_  -- region 3
  refine R.loadA t24 hB9 rfl rfl rfl trivial ?_  -- 19 := load 24 ('tmp', 9)
  refine R.loadA t30 hB5 rfl rfl rfl trivial ?_  -- 20 := load 30 ('tmp', 5)
  refine R.callE2 ent36 (yShiftE _ hL16.mat hF.l6 hF.x6) rfl rfl nofun ?_  -- 21 := call {'callee': ('value', ('func', 36)), 'args': [('tmp', 19), ('tmp', 20)], 'argTypes': [24, 30]}
  rintro v21 w8 hx8 ⟨u21, rfl, hY21⟩
  have hLs21 := hL16
  have hsz21 := hE.size
  have hK21 : Keep _ _ := Ext.upd hx8
  replace hL16 := hL16.ext hx8
  replace hB4 := hB4.ext hx8
  replace hB5 := hB5.ext hx8
  replace hB9 := hB9.ext hx8
  replace hB10 := hB10.ext hx8
  replace hE := hE.ext hx8
  refine R.move ?_  -- 18 := move ('tmp', 21)
  refine R.extract rfl rfl ?_  -- 22 := extract ('tmp', 18) 0
  refine R.extract rfl rfl ?_  -- 23 := extract ('tmp', 18) 1
  refine R.alloc t24 nofun ?_  -- 11 := alloc 24
  intro b11 w9 hb11 hx9 hB11
  have ne4_11 : b4 ≠ b11 := by have := hB4.lt; omega
  have ne9_11 : b9 ≠ b11 := by have := hB9.lt; omega
  replace hb11 := Nat.le_trans hE.size hb11
  replace hL16 := hL16.ext hx9
  replace hY21 := hY21.ext hx9
  replace hK21 := hK21.ext hx9
  replace hB4 := hB4.ext hx9
  replace hB5 := hB5.ext hx9
  replace hB9 := hB9.ext hx9
  replace hB10 := hB10.ext hx9
  replace hE := hE.ext hx9
  replace hB11 : Blk _ b11 24 #[.slice none 0 0, .int .i64 0] := hB11
  refine R.storeA t24 hB11 rfl rfl rfl rfl (ones2 hY21.one' rfl) nofun ?_  -- None := store 24 ('tmp', 11) ('tmp', 22)
  intro w10 hU10 hs10 hN10
  replace hL16 := hL16.upT hU10 hB11 (by decide)
  replace hY21 := hY21.upT hU10 hB11 (by decide)
  replace hK21 := hK21.upT hU10 hB11 (by decide)
  replace hB4 := hB4.up hU10 (fun h => ne4_11 h)
  replace hB5 := hB5.upT hU10 hB11 (by decide)
  replace hB9 := hB9.up hU10 (fun h => ne9_11 h)
  replace hB10 := hB10.upT hU10 hB11 (by decide)
  replace hE := hE.own hU10 hb11
  replace hB11 : Blk _ b11 24 #[u21, .int .i64 (shiftR xss h f t).2.1] := hN10
  clear hN10
  refine R.assign ?_  -- 12 := assign ('tmp', 23)
  refine R.nil ?_
  refine E.seq ?_
  refine E.regionP rfl ?_  -- region 4
  refine R.loadA t54 hB10 rfl rfl rfl trivial ?_  -- 25 := load 54 ('tmp', 10)
  refine R.loadA t30 hB5 rfl rfl rfl trivial ?_  -- 26 := load 30 ('tmp', 5)
  refine R.callE2 ent58 (rShift _ (hm.ext hE) (by have := hF.1; omega) hF.2) rfl rfl nofun ?_  -- 27 := call {'callee': ('value', ('func', 58)), 'args': [('tmp', 25), ('tmp', 26)], 'argTypes': [54, 53]}
  rintro v27 w11 hx11 ⟨u27, us27, rfl, hM27⟩
  replace hL16 := hL16.ext hx11
  replace hY21 := hY21.ext hx11
  replace hK21 := hK21.ext hx11
  replace hB4 := hB4.ext hx11
  replace hB5 := hB5.ext hx11
  replace hB9 := hB9.ext hx11
  replace hB10 := hB10.ext hx11
  replace hB11 := hB11.ext hx11
  replace hE := hE.ext hx11
  refine R.move ?_  -- 24 := move ('tmp', 27)
  refine R.extract rfl rfl ?_  -- 28 := extract ('tmp', 24) 0
  refine R.extract rfl rfl ?_  -- 29 := extract ('tmp', 24) 1
  refine R.alloc t54 nofun ?_  -- 13 := alloc 54
  intro b13 w12 hb13 hx12 hB13
  have ne10_13 : b10 ≠ b13 := by have := hB10.lt; omega
  replace hb13 := Nat.le_trans hE.size hb13
  replace hL16 := hL16.ext hx12
  replace hY21 := hY21.ext hx12
  replace hK21 := hK21.ext hx12
  replace hM27 := hM27.ext hx12
  replace hB4 := hB4.ext hx12
  replace hB5 := hB5.ext hx12
  replace hB9 := hB9.ext hx12
  replace hB10 := hB10.ext hx12
  replace hB11 := hB11.ext hx12
  replace hE := hE.ext hx12
  replace hB13 : Blk _ b13 54 #[.slice none 0 0, .int .i64 0] := hB13
  refine R.storeA t54 hB13 rfl rfl rfl rfl (ones2 hM27.outer.one rfl) nofun ?_  -- None := store 54 ('tmp', 13) ('tmp', 28)
  intro w13 hU13 hs13 hN13
  replace hL16 := hL16.upT hU13 hB13 (by decide)
  replace hY21 := hY21.upT hU13 hB13 (by decide)
  replace hK21 := hK21.upT hU13 hB13 (by decide)
  replace hM27 := hM27.upT hU13 hB13 (by decide)
  replace hB4 := hB4.upT hU13 hB13 (by decide)
  replace hB5 := hB5.upT hU13 hB13 (by decide)
  replace hB9 := hB9.upT hU13 hB13 (by decide)
  replace hB10 := hB10.up hU13 (fun h => ne10_13 h)
  replace hB11 := hB11.upT hU13 hB13 (by decide)
  replace hE := hE.own hU13 hb13
  replace hB13 : Blk _ b13 54 #[u27, .int .i64 (shiftR xss h f t).2.1] := hN13
  clear hN13
  refine R.assign ?_  -- 14 := assign ('tmp', 29)
  refine R.nil ?_
  refine E.seq ?_
  refine E.seq ?_
  refine E.regionP rfl ?_  -- region 5
  refine R.move ?_  -- 30 := move ('tmp', 12)
  refine R.move ?_  -- 31 := move ('tmp', 14)
  refine R.neq (b := false) rfl rfl (by simp) ?_  -- 32 := binOp ('neq',) 3 ('tmp', 30) ('tmp', 31) 3
  refine R.move ?_  -- 33 := move ('tmp', 32)
  refine R.gT rfl rfl ?_
  refine R.loadA t24 hB11 rfl rfl rfl trivial ?_  -- 34 := load 24 ('tmp', 11)
  refine R.gT rfl rfl ?_
  refine R.loadA t54 hB13 rfl rfl rfl trivial ?_  -- 35 := load 54 ('tmp', 13)
  refine R.gT rfl rfl ?_
  refine R.callE2 ent28 (same1 _ hY21.mat hM27.mat (shiftR_fit (h := h) (f := f) (t := t) hF).l9 (shiftR_fit (h := h) (f := f) (t := t) hF).x9) rfl rfl nofun ?_  -- 36 := call {'callee': ('value', ('func', 28)), 'args': [('tmp', 34), ('tmp', 35)], 'argTypes': [24, 24]}
  rintro v36 w14 hx14 rfl
  replace hL16 := hL16.ext hx14
  replace hY21 := hY21.ext hx14
  replace hK21 := hK21.ext hx14
  replace hM27 := hM27.ext hx14
  replace hB4 := hB4.ext hx14
  replace hB5 := hB5.ext hx14
  replace hB9 := hB9.ext hx14
  replace hB10 := hB10.ext hx14
  replace hB11 := hB11.ext hx14
  replace hB13 := hB13.ext hx14
  replace hE := hE.ext hx14
  refine R.gT rfl rfl ?_
  refine R.not rfl ?_  -- 37 := unOp ('not',) 4 ('tmp', 36)
  refine R.pickF rfl ?_  -- 38 := pick ('tmp', 33) ('const', ('bool', ('true',))) ('tmp', 37)
  refine R.move ?_  -- 39 := move ('tmp', 38)
  refine R.gT rfl rfl ?_
  refine R.loadA t24 hB9 rfl rfl rfl trivial ?_  -- 40 := load 24 ('tmp', 9)
  refine R.gT rfl rfl ?_
  refine R.loadA t24 hB4 rfl rfl rfl trivial ?_  -- 41 := load 24 ('tmp', 4)
  refine R.gT rfl rfl ?_
  refine R.callE2 ent33 (kept _ hL16 (hm.ext hE) hF.l6 hF.x6) rfl rfl nofun ?_  -- 42 := call {'callee': ('value', ('func', 33)), 'args': [('tmp', 40), ('tmp', 41)], 'argTypes': [24, 24]}
  rintro v42 w15 hx15 rfl
  replace hL16 := hL16.ext hx15
  replace hY21 := hY21.ext hx15
  replace hK21 := hK21.ext hx15
  replace hM27 := hM27.ext hx15
  replace hB4 := hB4.ext hx15
  replace hB5 := hB5.ext hx15
  replace hB9 := hB9.ext hx15
  replace hB10 := hB10.ext hx15
  replace hB11 := hB11.ext hx15
  replace hB13 := hB13.ext hx15
  replace hE := hE.ext hx15
  refine R.gT rfl rfl ?_
  refine R.not rfl ?_  -- 43 := unOp ('not',) 4 ('tmp', 42)
  refine R.pickF rfl ?_  -- 44 := pick ('tmp', 39) ('const', ('bool', ('true',))) ('tmp', 43)
  refine R.move ?_  -- 45 := move ('tmp', 44)
  refine R.gT rfl rfl ?_
  refine R.loadA t24 hB11 rfl rfl rfl trivial ?_  -- 46 := load 24 ('tmp', 11)
  refine R.gT rfl rfl ?_
  refine R.loadA t24 hB9 rfl rfl rfl trivial ?_  -- 47 := load 24 ('tmp', 9)
  refine R.gT rfl rfl ?_
  refine R.call2 ent34 (apart_ _ _ hK21 hY21 hLs21 (shiftR_fit (h := h) (f := f) (t := t) hF).l6 hF.l6 (shiftR_fit (h := h) (f := f) (t := t) hF).2 hF.x6) rfl rfl ?_  -- 48 := call {'callee': ('value', ('func', 34)), 'args': [('tmp', 46), ('tmp', 47)], 'argTypes': [24, 24]}
  rintro v48 w48 ⟨hU48, rfl⟩
  refine ⟨nofun, ?_⟩
  have hK48 := Keep.up34 hK21 hU48
  replace hL16 := hLs21.keep hK48
  replace hE := hE.trans hU48 (fun b hb h => by have := h.1; omega)
  clear hY21 hK21 hM27
  replace hB4 := hB4.up34 hU48 (by decide)
  replace hB5 := hB5.up34 hU48 (by decide)
  replace hB9 := hB9.up34 hU48 (by decide)
  replace hB10 := hB10.up34 hU48 (by decide)
  replace hB11 := hB11.up34 hU48 (by decide)
  replace hB13 := hB13.up34 hU48 (by decide)
  refine R.gT rfl rfl ?_
  refine R.not rfl ?_  -- 49 := unOp ('not',) 4 ('tmp', 48)
  refine R.pickF rfl ?_  -- 50 := pick ('tmp', 45) ('const', ('bool', ('true',))) ('tmp', 49)
  refine R.nil ?_
  refine E.condF rfl ?_  -- cond t50
  refine E.skip ?_
  refine E.seq ?_
  refine E.regionP rfl ?_  -- region 7
  refine R.loadA t24 hB9 rfl rfl rfl trivial ?_  -- 52 := load 24 ('tmp', 9)
  refine R.move ?_  -- 53 := move ('tmp', 2)
  refine R.callE2 ent25 (yTakeE _ hL16.mat hF.l6 hF.x6) rfl rfl nofun ?_  -- 54 := call {'callee': ('value', ('func', 25)), 'args': [('tmp', 52), ('tmp', 53)], 'argTypes': [24, 3]}
  rintro v54 w16 hx16 ⟨u54, rfl, hY54⟩
  have hLs54 := hL16
  have hsz54 := hE.size
  have hK54 : Keep _ _ := Ext.upd hx16
  replace hL16 := hL16.ext hx16
  replace hB4 := hB4.ext hx16
  replace hB5 := hB5.ext hx16
  replace hB9 := hB9.ext hx16
  replace hB10 := hB10.ext hx16
  replace hB11 := hB11.ext hx16
  replace hB13 := hB13.ext hx16
  replace hE := hE.ext hx16
  refine R.move ?_  -- 51 := move ('tmp', 54)
  refine R.extract rfl rfl ?_  -- 55 := extract ('tmp', 51) 0
  refine R.extract rfl rfl ?_  -- 56 := extract ('tmp', 51) 1
  refine R.storeA t24 hB11 rfl rfl rfl rfl (ones2 hY54.one' rfl) nofun ?_  -- None := store 24 ('tmp', 11) ('tmp', 55)
  intro w17 hU17 hs17 hN17
  replace hL16 := hL16.upT hU17 hB11 (by decide)
  replace hY54 := hY54.upT hU17 hB11 (by decide)
  replace hK54 := hK54.upT hU17 hB11 (by decide)
  replace hB4 := hB4.up hU17 (fun h => ne4_11 h)
  replace hB5 := hB5.upT hU17 hB11 (by decide)
  replace hB9 := hB9.up hU17 (fun h => ne9_11 h)
  replace hB10 := hB10.upT hU17 hB11 (by decide)
  replace hB13 := hB13.upT hU17 hB11 (by decide)
  replace hE := hE.own hU17 hb11
  replace hB11 : Blk _ b11 24 #[u54, .int .i64 (takeR xss h b).2.1] := hN17
  clear hN17
  refine R.assign ?_  -- 12 := assign ('tmp', 56)
  refine R.nil ?_
  refine E.seq ?_
  refine E.regionP rfl ?_  -- region 8
  refine R.loadA t54 hB10 rfl rfl rfl trivial ?_  -- 58 := load 54 ('tmp', 10)
  refine R.move ?_  -- 59 := move ('tmp', 2)
  refine R.callE2 ent59 (rTake _ (hm.ext hE) (by have := hF.1; omega) hF.2) rfl rfl nofun ?_  -- 60 := call {'callee': ('value', ('func', 59)), 'args': [('tmp', 58), ('tmp', 59)], 'argTypes': [54, 3]}
  rintro v60 w18 hx18 ⟨u60, us60, rfl, hM60⟩
  replace hL16 := hL16.ext hx18
  replace hY54 := hY54.ext hx18
  replace hK54 := hK54.ext hx18
  replace hB4 := hB4.ext hx18
  replace hB5 := hB5.ext hx18
  replace hB9 := hB9.ext hx18
  replace hB10 := hB10.ext hx18
  replace hB11 := hB11.ext hx18
  replace hB13 := hB13.ext hx18
  replace hE := hE.ext hx18
  refine R.move ?_  -- 57 := move ('tmp', 60)
  refine R.extract rfl rfl ?_  -- 61 := extract ('tmp', 57) 0
  refine R.extract rfl rfl ?_  -- 62 := extract ('tmp', 57) 1
  refine R.storeA t54 hB13 rfl rfl rfl rfl (ones2 hM60.outer.one rfl) nofun ?_  -- None := store 54 ('tmp', 13) ('tmp', 61)
  intro w19 hU19 hs19 hN19
  replace hL16 := hL16.upT hU19 hB13 (by decide)
  replace hY54 := hY54.upT hU19 hB13 (by decide)
  replace hK54 := hK54.upT hU19 hB13 (by decide)
  replace hM60 := hM60.upT hU19 hB13 (by decide)
  replace hB4 := hB4.upT hU19 hB13 (by decide)
  replace hB5 := hB5.upT hU19 hB13 (by decide)
  replace hB9 := hB9.upT hU19 hB13 (by decide)
  replace hB10 := hB10.up hU19 (fun h => ne10_13 h)
  replace hB11 := hB11.upT hU19 hB13 (by decide)
  replace hE := hE.own hU19 hb13
  replace hB13 : Blk _ b13 54 #[u60, .int .i64 (takeR xss h b).2.1] := hN19
  clear hN19
  refine R.assign ?_  -- 14 := assign ('tmp', 62)
  refine R.nil ?_
  refine E.seq ?_
  refine E.seq ?_
  refine E.regionP rfl ?_  -- region 9
  refine R.move ?_  -- 63 := move ('tmp', 12)
  refine R.move ?_  -- 64 := move ('tmp', 14)
  refine R.neq (b := false) rfl rfl (by simp) ?_  -- 65 := binOp ('neq',) 3 ('tmp', 63) ('tmp', 64) 3
  refine R.move ?_  -- 66 := move ('tmp', 65)
  refine R.gT rfl rfl ?_
  refine R.loadA t24 hB11 rfl rfl rfl trivial ?_  -- 67 := load 24 ('tmp', 11)
  refine R.gT rfl rfl ?_
  refine R.loadA t54 hB13 rfl rfl rfl trivial ?_  -- 68 := load 54 ('tmp', 13)
  refine R.gT rfl rfl ?_
  refine R.callE2 ent28 (same1 _ hY54.mat hM60.mat (takeR_fit (h := h) (b := b) hF).l9 (takeR_fit (h := h) (b := b) hF).x9) rfl rfl nofun ?_  -- 69 := call {'callee': ('value', ('func', 28)), 'args': [('tmp', 67), ('tmp', 68)], 'argTypes': [24, 24]}
  rintro v69 w20 hx20 rfl
  replace hL16 := hL16.ext hx20
  replace hY54 := hY54.ext hx20
  replace hK54 := hK54.ext hx20
  replace hM60 := hM60.ext hx20
  replace hB4 := hB4.ext hx20
  replace hB5 := hB5.ext hx20
  replace hB9 := hB9.ext hx20
  replace hB10 := hB10.ext hx20
  replace hB11 := hB11.ext hx20
  replace hB13 := hB13.ext hx20
  replace hE := hE.ext hx20
  refine R.gT rfl rfl ?_
  refine R.not rfl ?_  -- 70 := unOp ('not',) 4 ('tmp', 69)
  refine R.pickF rfl ?_  -- 71 := pick ('tmp', 66) ('const', ('bool', ('true',))) ('tmp', 70)
  refine R.move ?_  -- 72 := move ('tmp', 71)
  refine R.gT rfl rfl ?_
  refine R.loadA t24 hB9 rfl rfl rfl trivial ?_  -- 73 := load 24 ('tmp', 9)
  refine R.gT rfl rfl ?_
  refine R.loadA t24 hB4 rfl rfl rfl trivial ?_  -- 74 := load 24 ('tmp', 4)
  refine R.gT rfl rfl ?_
  refine R.callE2 ent33 (kept _ hL16 (hm.ext hE) hF.l6 hF.x6) rfl rfl nofun ?_  -- 75 := call {'callee': ('value', ('func', 33)), 'args': [('tmp', 73), ('tmp', 74)], 'argTypes': [24, 24]}
  rintro v75 w21 hx21 rfl
  replace hL16 := hL16.ext hx21
  replace hY54 := hY54.ext hx21
  replace hK54 := hK54.ext hx21
  replace hM60 := hM60.ext hx21
  replace hB4 := hB4.ext hx21
  replace hB5 := hB5.ext hx21
  replace hB9 := hB9.ext hx21
  replace hB10 := hB10.ext hx21
  replace hB11 := hB11.ext hx21
  replace hB13 := hB13.ext hx21
  replace hE := hE.ext hx21
  refine R.gT rfl rfl ?_
  refine R.not rfl ?_  -- 76 := unOp ('not',) 4 ('tmp', 75)
  refine R.pickF rfl ?_  -- 77 := pick ('tmp', 72) ('const', ('bool', ('true',))) ('tmp', 76)
  refine R.move ?_  -- 78 := move ('tmp', 77)
  refine R.gT rfl rfl ?_
  refine R.loadA t24 hB11 rfl rfl rfl trivial ?_  -- 79 := load 24 ('tmp', 11)
  refine R.gT rfl rfl ?_
  refine R.loadA t24 hB9 rfl rfl rfl trivial ?_  -- 80 := load 24 ('tmp', 9)
  refine R.gT rfl rfl ?_
  refine R.call2 ent34 (apart_ _ _ hK54 hY54 hLs54 (takeR_fit (h := h) (b := b) hF).l6 hF.l6 (takeR_fit (h := h) (b := b) hF).2 hF.x6) rfl rfl ?_  -- 81 := call {'callee': ('value', ('func', 34)), 'args': [('tmp', 79), ('tmp', 80)], 'argTypes': [24, 24]}
  rintro v81 w81 ⟨hU81, rfl⟩
  refine ⟨nofun, ?_⟩
  have hK81 := Keep.up34 hK54 hU81
  replace hL16 := hLs54.keep hK81
  replace hE := hE.trans hU81 (fun b hb h => by have := h.1; omega)
  clear hY54 hK54 hM60
  replace hB4 := hB4.up34 hU81 (by decide)
  replace hB5 := hB5.up34 hU81 (by decide)
  replace hB9 := hB9.up34 hU81 (by decide)
  replace hB10 := hB10.up34 hU81 (by decide)
  replace hB11 := hB11.up34 hU81 (by decide)
  replace hB13 := hB13.up34 hU81 (by decide)
  refine R.gT rfl rfl ?_
  refine R.not rfl ?_  -- 82 := unOp ('not',) 4 ('tmp', 81)
  refine R.pickF rfl ?_  -- 83 := pick ('tmp', 78) ('const', ('bool', ('true',))) ('tmp', 82)
  refine R.nil ?_
  refine E.condF rfl ?_  -- cond t83
  refine E.skip ?_
  refine E.seq ?_
  refine E.regionP rfl ?_  -- region 11
  refine R.loadA t24 hB9 rfl rfl rfl trivial ?_  -- 85 := load 24 ('tmp', 9)
  refine R.move ?_  -- 86 := move ('tmp', 2)
  refine R.move ?_  -- 87 := move ('tmp', 3)
  refine R.callE3 ent26 (yPutE _ hL16.mat hF.l6 hF.x6) rfl rfl rfl nofun ?_  -- 88 := call {'callee': ('value', ('func', 26)), 'args': [('tmp', 85), ('tmp', 86), ('tmp', 87)], 'argTypes': [24, 3, 3]}
  rintro v88 w22 hx22 ⟨u88, rfl, hY88⟩
  have hLs88 := hL16
  have hsz88 := hE.size
  have hK88 : Keep _ _ := Ext.upd hx22
  replace hL16 := hL16.ext hx22
  replace hB4 := hB4.ext hx22
  replace hB5 := hB5.ext hx22
  replace hB9 := hB9.ext hx22
  replace hB10 := hB10.ext hx22
  replace hB11 := hB11.ext hx22
  replace hB13 := hB13.ext hx22
  replace hE := hE.ext hx22
  refine R.move ?_  -- 84 := move ('tmp', 88)
  refine R.extract rfl rfl ?_  -- 89 := extract ('tmp', 84) 0
  refine R.extract rfl rfl ?_  -- 90 := extract ('tmp', 84) 1
  refine R.storeA t24 hB11 rfl rfl rfl rfl (ones2 hY88.one' rfl) nofun ?_  -- None := store 24 ('tmp', 11) ('tmp', 89)
  intro w23 hU23 hs23 hN23
  replace hL16 := hL16.upT hU23 hB11 (by decide)
  replace hY88 := hY88.upT hU23 hB11 (by decide)
  replace hK88 := hK88.upT hU23 hB11 (by decide)
  replace hB4 := hB4.up hU23 (fun h => ne4_11 h)
  replace hB5 := hB5.upT hU23 hB11 (by decide)
  replace hB9 := hB9.up hU23 (fun h => ne9_11 h)
  replace hB10 := hB10.upT hU23 hB11 (by decide)
  replace hB13 := hB13.upT hU23 hB11 (by decide)
  replace hE := hE.own hU23 hb11
  replace hB11 : Blk _ b11 24 #[u88, .int .i64 (putR xss h b s).2.1] := hN23
  clear hN23
  refine R.assign ?_  -- 12 := assign ('tmp', 90)
  refine R.nil ?_
  refine E.seq ?_
  refine E.regionP rfl ?_  -- region 12
  refine R.loadA t54 hB10 rfl rfl rfl trivial ?_  -- 92 := load 54 ('tmp', 10)
  refine R.move ?_  -- 93 := move ('tmp', 2)
  refine R.move ?_  -- 94 := move ('tmp', 3)
  refine R.callE3 ent60 (rPut _ (hm.ext hE) (by have := hF.1; omega) hF.2) rfl rfl rfl nofun ?_  -- 95 := call {'callee': ('value', ('func', 60)), 'args': [('tmp', 92), ('tmp', 93), ('tmp', 94)], 'argTypes': [54, 3, 3]}
  rintro v95 w24 hx24 ⟨u95, us95, rfl, hM95⟩
  replace hL16 := hL16.ext hx24
  replace hY88 := hY88.ext hx24
  replace hK88 := hK88.ext hx24
  replace hB4 := hB4.ext hx24
  replace hB5 := hB5.ext hx24
  replace hB9 := hB9.ext hx24
  replace hB10 := hB10.ext hx24
  replace hB11 := hB11.ext hx24
  replace hB13 := hB13.ext hx24
  replace hE := hE.ext hx24
  refine R.move ?_  -- 91 := move ('tmp', 95)
  refine R.extract rfl rfl ?_  -- 96 := extract ('tmp', 91) 0
  refine R.extract rfl rfl ?_  -- 97 := extract ('tmp', 91) 1
  refine R.storeA t54 hB13 rfl rfl rfl rfl (ones2 hM95.outer.one rfl) nofun ?_  -- None := store 54 ('tmp', 13) ('tmp', 96)
  intro w25 hU25 hs25 hN25
  replace hL16 := hL16.upT hU25 hB13 (by decide)
  replace hY88 := hY88.upT hU25 hB13 (by decide)
  replace hK88 := hK88.upT hU25 hB13 (by decide)
  replace hM95 := hM95.upT hU25 hB13 (by decide)
  replace hB4 := hB4.upT hU25 hB13 (by decide)
  replace hB5 := hB5.upT hU25 hB13 (by decide)
  replace hB9 := hB9.upT hU25 hB13 (by decide)
  replace hB10 := hB10.up hU25 (fun h => ne10_13 h)
  replace hB11 := hB11.upT hU25 hB13 (by decide)
  replace hE := hE.own hU25 hb13
  replace hB13 : Blk _ b13 54 #[u95, .int .i64 (putR xss h b s).2.1] := hN25
  clear hN25
  refine R.assign ?_  -- 14 := assign ('tmp', 97)
  refine R.nil ?_
  refine E.seq ?_
  refine E.regionP rfl ?_  -- region 13
  refine R.move ?_  -- 98 := move ('tmp', 12)
  refine R.move ?_  -- 99 := move ('tmp', 14)
  refine R.eql (b := true) rfl rfl (by simp) ?_  -- 100 := binOp ('eql',) 3 ('tmp', 98) ('tmp', 99) 3
  refine R.move ?_  -- 101 := move ('tmp', 100)
  refine R.gT rfl rfl ?_
  refine R.loadA t24 hB11 rfl rfl rfl trivial ?_  -- 102 := load 24 ('tmp', 11)
  refine R.gT rfl rfl ?_
  refine R.loadA t54 hB13 rfl rfl rfl trivial ?_  -- 103 := load 54 ('tmp', 13)
  refine R.gT rfl rfl ?_
  refine R.callE2 ent28 (same1 _ hY88.mat hM95.mat (putR_fit (h := h) (b := b) (s := s) hF).l9 (putR_fit (h := h) (b := b) (s := s) hF).x9) rfl rfl nofun ?_  -- 104 := call {'callee': ('value', ('func', 28)), 'args': [('tmp', 102), ('tmp', 103)], 'argTypes': [24, 24]}
  rintro v104 w26 hx26 rfl
  replace hL16 := hL16.ext hx26
  replace hY88 := hY88.ext hx26
  replace hK88 := hK88.ext hx26
  replace hM95 := hM95.ext hx26
  replace hB4 := hB4.ext hx26
  replace hB5 := hB5.ext hx26
  replace hB9 := hB9.ext hx26
  replace hB10 := hB10.ext hx26
  replace hB11 := hB11.ext hx26
  replace hB13 := hB13.ext hx26
  replace hE := hE.ext hx26
  refine R.pickT rfl ?_  -- 105 := pick ('tmp', 101) ('tmp', 104) ('const', ('bool', ('false',)))
  refine R.move ?_  -- 106 := move ('tmp', 105)
  refine R.gT rfl rfl ?_
  refine R.loadA t24 hB9 rfl rfl rfl trivial ?_  -- 107 := load 24 ('tmp', 9)
  refine R.gT rfl rfl ?_
  refine R.loadA t24 hB4 rfl rfl rfl trivial ?_  -- 108 := load 24 ('tmp', 4)
  refine R.gT rfl rfl ?_
  refine R.callE2 ent33 (kept _ hL16 (hm.ext hE) hF.l6 hF.x6) rfl rfl nofun ?_  -- 109 := call {'callee': ('value', ('func', 33)), 'args': [('tmp', 107), ('tmp', 108)], 'argTypes': [24, 24]}
  rintro v109 w27 hx27 rfl
  replace hL16 := hL16.ext hx27
  replace hY88 := hY88.ext hx27
  replace hK88 := hK88.ext hx27
  replace hM95 := hM95.ext hx27
  replace hB4 := hB4.ext hx27
  replace hB5 := hB5.ext hx27
  replace hB9 := hB9.ext hx27
  replace hB10 := hB10.ext hx27
  replace hB11 := hB11.ext hx27
  replace hB13 := hB13.ext hx27
  replace hE := hE.ext hx27
  refine R.pickT rfl ?_  -- 110 := pick ('tmp', 106) ('tmp', 109) ('const', ('bool', ('false',)))
  refine R.move ?_  -- 111 := move ('tmp', 110)
  refine R.gT rfl rfl ?_
  refine R.loadA t24 hB11 rfl rfl rfl trivial ?_  -- 112 := load 24 ('tmp', 11)
  refine R.gT rfl rfl ?_
  refine R.loadA t24 hB9 rfl rfl rfl trivial ?_  -- 113 := load 24 ('tmp', 9)
  refine R.gT rfl rfl ?_
  refine R.call2 ent34 (apart_ _ _ hK88 hY88 hLs88 (putR_fit (h := h) (b := b) (s := s) hF).l6 hF.l6 (putR_fit (h := h) (b := b) (s := s) hF).2 hF.x6) rfl rfl ?_  -- 114 := call {'callee': ('value', ('func', 34)), 'args': [('tmp', 112), ('tmp', 113)], 'argTypes': [24, 24]}
  rintro v114 w114 ⟨hU114, rfl⟩
  refine ⟨nofun, ?_⟩
  have hK114 := Keep.up34 hK88 hU114
  replace hL16 := hLs88.keep hK114
  replace hE := hE.trans hU114 (fun b hb h => by have := h.1; omega)
  clear hY88 hK88 hM95
  replace hB4 := hB4.up34 hU114 (by decide)
  replace hB5 := hB5.up34 hU114 (by decide)
  replace hB9 := hB9.up34 hU114 (by decide)
  replace hB10 := hB10.up34 hU114 (by decide)
  replace hB11 := hB11.up34 hU114 (by decide)
  replace hB13 := hB13.up34 hU114 (by decide)
  refine R.pickT rfl ?_  -- 115 := pick ('tmp', 111) ('tmp', 114) ('const', ('bool', ('false',)))
  refine R.move ?_  -- 116 := move ('tmp', 115)
  refine R.gT rfl rfl ?_
  refine R.loadA t24 hB9 rfl rfl rfl trivial ?_  -- 117 := load 24 ('tmp', 9)
  refine R.gT rfl rfl ?_
  refine R.loadA t24 hB4 rfl rfl rfl trivial ?_  -- 118 := load 24 ('tmp', 4)
  refine R.gT rfl rfl ?_
  refine R.callE2 ent33 (kept _ hL16 (hm.ext hE) hF.l6 hF.x6) rfl rfl nofun ?_  -- 119 := call {'callee': ('value', ('func', 33)), 'args': [('tmp', 117), ('tmp', 118)], 'argTypes': [24, 24]}
  rintro v119 w28 hx28 rfl
  replace hL16 := hL16.ext hx28
  replace hB4 := hB4.ext hx28
  replace hB5 := hB5.ext hx28
  replace hB9 := hB9.ext hx28
  replace hB10 := hB10.ext hx28
  replace hB11 := hB11.ext hx28
  replace hB13 := hB13.ext hx28
  replace hE := hE.ext hx28
  refine R.pickT rfl ?_  -- 120 := pick ('tmp', 116) ('tmp', 119) ('const', ('bool', ('false',)))
  refine R.assign ?_  -- 8 := assign ('tmp', 120)
  refine R.nil ?_
  refine E.ret ?_
  exact ret1 (.bool true) rfl rfl ⟨_, rfl, hE, rfl⟩  -- return 0 path 

theorem yardChanges (w : World) {v : Value} {h f t b : Int} {us : List Value} {xss : List (List Int)} (hm : Mat w v us xss) (hl : xss.length ≤ 9223372036854775807) :
    Calls Try.prog 4 #[.agg #[v, .int .i64 h], .int .i64 f, .int .i64 t, .int .i64 b] w (Ret fun r w' => Ext w w' ∧ r = .bool true) := by
  cases hq : decide ((∀ xs ∈ xss, xs.length ≤ 10) ∧ xss.length ≤ 32)
  · refine calls_E (args := [.agg #[v, .int .i64 h], .int .i64 f, .int .i64 t, .int .i64 b]) 43 Try.func4 rfl rfl (by simp) ?_
    have hE : Ext w w := Upd.refl w
    refine E.seq ?_
    refine E.regionP rfl ?_  -- region 0
    refine R.box rfl nofun ?_  -- 4 := box 24 ('tmp', 0)
    intro b4 w1 hb4 hx1 hB4
    replace hb4 := Nat.le_trans hE.size hb4
    replace hE := hE.ext hx1
    replace hB4 : Blk _ b4 24 #[v, .int .i64 h] := hB4
    refine R.assign ?_  -- 8 := assign ('const', ('bool', ('false',)))
    refine R.nil ?_
    refine E.seq ?_
    refine E.seq ?_
    refine E.regionP rfl ?_  -- region 1
    refine R.loadA t24 hB4 rfl rfl rfl trivial ?_  -- 10 := load 24 ('tmp', 4)
    refine R.callE1 ent17 (few _ (hm.ext hE) hl) rfl nofun ?_  -- 11 := call {'callee': ('value', ('func', 17)), 'args': [('tmp', 10)], 'argTypes': [24]}
    rintro v11 w2 hx2 rfl
    rw [hq]
    replace hB4 := hB4.ext hx2
    replace hE := hE.ext hx2
    refine R.not rfl ?_  -- 12 := unOp ('not',) 4 ('tmp', 11)
    refine R.nil ?_
    refine E.condT rfl ?_  -- cond t12
    refine E.seq ?_
    refine E.regionP rfl ?_  -- region 2
    refine R.callE0 ent19 (awake _)  nofun ?_  -- 13 := call {'callee': ('value', ('func', 19)), 'args': [], 'argTypes': []}
    rintro v13 w3 hx3 rfl
    replace hB4 := hB4.ext hx3
    replace hE := hE.ext hx3
    refine R.assign ?_  -- 8 := assign ('tmp', 13)
    refine R.nil ?_
    refine E.ret ?_
    exact ret1 (.bool true) rfl rfl ⟨_, rfl, hE, rfl⟩  -- return 0 path 
  · have hF : Fit xss := ⟨(of_decide_eq_true hq).2, (of_decide_eq_true hq).1⟩
    have hF1 := hF.1
    refine calls_E (args := [.agg #[v, .int .i64 h], .int .i64 f, .int .i64 t, .int .i64 b]) 43 Try.func4 rfl rfl (by simp) ?_
    have hE : Ext w w := Upd.refl w
    refine E.seq ?_
    refine E.regionP rfl ?_  -- region 0
    refine R.box rfl nofun ?_  -- 4 := box 24 ('tmp', 0)
    intro b4 w1 hb4 hx1 hB4
    replace hb4 := Nat.le_trans hE.size hb4
    replace hE := hE.ext hx1
    replace hB4 : Blk _ b4 24 #[v, .int .i64 h] := hB4
    refine R.assign ?_  -- 8 := assign ('const', ('bool', ('false',)))
    refine R.nil ?_
    refine E.seq ?_
    refine E.seq ?_
    refine E.regionP rfl ?_  -- region 1
    refine R.loadA t24 hB4 rfl rfl rfl trivial ?_  -- 10 := load 24 ('tmp', 4)
    refine R.callE1 ent17 (few _ (hm.ext hE) hl) rfl nofun ?_  -- 11 := call {'callee': ('value', ('func', 17)), 'args': [('tmp', 10)], 'argTypes': [24]}
    rintro v11 w2 hx2 rfl
    rw [hq]
    replace hB4 := hB4.ext hx2
    replace hE := hE.ext hx2
    refine R.not rfl ?_  -- 12 := unOp ('not',) 4 ('tmp', 11)
    refine R.nil ?_
    refine E.condF rfl ?_  -- cond t12
    refine E.skip ?_
    refine E.seq ?_
    refine E.regionP rfl ?_  -- region 3
    refine R.fld fa24_0 rfl ?_  -- 14 := fieldAddr 24 ('tmp', 4) 0
    refine R.loadB t22 hB4 rfl rfl rfl trivial ?_  -- 15 := load 22 ('tmp', 14)
    refine R.len Try.underlying22 hm.row rfl ?_  -- 16 := call {'callee': ('builtin', ('len',)), 'args': [('tmp', 15)], 'argTypes': [22]}
    refine R.addN (n := 1) rfl rfl (by omega) ?_  -- 17 := binOp ('add',) 3 ('tmp', 16) ('const', ('int', ('i64',), 1)) 3
    refine R.assign ?_  -- 9 := assign ('tmp', 17)
    refine R.nil ?_
    refine E.seq ?_
    refine E.regionW (fun _ b => b < w2.heap.size) [] mixed rfl (by kernel_rfl) ?_  -- region 4
    intro w3 hx3 hh3
    replace hB4 := hB4.ext hx3
    replace hE := hE.ext hx3
    have hEs : Ext w3 w3 := Upd.refl _
    have hS0 := hx3.size
    have hSs : ∀ b, b < w3.heap.size → b < w2.heap.size := fun b hb => by rw [hh3] at hb; exact hb
    have hSa : ∀ b, b < w.heap.size → b < w2.heap.size := fun b hb => by have := hE.size; rw [hh3] at this; omega
    have hB4s := hB4
    refine R.loadAE t24 hB4s hEs rfl rfl rfl hSs ?_  -- 18 := load 24 ('tmp', 4)
    refine R.move ?_  -- 19 := move ('tmp', 1)
    refine R.move ?_  -- 20 := move ('tmp', 2)
    refine R.build build30 rfl ?_  -- 21 := build 30 [('tup', 0, ('tmp', 19)), ('tup', 1, ('tmp', 20))]
    refine R.move ?_  -- 22 := move ('tmp', 3)
    refine R.move ?_  -- 23 := move ('tmp', 2)
    refine R.callE4 ent20 (changes _ (hm.ext hE) hF) rfl rfl rfl rfl (fun _ _ hb => Nat.lt_of_lt_of_le hb (Nat.le_trans hS0 hEs.size)) ?_  -- 24 := call {'callee': ('value', ('func', 20)), 'args': [('tmp', 18), ('tmp', 21), ('tmp', 22), ('tmp', 23)], 'argTypes': [24, 30, 3, 3]}
    rintro v24 w4 hx4 rfl
    replace hB4 := hB4.ext hx4
    replace hE := hE.ext hx4
    replace hEs := hEs.ext hx4
    refine R.move ?_  -- 25 := move ('tmp', 24)
    refine R.gT rfl rfl ?_
    refine R.loadAE t24 hB4s hEs rfl rfl rfl hSs ?_  -- 26 := load 24 ('tmp', 4)
    refine R.gT rfl rfl ?_
    refine R.move ?_  -- 27 := move ('tmp', 1)
    refine R.gT rfl rfl ?_
    refine R.move ?_  -- 28 := move ('tmp', 9)
    refine R.gT rfl rfl ?_
    refine R.callE2 ent21 (pick _ (by omega)) rfl rfl (fun _ _ hb => Nat.lt_of_lt_of_le hb (Nat.le_trans hS0 hEs.size)) ?_  -- 29 := call {'callee': ('value', ('func', 21)), 'args': [('tmp', 27), ('tmp', 28)], 'argTypes': [3, 3]}
    rintro v29 w5 hx5 rfl
    replace hB4 := hB4.ext hx5
    replace hE := hE.ext hx5
    replace hEs := hEs.ext hx5
    refine R.gT rfl rfl ?_
    refine R.move ?_  -- 30 := move ('tmp', 2)
    refine R.gT rfl rfl ?_
    refine R.move ?_  -- 31 := move ('tmp', 9)
    refine R.gT rfl rfl ?_
    refine R.callE2 ent21 (pick _ (by omega)) rfl rfl (fun _ _ hb => Nat.lt_of_lt_of_le hb (Nat.le_trans hS0 hEs.size)) ?_  -- 32 := call {'callee': ('value', ('func', 21)), 'args': [('tmp', 30), ('tmp', 31)], 'argTypes': [3, 3]}
    rintro v32 w6 hx6 rfl
    replace hB4 := hB4.ext hx6
    replace hE := hE.ext hx6
    replace hEs := hEs.ext hx6
    refine R.gT rfl rfl ?_
    refine R.build build30 rfl ?_  -- 33 := build 30 [('tup', 0, ('tmp', 29)), ('tup', 1, ('tmp', 32))]
    refine R.gT rfl rfl ?_
    refine R.move ?_  -- 34 := move ('tmp', 3)
    refine R.gT rfl rfl ?_
    refine R.move ?_  -- 35 := move ('tmp', 2)
    refine R.gT rfl rfl ?_
    refine R.move ?_  -- 36 := move ('tmp', 9)
    refine R.gT rfl rfl ?_
    refine R.callE2 ent21 (pick _ (by omega)) rfl rfl (fun _ _ hb => Nat.lt_of_lt_of_le hb (Nat.le_trans hS0 hEs.size)) ?_  -- 37 := call {'callee': ('value', ('func', 21)), 'args': [('tmp', 35), ('tmp', 36)], 'argTypes': [3, 3]}
    rintro v37 w7 hx7 rfl
    replace hB4 := hB4.ext hx7
    replace hE := hE.ext hx7
    replace hEs := hEs.ext hx7
    refine R.gT rfl rfl ?_
    refine R.callE4 ent20 (changes _ (hm.ext hE) hF) rfl rfl rfl rfl (fun _ _ hb => Nat.lt_of_lt_of_le hb (Nat.le_trans hS0 hEs.size)) ?_  -- 38 := call {'callee': ('value', ('func', 20)), 'args': [('tmp', 26), ('tmp', 33), ('tmp', 34), ('tmp', 37)], 'argTypes': [24, 30, 3, 3]}
    rintro v38 w8 hx8 rfl
    replace hB4 := hB4.ext hx8
    replace hE := hE.ext hx8
    replace hEs := hEs.ext hx8
    refine R.pickT rfl ?_  -- 39 := pick ('tmp', 25) ('tmp', 38) ('const', ('bool', ('false',)))
    refine R.move ?_  -- 40 := move ('tmp', 39)
    refine R.gT rfl rfl ?_
    refine R.callE0 ent19 (awake _)  (fun _ _ hb => Nat.lt_of_lt_of_le hb (Nat.le_trans hS0 hEs.size)) ?_  -- 41 := call {'callee': ('value', ('func', 19)), 'args': [], 'argTypes': []}
    rintro v41 w9 hx9 rfl
    replace hB4 := hB4.ext hx9
    replace hE := hE.ext hx9
    replace hEs := hEs.ext hx9
    refine R.pickT rfl ?_  -- 42 := pick ('tmp', 40) ('tmp', 41) ('const', ('bool', ('false',)))
    refine R.assign ?_  -- 8 := assign ('tmp', 42)
    refine R.nil ?_
    refine E.ret ?_
    exact ret1 (.bool true) rfl rfl ⟨_, rfl, hE, rfl⟩  -- return 0 path 

end Go.Proofs.Ytfdmndkoiheebaa
