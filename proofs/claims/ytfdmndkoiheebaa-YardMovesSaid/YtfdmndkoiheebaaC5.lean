/- awake -/
import Derived.Test.YtfdmndkoiheebaaC4
import Derived.Test.YtfdmndkoiheebaaB4
namespace Go.Proofs.Ytfdmndkoiheebaa
open Go Go.RowKit


theorem ints_of {w : World} {v : Value} {n : Nat} {cs : List Value} {xs : List Int} (h : Sl w 3 1 v n cs) (hc : cs = ints xs) (hn : n = xs.length) : Ints w v xs := by
  subst hc hn
  exact h.row
theorem mat3o {w : World} {v u1 u2 u3 : Value} {cs : List Value} {a b c : List Int} (h : Sl w 35 1 v 3 cs) (hc : cs = [u1, u2, u3]) (h1 : Ints w u1 a) (h2 : Ints w u2 b) (h3 : Ints w u3 c) : Mat w v [u1, u2, u3] [a, b, c] := by
  subst hc
  exact mat3 h.row h1 h2 h3
theorem same1 (w : World) {v1 v2 : Value} {k : Int} {us2 : List Value} {xss : List (List Int)} (h1 : ∃ us, Mat w v1 us xss) (h2 : Mat w v2 us2 xss) (hl : xss.length < 1000000000) (hx : ∀ xs ∈ xss, xs.length < 1000000000) :
    Calls Try.prog 28 #[.agg #[v1, .int .i64 k], .agg #[v2, .int .i64 k]] w (Ret fun r w' => Ext w w' ∧ r = .bool true) := by
  obtain ⟨us, h1⟩ := h1
  have h := same w (k1 := k) (k2 := k) h1 h2 hl hl hx hx
  simpa using h
theorem sameInts1 (w : World) {v1 v2 : Value} {xs : List Int} (h1 : Ints w v1 xs) (h2 : Ints w v2 xs) (hl : xs.length < 1000000000) : Calls Try.prog 56 #[v1, v2] w (Ret fun r w' => Ext w w' ∧ r = .bool true) := by
  have h := sameInts w h1 h2 hl hl
  simpa using h
theorem find_ex (w : World) {v : Value} {us : List Value} (hm : Mat w v us [[5, 2], [7], []]) :
    Calls Try.prog 23 #[.agg #[v, .int .i64 3], .int .i64 2] w (Ret fun r w' => Ext w w' ∧ r = .tuple #[.int .i64 0, .int .i64 1, .bool true]) :=
  find w hm (by decide) (by decide)
theorem above_eq : aboveL [[5, 2], [7], []] 3 5 = ([2], 0) := by decide
theorem above_ex (w : World) {v : Value} {us : List Value} (hm : Mat w v us [[5, 2], [7], []]) :
    Calls Try.prog 24 #[.agg #[v, .int .i64 3], .int .i64 5] w (Ret fun r w' => Ext w w' ∧ ∃ u, r = .tuple #[u, .int .i64 0] ∧ SInts w' u [2] ∧ Fresh w u) := by
  have h := above w (h := 3) (b := 5) hm (by decide) (by decide)
  rw [above_eq] at h
  exact h
theorem room_eq : roomL [[5, 2], [7], []] 3 = (6, 0) := by decide
theorem room_ex (w : World) {v : Value} {us : List Value} (hm : Mat w v us [[5, 2], [7], []]) :
    Calls Try.prog 29 #[.agg #[v, .int .i64 3]] w (Ret fun r w' => Ext w w' ∧ r = .tuple #[.int .i64 6, .int .i64 0]) := by
  have h := room w (h := 3) hm (by decide) (by decide)
  rw [room_eq] at h
  exact h


theorem shift1_eq : shiftR [[5, 2], [7], []] 3 0 2 = ([[5], [7], [2]], 3, 0) := by decide
theorem shift1 (w : World) {v : Value} {us : List Value} (hm : Mat w v us [[5, 2], [7], []]) :
    Calls Try.prog 36 #[.agg #[v, .int .i64 3], .agg #[.int .i64 0, .int .i64 2]] w (Ret fun r w' => Ext w w' ∧ ∃ u, r = .tuple #[.agg #[u, .int .i64 3], .int .i64 0] ∧ YO w w' u 3 [[5], [7], [2]]) := by
  have h := yShift w (h := 3) (f := 0) (t := 2) hm (by decide) (by decide)
  rw [shift1_eq] at h
  exact h


theorem shift2_eq : shiftR [[5, 2], [7], []] 3 2 0 = ([], 0, 341) := by decide
theorem shift2 (w : World) {v : Value} {us : List Value} (hm : Mat w v us [[5, 2], [7], []]) :
    Calls Try.prog 36 #[.agg #[v, .int .i64 3], .agg #[.int .i64 2, .int .i64 0]] w (Ret fun r w' => Ext w w' ∧ ∃ u, r = .tuple #[.agg #[u, .int .i64 0], .int .i64 341] ∧ YO w w' u 0 []) := by
  have h := yShift w (h := 3) (f := 2) (t := 0) hm (by decide) (by decide)
  rw [shift2_eq] at h
  exact h


theorem shift3_eq : shiftR [[5, 2], [7], []] 3 1 1 = ([], 0, 340) := by decide
theorem shift3 (w : World) {v : Value} {us : List Value} (hm : Mat w v us [[5, 2], [7], []]) :
    Calls Try.prog 36 #[.agg #[v, .int .i64 3], .agg #[.int .i64 1, .int .i64 1]] w (Ret fun r w' => Ext w w' ∧ ∃ u, r = .tuple #[.agg #[u, .int .i64 0], .int .i64 340] ∧ YO w w' u 0 []) := by
  have h := yShift w (h := 3) (f := 1) (t := 1) hm (by decide) (by decide)
  rw [shift3_eq] at h
  exact h


theorem shift4_eq : shiftR [[5, 2], [7], []] 3 1 3 = ([], 0, 6) := by decide
theorem shift4 (w : World) {v : Value} {us : List Value} (hm : Mat w v us [[5, 2], [7], []]) :
    Calls Try.prog 36 #[.agg #[v, .int .i64 3], .agg #[.int .i64 1, .int .i64 3]] w (Ret fun r w' => Ext w w' ∧ ∃ u, r = .tuple #[.agg #[u, .int .i64 0], .int .i64 6] ∧ YO w w' u 0 []) := by
  have h := yShift w (h := 3) (f := 1) (t := 3) hm (by decide) (by decide)
  rw [shift4_eq] at h
  exact h


theorem take1_eq : takeR [[5, 2], [7], []] 3 5 = ([], 0, 342) := by decide
theorem take1 (w : World) {v : Value} {us : List Value} (hm : Mat w v us [[5, 2], [7], []]) :
    Calls Try.prog 25 #[.agg #[v, .int .i64 3], .int .i64 5] w (Ret fun r w' => Ext w w' ∧ ∃ u, r = .tuple #[.agg #[u, .int .i64 0], .int .i64 342] ∧ YO w w' u 0 []) := by
  have h := yTake w (h := 3) (b := 5) hm (by decide) (by decide)
  rw [take1_eq] at h
  exact h


theorem take2_eq : takeR [[5, 2], [7], []] 3 7 = ([[5, 2], [], []], 3, 0) := by decide
theorem take2 (w : World) {v : Value} {us : List Value} (hm : Mat w v us [[5, 2], [7], []]) :
    Calls Try.prog 25 #[.agg #[v, .int .i64 3], .int .i64 7] w (Ret fun r w' => Ext w w' ∧ ∃ u, r = .tuple #[.agg #[u, .int .i64 3], .int .i64 0] ∧ YO w w' u 3 [[5, 2], [], []]) := by
  have h := yTake w (h := 3) (b := 7) hm (by decide) (by decide)
  rw [take2_eq] at h
  exact h


theorem put1_eq : putR [[5, 2], [7], []] 3 2 1 = ([], 0, 343) := by decide
theorem put1 (w : World) {v : Value} {us : List Value} (hm : Mat w v us [[5, 2], [7], []]) :
    Calls Try.prog 26 #[.agg #[v, .int .i64 3], .int .i64 2, .int .i64 1] w (Ret fun r w' => Ext w w' ∧ ∃ u, r = .tuple #[.agg #[u, .int .i64 0], .int .i64 343] ∧ YO w w' u 0 []) := by
  have h := yPut w (h := 3) (b := 2) (s := 1) hm (by decide) (by decide)
  rw [put1_eq] at h
  exact h


theorem put2_eq : putR [[5, 2], [7], []] 3 9 1 = ([[5, 2], [7, 9], []], 3, 0) := by decide
theorem put2 (w : World) {v : Value} {us : List Value} (hm : Mat w v us [[5, 2], [7], []]) :
    Calls Try.prog 26 #[.agg #[v, .int .i64 3], .int .i64 9, .int .i64 1] w (Ret fun r w' => Ext w w' ∧ ∃ u, r = .tuple #[.agg #[u, .int .i64 3], .int .i64 0] ∧ YO w w' u 3 [[5, 2], [7, 9], []]) := by
  have h := yPut w (h := 3) (b := 9) (s := 1) hm (by decide) (by decide)
  rw [put2_eq] at h
  exact h

set_option maxHeartbeats 1600000 in
theorem awake (w : World) : Calls Try.prog 19 #[] w (Ret fun r w' => Ext w w' ∧ r = .bool true) := by
  refine calls_E (args := []) 155 Try.func19 rfl rfl (by simp) ?_
  have hE : Ext w w := Upd.refl w
  refine E.seq ?_
  refine E.regionP rfl ?_  -- region 0
  refine R.assign ?_  -- 0 := assign ('const', ('bool', ('false',)))
  refine R.nil ?_
  refine E.seq ?_
  refine E.regionP rfl ?_  -- region 1
  refine R.callE0 ent57 (example_ _)  nofun ?_  -- 15 := call {'callee': ('value', ('func', 57)), 'args': [], 'argTypes': []}
  rintro v15 w1 hx1 ⟨u15, us15, rfl, hM15⟩
  replace hE := hE.ext hx1
  refine R.alloc t24 nofun ?_  -- 1 := alloc 24
  intro b1 w2 hb1 hx2 hB1
  replace hb1 := Nat.le_trans hE.size hb1
  replace hM15 := hM15.ext hx2
  replace hE := hE.ext hx2
  replace hB1 : Blk _ b1 24 #[.slice none 0 0, .int .i64 0] := hB1
  refine R.storeA t24 hB1 rfl rfl rfl rfl (ones2 hM15.row.one rfl) nofun ?_  -- None := store 24 ('tmp', 1) ('tmp', 15)
  intro w3 hU3 hs3 hN3
  replace hM15 := hM15.upT hU3 hB1 (by decide)
  replace hE := hE.own hU3 hb1
  replace hB1 : Blk _ b1 24 #[u15, .int .i64 3] := hN3
  clear hN3
  refine R.nil ?_
  refine E.seq ?_
  refine E.regionP rfl ?_  -- region 2
  refine R.loadA t24 hB1 rfl rfl rfl trivial ?_  -- 17 := load 24 ('tmp', 1)
  refine R.callE2 ent23 (find_ex _ hM15.mat) rfl rfl nofun ?_  -- 18 := call {'callee': ('value', ('func', 23)), 'args': [('tmp', 17), ('const', ('int', ('i64',), 2))], 'argTypes': [24, 3]}
  rintro v18 w4 hx4 rfl
  replace hM15 := hM15.ext hx4
  replace hB1 := hB1.ext hx4
  replace hE := hE.ext hx4
  refine R.move ?_  -- 16 := move ('tmp', 18)
  refine R.extract rfl rfl ?_  -- 19 := extract ('tmp', 16) 0
  refine R.extract rfl rfl ?_  -- 20 := extract ('tmp', 16) 1
  refine R.extract rfl rfl ?_  -- 21 := extract ('tmp', 16) 2
  refine R.assign ?_  -- 2 := assign ('tmp', 19)
  refine R.assign ?_  -- 3 := assign ('tmp', 20)
  refine R.assign ?_  -- 4 := assign ('tmp', 21)
  refine R.nil ?_
  refine E.seq ?_
  refine E.regionP rfl ?_  -- region 3
  refine R.loadA t24 hB1 rfl rfl rfl trivial ?_  -- 23 := load 24 ('tmp', 1)
  refine R.callE2 ent24 (above_ex _ hM15.mat) rfl rfl nofun ?_  -- 24 := call {'callee': ('value', ('func', 24)), 'args': [('tmp', 23), ('const', ('int', ('i64',), 5))], 'argTypes': [24, 3]}
  rintro v24 w5 hx5 ⟨u24, rfl, hS24, hf24⟩
  replace hM15 := hM15.ext hx5
  replace hB1 := hB1.ext hx5
  replace hE := hE.ext hx5
  refine R.move ?_  -- 22 := move ('tmp', 24)
  refine R.extract rfl rfl ?_  -- 25 := extract ('tmp', 22) 0
  refine R.extract rfl rfl ?_  -- 26 := extract ('tmp', 22) 1
  refine R.assign ?_  -- 5 := assign ('tmp', 25)
  refine R.assign ?_  -- 6 := assign ('tmp', 26)
  refine R.nil ?_
  refine E.seq ?_
  refine E.regionP rfl ?_  -- region 4
  refine R.loadA t24 hB1 rfl rfl rfl trivial ?_  -- 28 := load 24 ('tmp', 1)
  refine R.callE1 ent29 (room_ex _ hM15.mat) rfl nofun ?_  -- 29 := call {'callee': ('value', ('func', 29)), 'args': [('tmp', 28)], 'argTypes': [24]}
  rintro v29 w6 hx6 rfl
  replace hM15 := hM15.ext hx6
  replace hS24 := hS24.ext hx6
  replace hB1 := hB1.ext hx6
  replace hE := hE.ext hx6
  refine R.move ?_  -- 27 := move ('tmp', 29)
  refine R.extract rfl rfl ?_  -- 30 := extract ('tmp', 27) 0
  refine R.extract rfl rfl ?_  -- 31 := extract ('tmp', 27) 1
  refine R.assign ?_  -- 7 := assign ('tmp', 30)
  refine R.assign ?_  -- 8 := assign ('tmp', 31)
  refine R.nil ?_
  refine E.seq ?_
  refine E.seq ?_
  refine E.regionP rfl ?_  -- region 5
  refine R.move ?_  -- 32 := move ('tmp', 2)
  refine R.neq (b := false) rfl rfl (by decide) ?_  -- 33 := binOp ('neq',) 3 ('tmp', 32) ('const', ('int', ('i64',), 0)) 3
  refine R.move ?_  -- 34 := move ('tmp', 33)
  refine R.gT rfl rfl ?_
  refine R.move ?_  -- 35 := move ('tmp', 3)
  refine R.gT rfl rfl ?_
  refine R.neq (b := false) rfl rfl (by decide) ?_  -- 36 := binOp ('neq',) 3 ('tmp', 35) ('const', ('int', ('i64',), 1)) 3
  refine R.pickF rfl ?_  -- 37 := pick ('tmp', 34) ('const', ('bool', ('true',))) ('tmp', 36)
  refine R.move ?_  -- 38 := move ('tmp', 37)
  refine R.gT rfl rfl ?_
  refine R.move ?_  -- 39 := move ('tmp', 4)
  refine R.gT rfl rfl ?_
  refine R.not rfl ?_  -- 40 := unOp ('not',) 4 ('tmp', 39)
  refine R.pickF rfl ?_  -- 41 := pick ('tmp', 38) ('const', ('bool', ('true',))) ('tmp', 40)
  refine R.move ?_  -- 42 := move ('tmp', 41)
  refine R.gT rfl rfl ?_
  refine R.move ?_  -- 43 := move ('tmp', 5)
  refine R.gT rfl rfl ?_
  refine R.buildSlice [.int .i64 2] Try.underlying35 t3 rfl rfl (by simp [Value.cells]) (by simp) nofun ?_  -- 44 := buildSlice 35 1 [('tup', 0, ('const', ('int', ('i64',), 2)))]
  intro b44 w7 hb44 hx7 hB44 hS44
  replace hb44 := Nat.le_trans hE.size hb44
  replace hM15 := hM15.ext hx7
  replace hS24 := hS24.ext hx7
  replace hB1 := hB1.ext hx7
  replace hE := hE.ext hx7
  refine R.gT rfl rfl ?_
  refine R.callE2 ent56 (sameInts1 _ hS24.row (ints_of hS44 (by simp [cellsOf, Value.cells, ints]) rfl) (by decide)) rfl rfl nofun ?_  -- 45 := call {'callee': ('value', ('func', 56)), 'args': [('tmp', 43), ('tmp', 44)], 'argTypes': [35, 35]}
  rintro v45 w8 hx8 rfl
  replace hM15 := hM15.ext hx8
  replace hS24 := hS24.ext hx8
  replace hS44 := hS44.ext hx8
  replace hB1 := hB1.ext hx8
  replace hE := hE.ext hx8
  refine R.gT rfl rfl ?_
  refine R.not rfl ?_  -- 46 := unOp ('not',) 4 ('tmp', 45)
  refine R.pickF rfl ?_  -- 47 := pick ('tmp', 42) ('const', ('bool', ('true',))) ('tmp', 46)
  refine R.move ?_  -- 48 := move ('tmp', 47)
  refine R.gT rfl rfl ?_
  refine R.move ?_  -- 49 := move ('tmp', 7)
  refine R.gT rfl rfl ?_
  refine R.neq (b := false) rfl rfl (by decide) ?_  -- 50 := binOp ('neq',) 3 ('tmp', 49) ('const', ('int', ('i64',), 6)) 3
  refine R.pickF rfl ?_  -- 51 := pick ('tmp', 48) ('const', ('bool', ('true',))) ('tmp', 50)
  refine R.move ?_  -- 52 := move ('tmp', 51)
  refine R.gT rfl rfl ?_
  refine R.move ?_  -- 53 := move ('tmp', 6)
  refine R.gT rfl rfl ?_
  refine R.move ?_  -- 54 := move ('tmp', 8)
  refine R.gT rfl rfl ?_
  refine R.add rfl rfl (by decide) (by decide) ?_  -- 55 := binOp ('add',) 38 ('tmp', 53) ('tmp', 54) 38
  refine R.gT rfl rfl ?_
  refine R.neq (b := false) rfl rfl (by decide) ?_  -- 56 := binOp ('neq',) 38 ('tmp', 55) ('const', ('int', ('i64',), 0)) 38
  refine R.pickF rfl ?_  -- 57 := pick ('tmp', 52) ('const', ('bool', ('true',))) ('tmp', 56)
  refine R.nil ?_
  refine E.condF rfl ?_  -- cond t57
  refine E.skip ?_
  refine E.seq ?_
  refine E.regionP rfl ?_  -- region 7
  refine R.loadA t24 hB1 rfl rfl rfl trivial ?_  -- 59 := load 24 ('tmp', 1)
  refine R.build build30 rfl ?_  -- 60 := build 30 [('tup', 0, ('const', ('int', ('i64',), 0))), ('tup', 1, ('const', ('int', ('i64',), 2)))]
  refine R.callE2 ent36 (shift1 _ hM15.mat) rfl rfl nofun ?_  -- 61 := call {'callee': ('value', ('func', 36)), 'args': [('tmp', 59), ('tmp', 60)], 'argTypes': [24, 30]}
  rintro v61 w9 hx9 ⟨u61, rfl, hY61⟩
  replace hM15 := hM15.ext hx9
  replace hS24 := hS24.ext hx9
  replace hS44 := hS44.ext hx9
  replace hB1 := hB1.ext hx9
  replace hE := hE.ext hx9
  refine R.move ?_  -- 58 := move ('tmp', 61)
  refine R.extract rfl rfl ?_  -- 62 := extract ('tmp', 58) 0
  refine R.extract rfl rfl ?_  -- 63 := extract ('tmp', 58) 1
  refine R.alloc t24 nofun ?_  -- 9 := alloc 24
  intro b9 w10 hb9 hx10 hB9
  have ne1_9 : b1 ≠ b9 := by have := hB1.lt; omega
  replace hb9 := Nat.le_trans hE.size hb9
  replace hM15 := hM15.ext hx10
  replace hS24 := hS24.ext hx10
  replace hS44 := hS44.ext hx10
  replace hY61 := hY61.ext hx10
  replace hB1 := hB1.ext hx10
  replace hE := hE.ext hx10
  replace hB9 : Blk _ b9 24 #[.slice none 0 0, .int .i64 0] := hB9
  refine R.storeA t24 hB9 rfl rfl rfl rfl (ones2 hY61.one' rfl) nofun ?_  -- None := store 24 ('tmp', 9) ('tmp', 62)
  intro w11 hU11 hs11 hN11
  replace hM15 := hM15.upT hU11 hB9 (by decide)
  replace hS24 := hS24.upT hU11 hB9 (by decide)
  replace hS44 := hS44.upT hU11 hB9 (by decide)
  replace hY61 := hY61.upT hU11 hB9 (by decide)
  replace hB1 := hB1.up hU11 (fun h => ne1_9 h)
  replace hE := hE.own hU11 hb9
  replace hB9 : Blk _ b9 24 #[u61, .int .i64 3] := hN11
  clear hN11
  refine R.assign ?_  -- 6 := assign ('tmp', 63)
  refine R.nil ?_
  refine E.seq ?_
  refine E.regionP rfl ?_  -- region 8
  refine R.loadA t24 hB1 rfl rfl rfl trivial ?_  -- 65 := load 24 ('tmp', 1)
  refine R.build build30 rfl ?_  -- 66 := build 30 [('tup', 0, ('const', ('int', ('i64',), 2))), ('tup', 1, ('const', ('int', ('i64',), 0)))]
  refine R.callE2 ent36 (shift2 _ hM15.mat) rfl rfl nofun ?_  -- 67 := call {'callee': ('value', ('func', 36)), 'args': [('tmp', 65), ('tmp', 66)], 'argTypes': [24, 30]}
  rintro v67 w12 hx12 ⟨u67, rfl, hY67⟩
  replace hM15 := hM15.ext hx12
  replace hS24 := hS24.ext hx12
  replace hS44 := hS44.ext hx12
  replace hY61 := hY61.ext hx12
  replace hB1 := hB1.ext hx12
  replace hB9 := hB9.ext hx12
  replace hE := hE.ext hx12
  refine R.move ?_  -- 64 := move ('tmp', 67)
  refine R.extract rfl rfl ?_  -- 68 := extract ('tmp', 64) 0
  refine R.extract rfl rfl ?_  -- 69 := extract ('tmp', 64) 1
  refine R.assign ?_  -- 8 := assign ('tmp', 69)
  refine R.nil ?_
  refine E.seq ?_
  refine E.regionP rfl ?_  -- region 9
  refine R.loadA t24 hB1 rfl rfl rfl trivial ?_  -- 71 := load 24 ('tmp', 1)
  refine R.build build30 rfl ?_  -- 72 := build 30 [('tup', 0, ('const', ('int', ('i64',), 1))), ('tup', 1, ('const', ('int', ('i64',), 1)))]
  refine R.callE2 ent36 (shift3 _ hM15.mat) rfl rfl nofun ?_  -- 73 := call {'callee': ('value', ('func', 36)), 'args': [('tmp', 71), ('tmp', 72)], 'argTypes': [24, 30]}
  rintro v73 w13 hx13 ⟨u73, rfl, hY73⟩
  replace hM15 := hM15.ext hx13
  replace hS24 := hS24.ext hx13
  replace hS44 := hS44.ext hx13
  replace hY61 := hY61.ext hx13
  replace hY67 := hY67.ext hx13
  replace hB1 := hB1.ext hx13
  replace hB9 := hB9.ext hx13
  replace hE := hE.ext hx13
  refine R.move ?_  -- 70 := move ('tmp', 73)
  refine R.extract rfl rfl ?_  -- 74 := extract ('tmp', 70) 0
  refine R.extract rfl rfl ?_  -- 75 := extract ('tmp', 70) 1
  refine R.alloc t24 nofun ?_  -- 10 := alloc 24
  intro b10 w14 hb10 hx14 hB10
  have ne1_10 : b1 ≠ b10 := by have := hB1.lt; omega
  have ne9_10 : b9 ≠ b10 := by have := hB9.lt; omega
  replace hb10 := Nat.le_trans hE.size hb10
  replace hM15 := hM15.ext hx14
  replace hS24 := hS24.ext hx14
  replace hS44 := hS44.ext hx14
  replace hY61 := hY61.ext hx14
  replace hY67 := hY67.ext hx14
  replace hY73 := hY73.ext hx14
  replace hB1 := hB1.ext hx14
  replace hB9 := hB9.ext hx14
  replace hE := hE.ext hx14
  replace hB10 : Blk _ b10 24 #[.slice none 0 0, .int .i64 0] := hB10
  refine R.storeA t24 hB10 rfl rfl rfl rfl (ones2 hY73.one' rfl) nofun ?_  -- None := store 24 ('tmp', 10) ('tmp', 74)
  intro w15 hU15 hs15 hN15
  replace hM15 := hM15.upT hU15 hB10 (by decide)
  replace hS24 := hS24.upT hU15 hB10 (by decide)
  replace hS44 := hS44.upT hU15 hB10 (by decide)
  replace hY61 := hY61.upT hU15 hB10 (by decide)
  replace hY67 := hY67.upT hU15 hB10 (by decide)
  replace hY73 := hY73.upT hU15 hB10 (by decide)
  replace hB1 := hB1.up hU15 (fun h => ne1_10 h)
  replace hB9 := hB9.up hU15 (fun h => ne9_10 h)
  replace hE := hE.own hU15 hb10
  replace hB10 : Blk _ b10 24 #[u73, .int .i64 0] := hN15
  clear hN15
  refine R.assign ?_  -- 11 := assign ('tmp', 75)
  refine R.nil ?_
  refine E.seq ?_
  refine E.regionP rfl ?_  -- region 10
  refine R.loadA t24 hB1 rfl rfl rfl trivial ?_  -- 77 := load 24 ('tmp', 1)
  refine R.build build30 rfl ?_  -- 78 := build 30 [('tup', 0, ('const', ('int', ('i64',), 1))), ('tup', 1, ('const', ('int', ('i64',), 3)))]
  refine R.callE2 ent36 (shift4 _ hM15.mat) rfl rfl nofun ?_  -- 79 := call {'callee': ('value', ('func', 36)), 'args': [('tmp', 77), ('tmp', 78)], 'argTypes': [24, 30]}
  rintro v79 w16 hx16 ⟨u79, rfl, hY79⟩
  replace hM15 := hM15.ext hx16
  replace hS24 := hS24.ext hx16
  replace hS44 := hS44.ext hx16
  replace hY61 := hY61.ext hx16
  replace hY67 := hY67.ext hx16
  replace hY73 := hY73.ext hx16
  replace hB1 := hB1.ext hx16
  replace hB9 := hB9.ext hx16
  replace hB10 := hB10.ext hx16
  replace hE := hE.ext hx16
  refine R.move ?_  -- 76 := move ('tmp', 79)
  refine R.extract rfl rfl ?_  -- 80 := extract ('tmp', 76) 0
  refine R.extract rfl rfl ?_  -- 81 := extract ('tmp', 76) 1
  refine R.alloc t24 nofun ?_  -- 12 := alloc 24
  intro b12 w17 hb12 hx17 hB12
  have ne1_12 : b1 ≠ b12 := by have := hB1.lt; omega
  have ne9_12 : b9 ≠ b12 := by have := hB9.lt; omega
  have ne10_12 : b10 ≠ b12 := by have := hB10.lt; omega
  replace hb12 := Nat.le_trans hE.size hb12
  replace hM15 := hM15.ext hx17
  replace hS24 := hS24.ext hx17
  replace hS44 := hS44.ext hx17
  replace hY61 := hY61.ext hx17
  replace hY67 := hY67.ext hx17
  replace hY73 := hY73.ext hx17
  replace hY79 := hY79.ext hx17
  replace hB1 := hB1.ext hx17
  replace hB9 := hB9.ext hx17
  replace hB10 := hB10.ext hx17
  replace hE := hE.ext hx17
  replace hB12 : Blk _ b12 24 #[.slice none 0 0, .int .i64 0] := hB12
  refine R.storeA t24 hB12 rfl rfl rfl rfl (ones2 hY79.one' rfl) nofun ?_  -- None := store 24 ('tmp', 12) ('tmp', 80)
  intro w18 hU18 hs18 hN18
  replace hM15 := hM15.upT hU18 hB12 (by decide)
  replace hS24 := hS24.upT hU18 hB12 (by decide)
  replace hS44 := hS44.upT hU18 hB12 (by decide)
  replace hY61 := hY61.upT hU18 hB12 (by decide)
  replace hY67 := hY67.upT hU18 hB12 (by decide)
  replace hY73 := hY73.upT hU18 hB12 (by decide)
  replace hY79 := hY79.upT hU18 hB12 (by decide)
  replace hB1 := hB1.up hU18 (fun h => ne1_12 h)
  replace hB9 := hB9.up hU18 (fun h => ne9_12 h)
  replace hB10 := hB10.up hU18 (fun h => ne10_12 h)
  replace hE := hE.own hU18 hb12
  replace hB12 : Blk _ b12 24 #[u79, .int .i64 0] := hN18
  clear hN18
  refine R.assign ?_  -- 13 := assign ('tmp', 81)
  refine R.nil ?_
  refine E.seq ?_
  refine E.seq ?_
  refine E.regionP rfl ?_  -- region 11
  refine R.move ?_  -- 82 := move ('tmp', 6)
  refine R.neq (b := false) rfl rfl (by decide) ?_  -- 83 := binOp ('neq',) 38 ('tmp', 82) ('const', ('int', ('i64',), 0)) 38
  refine R.move ?_  -- 84 := move ('tmp', 83)
  refine R.gT rfl rfl ?_
  refine R.loadA t24 hB9 rfl rfl rfl trivial ?_  -- 85 := load 24 ('tmp', 9)
  refine R.gT rfl rfl ?_
  refine R.buildSlice [.int .i64 5] Try.underlying35 t3 rfl rfl (by simp [Value.cells]) (by simp) nofun ?_  -- 86 := buildSlice 35 1 [('tup', 0, ('const', ('int', ('i64',), 5)))]
  intro b86 w19 hb86 hx19 hB86 hS86
  replace hb86 := Nat.le_trans hE.size hb86
  replace hM15 := hM15.ext hx19
  replace hS24 := hS24.ext hx19
  replace hS44 := hS44.ext hx19
  replace hY61 := hY61.ext hx19
  replace hY67 := hY67.ext hx19
  replace hY73 := hY73.ext hx19
  replace hY79 := hY79.ext hx19
  replace hB1 := hB1.ext hx19
  replace hB9 := hB9.ext hx19
  replace hB10 := hB10.ext hx19
  replace hB12 := hB12.ext hx19
  replace hE := hE.ext hx19
  refine R.gT rfl rfl ?_
  refine R.buildSlice [.int .i64 7] Try.underlying35 t3 rfl rfl (by simp [Value.cells]) (by simp) nofun ?_  -- 87 := buildSlice 35 1 [('tup', 0, ('const', ('int', ('i64',), 7)))]
  intro b87 w20 hb87 hx20 hB87 hS87
  replace hb87 := Nat.le_trans hE.size hb87
  replace hM15 := hM15.ext hx20
  replace hS24 := hS24.ext hx20
  replace hS44 := hS44.ext hx20
  replace hY61 := hY61.ext hx20
  replace hY67 := hY67.ext hx20
  replace hY73 := hY73.ext hx20
  replace hY79 := hY79.ext hx20
  replace hS86 := hS86.ext hx20
  replace hB1 := hB1.ext hx20
  replace hB9 := hB9.ext hx20
  replace hB10 := hB10.ext hx20
  replace hB12 := hB12.ext hx20
  replace hE := hE.ext hx20
  refine R.gT rfl rfl ?_
  refine R.buildSlice [.int .i64 2] Try.underlying35 t3 rfl rfl (by simp [Value.cells]) (by simp) nofun ?_  -- 88 := buildSlice 35 1 [('tup', 0, ('const', ('int', ('i64',), 2)))]
  intro b88 w21 hb88 hx21 hB88 hS88
  replace hb88 := Nat.le_trans hE.size hb88
  replace hM15 := hM15.ext hx21
  replace hS24 := hS24.ext hx21
  replace hS44 := hS44.ext hx21
  replace hY61 := hY61.ext hx21
  replace hY67 := hY67.ext hx21
  replace hY73 := hY73.ext hx21
  replace hY79 := hY79.ext hx21
  replace hS86 := hS86.ext hx21
  replace hS87 := hS87.ext hx21
  replace hB1 := hB1.ext hx21
  replace hB9 := hB9.ext hx21
  replace hB10 := hB10.ext hx21
  replace hB12 := hB12.ext hx21
  replace hE := hE.ext hx21
  refine R.gT rfl rfl ?_
  refine R.buildSlice [.slice (some ⟨b86, 0, none⟩) 1 1, .slice (some ⟨b87, 0, none⟩) 1 1, .slice (some ⟨b88, 0, none⟩) 1 1] Try.underlying22 t35 rfl rfl (by simp [Value.cells]) (by simp) nofun ?_  -- 89 := buildSlice 22 3 [('tup', 0, ('tmp', 86)), ('tup', 1, ('tmp', 87)), ('tup', 2, ('tmp', 88))]
  intro b89 w22 hb89 hx22 hB89 hS89
  replace hb89 := Nat.le_trans hE.size hb89
  replace hM15 := hM15.ext hx22
  replace hS24 := hS24.ext hx22
  replace hS44 := hS44.ext hx22
  replace hY61 := hY61.ext hx22
  replace hY67 := hY67.ext hx22
  replace hY73 := hY73.ext hx22
  replace hY79 := hY79.ext hx22
  replace hS86 := hS86.ext hx22
  replace hS87 := hS87.ext hx22
  replace hS88 := hS88.ext hx22
  replace hB1 := hB1.ext hx22
  replace hB9 := hB9.ext hx22
  replace hB10 := hB10.ext hx22
  replace hB12 := hB12.ext hx22
  replace hE := hE.ext hx22
  refine R.gT rfl rfl ?_
  refine R.build (build24 hS89.one rfl) rfl ?_  -- 90 := build 24 [('tup', 0, ('tmp', 89)), ('tup', 1, ('const', ('int', ('i64',), 3)))]
  refine R.gT rfl rfl ?_
  refine R.callE2 ent28 (same1 _ hY61.mat (mat3o hS89 (by simp [cellsOf, Value.cells]) (ints_of hS86 (by simp [cellsOf, Value.cells, ints]) rfl) (ints_of hS87 (by simp [cellsOf, Value.cells, ints]) rfl) (ints_of hS88 (by simp [cellsOf, Value.cells, ints]) rfl)) (by decide) (by decide)) rfl rfl nofun ?_  -- 91 := call {'callee': ('value', ('func', 28)), 'args': [('tmp', 85), ('tmp', 90)], 'argTypes': [24, 24]}
  rintro v91 w23 hx23 rfl
  replace hM15 := hM15.ext hx23
  replace hS24 := hS24.ext hx23
  replace hS44 := hS44.ext hx23
  replace hY61 := hY61.ext hx23
  replace hY67 := hY67.ext hx23
  replace hY73 := hY73.ext hx23
  replace hY79 := hY79.ext hx23
  replace hS86 := hS86.ext hx23
  replace hS87 := hS87.ext hx23
  replace hS88 := hS88.ext hx23
  replace hS89 := hS89.ext hx23
  replace hB1 := hB1.ext hx23
  replace hB9 := hB9.ext hx23
  replace hB10 := hB10.ext hx23
  replace hB12 := hB12.ext hx23
  replace hE := hE.ext hx23
  refine R.gT rfl rfl ?_
  refine R.not rfl ?_  -- 92 := unOp ('not',) 4 ('tmp', 91)
  refine R.pickF rfl ?_  -- 93 := pick ('tmp', 84) ('const', ('bool', ('true',))) ('tmp', 92)
  refine R.move ?_  -- 94 := move ('tmp', 93)
  refine R.gT rfl rfl ?_
  refine R.move ?_  -- 95 := move ('tmp', 8)
  refine R.gT rfl rfl ?_
  refine R.neq (b := false) rfl rfl (by decide) ?_  -- 96 := binOp ('neq',) 38 ('tmp', 95) ('const', ('int', ('i64',), 341)) 38
  refine R.pickF rfl ?_  -- 97 := pick ('tmp', 94) ('const', ('bool', ('true',))) ('tmp', 96)
  refine R.move ?_  -- 98 := move ('tmp', 97)
  refine R.gT rfl rfl ?_
  refine R.move ?_  -- 99 := move ('tmp', 11)
  refine R.gT rfl rfl ?_
  refine R.neq (b := false) rfl rfl (by decide) ?_  -- 100 := binOp ('neq',) 38 ('tmp', 99) ('const', ('int', ('i64',), 340)) 38
  refine R.pickF rfl ?_  -- 101 := pick ('tmp', 98) ('const', ('bool', ('true',))) ('tmp', 100)
  refine R.move ?_  -- 102 := move ('tmp', 101)
  refine R.gT rfl rfl ?_
  refine R.move ?_  -- 103 := move ('tmp', 13)
  refine R.gT rfl rfl ?_
  refine R.neq (b := false) rfl rfl (by decide) ?_  -- 104 := binOp ('neq',) 38 ('tmp', 103) ('const', ('int', ('i64',), 6)) 38
  refine R.pickF rfl ?_  -- 105 := pick ('tmp', 102) ('const', ('bool', ('true',))) ('tmp', 104)
  refine R.nil ?_
  refine E.condF rfl ?_  -- cond t105
  refine E.skip ?_
  refine E.seq ?_
  refine E.regionP rfl ?_  -- region 13
  refine R.loadA t24 hB1 rfl rfl rfl trivial ?_  -- 107 := load 24 ('tmp', 1)
  refine R.callE2 ent25 (take1 _ hM15.mat) rfl rfl nofun ?_  -- 108 := call {'callee': ('value', ('func', 25)), 'args': [('tmp', 107), ('const', ('int', ('i64',), 5))], 'argTypes': [24, 3]}
  rintro v108 w24 hx24 ⟨u108, rfl, hY108⟩
  replace hM15 := hM15.ext hx24
  replace hS24 := hS24.ext hx24
  replace hS44 := hS44.ext hx24
  replace hY61 := hY61.ext hx24
  replace hY67 := hY67.ext hx24
  replace hY73 := hY73.ext hx24
  replace hY79 := hY79.ext hx24
  replace hS86 := hS86.ext hx24
  replace hS87 := hS87.ext hx24
  replace hS88 := hS88.ext hx24
  replace hS89 := hS89.ext hx24
  replace hB1 := hB1.ext hx24
  replace hB9 := hB9.ext hx24
  replace hB10 := hB10.ext hx24
  replace hB12 := hB12.ext hx24
  replace hE := hE.ext hx24
  refine R.move ?_  -- 106 := move ('tmp', 108)
  refine R.extract rfl rfl ?_  -- 109 := extract ('tmp', 106) 0
  refine R.extract rfl rfl ?_  -- 110 := extract ('tmp', 106) 1
  refine R.assign ?_  -- 6 := assign ('tmp', 110)
  refine R.nil ?_
  refine E.seq ?_
  refine E.regionP rfl ?_  -- region 14
  refine R.loadA t24 hB1 rfl rfl rfl trivial ?_  -- 112 := load 24 ('tmp', 1)
  refine R.callE2 ent25 (take2 _ hM15.mat) rfl rfl nofun ?_  -- 113 := call {'callee': ('value', ('func', 25)), 'args': [('tmp', 112), ('const', ('int', ('i64',), 7))], 'argTypes': [24, 3]}
  rintro v113 w25 hx25 ⟨u113, rfl, hY113⟩
  replace hM15 := hM15.ext hx25
  replace hS24 := hS24.ext hx25
  replace hS44 := hS44.ext hx25
  replace hY61 := hY61.ext hx25
  replace hY67 := hY67.ext hx25
  replace hY73 := hY73.ext hx25
  replace hY79 := hY79.ext hx25
  replace hS86 := hS86.ext hx25
  replace hS87 := hS87.ext hx25
  replace hS88 := hS88.ext hx25
  replace hS89 := hS89.ext hx25
  replace hY108 := hY108.ext hx25
  replace hB1 := hB1.ext hx25
  replace hB9 := hB9.ext hx25
  replace hB10 := hB10.ext hx25
  replace hB12 := hB12.ext hx25
  replace hE := hE.ext hx25
  refine R.move ?_  -- 111 := move ('tmp', 113)
  refine R.extract rfl rfl ?_  -- 114 := extract ('tmp', 111) 0
  refine R.extract rfl rfl ?_  -- 115 := extract ('tmp', 111) 1
  refine R.storeA t24 hB9 rfl rfl rfl rfl (ones2 hY113.one' rfl) nofun ?_  -- None := store 24 ('tmp', 9) ('tmp', 114)
  intro w26 hU26 hs26 hN26
  replace hM15 := hM15.upT hU26 hB9 (by decide)
  replace hS24 := hS24.upT hU26 hB9 (by decide)
  replace hS44 := hS44.upT hU26 hB9 (by decide)
  replace hY61 := hY61.upT hU26 hB9 (by decide)
  replace hY67 := hY67.upT hU26 hB9 (by decide)
  replace hY73 := hY73.upT hU26 hB9 (by decide)
  replace hY79 := hY79.upT hU26 hB9 (by decide)
  replace hS86 := hS86.upT hU26 hB9 (by decide)
  replace hS87 := hS87.upT hU26 hB9 (by decide)
  replace hS88 := hS88.upT hU26 hB9 (by decide)
  replace hS89 := hS89.upT hU26 hB9 (by decide)
  replace hY108 := hY108.upT hU26 hB9 (by decide)
  replace hY113 := hY113.upT hU26 hB9 (by decide)
  replace hB1 := hB1.up hU26 (fun h => ne1_9 h)
  replace hB10 := hB10.up hU26 (fun h => ne9_10 h.symm)
  replace hB12 := hB12.up hU26 (fun h => ne9_12 h.symm)
  replace hE := hE.own hU26 hb9
  replace hB9 : Blk _ b9 24 #[u113, .int .i64 3] := hN26
  clear hN26
  refine R.assign ?_  -- 8 := assign ('tmp', 115)
  refine R.nil ?_
  refine E.seq ?_
  refine E.regionP rfl ?_  -- region 15
  refine R.loadA t24 hB1 rfl rfl rfl trivial ?_  -- 117 := load 24 ('tmp', 1)
  refine R.callE3 ent26 (put1 _ hM15.mat) rfl rfl rfl nofun ?_  -- 118 := call {'callee': ('value', ('func', 26)), 'args': [('tmp', 117), ('const', ('int', ('i64',), 2)), ('const', ('int', ('i64',), 1))], 'argTypes': [24, 3, 3]}
  rintro v118 w27 hx27 ⟨u118, rfl, hY118⟩
  replace hM15 := hM15.ext hx27
  replace hS24 := hS24.ext hx27
  replace hS44 := hS44.ext hx27
  replace hY61 := hY61.ext hx27
  replace hY67 := hY67.ext hx27
  replace hY73 := hY73.ext hx27
  replace hY79 := hY79.ext hx27
  replace hS86 := hS86.ext hx27
  replace hS87 := hS87.ext hx27
  replace hS88 := hS88.ext hx27
  replace hS89 := hS89.ext hx27
  replace hY108 := hY108.ext hx27
  replace hY113 := hY113.ext hx27
  replace hB1 := hB1.ext hx27
  replace hB9 := hB9.ext hx27
  replace hB10 := hB10.ext hx27
  replace hB12 := hB12.ext hx27
  replace hE := hE.ext hx27
  refine R.move ?_  -- 116 := move ('tmp', 118)
  refine R.extract rfl rfl ?_  -- 119 := extract ('tmp', 116) 0
  refine R.extract rfl rfl ?_  -- 120 := extract ('tmp', 116) 1
  refine R.assign ?_  -- 11 := assign ('tmp', 120)
  refine R.nil ?_
  refine E.seq ?_
  refine E.regionP rfl ?_  -- region 16
  refine R.loadA t24 hB1 rfl rfl rfl trivial ?_  -- 122 := load 24 ('tmp', 1)
  refine R.callE3 ent26 (put2 _ hM15.mat) rfl rfl rfl nofun ?_  -- 123 := call {'callee': ('value', ('func', 26)), 'args': [('tmp', 122), ('const', ('int', ('i64',), 9)), ('const', ('int', ('i64',), 1))], 'argTypes': [24, 3, 3]}
  rintro v123 w28 hx28 ⟨u123, rfl, hY123⟩
  replace hM15 := hM15.ext hx28
  replace hS24 := hS24.ext hx28
  replace hS44 := hS44.ext hx28
  replace hY61 := hY61.ext hx28
  replace hY67 := hY67.ext hx28
  replace hY73 := hY73.ext hx28
  replace hY79 := hY79.ext hx28
  replace hS86 := hS86.ext hx28
  replace hS87 := hS87.ext hx28
  replace hS88 := hS88.ext hx28
  replace hS89 := hS89.ext hx28
  replace hY108 := hY108.ext hx28
  replace hY113 := hY113.ext hx28
  replace hY118 := hY118.ext hx28
  replace hB1 := hB1.ext hx28
  replace hB9 := hB9.ext hx28
  replace hB10 := hB10.ext hx28
  replace hB12 := hB12.ext hx28
  replace hE := hE.ext hx28
  refine R.move ?_  -- 121 := move ('tmp', 123)
  refine R.extract rfl rfl ?_  -- 124 := extract ('tmp', 121) 0
  refine R.extract rfl rfl ?_  -- 125 := extract ('tmp', 121) 1
  refine R.alloc t24 nofun ?_  -- 14 := alloc 24
  intro b14 w29 hb14 hx29 hB14
  have ne1_14 : b1 ≠ b14 := by have := hB1.lt; omega
  have ne9_14 : b9 ≠ b14 := by have := hB9.lt; omega
  have ne10_14 : b10 ≠ b14 := by have := hB10.lt; omega
  have ne12_14 : b12 ≠ b14 := by have := hB12.lt; omega
  replace hb14 := Nat.le_trans hE.size hb14
  replace hM15 := hM15.ext hx29
  replace hS24 := hS24.ext hx29
  replace hS44 := hS44.ext hx29
  replace hY61 := hY61.ext hx29
  replace hY67 := hY67.ext hx29
  replace hY73 := hY73.ext hx29
  replace hY79 := hY79.ext hx29
  replace hS86 := hS86.ext hx29
  replace hS87 := hS87.ext hx29
  replace hS88 := hS88.ext hx29
  replace hS89 := hS89.ext hx29
  replace hY108 := hY108.ext hx29
  replace hY113 := hY113.ext hx29
  replace hY118 := hY118.ext hx29
  replace hY123 := hY123.ext hx29
  replace hB1 := hB1.ext hx29
  replace hB9 := hB9.ext hx29
  replace hB10 := hB10.ext hx29
  replace hB12 := hB12.ext hx29
  replace hE := hE.ext hx29
  replace hB14 : Blk _ b14 24 #[.slice none 0 0, .int .i64 0] := hB14
  refine R.storeA t24 hB14 rfl rfl rfl rfl (ones2 hY123.one' rfl) nofun ?_  -- None := store 24 ('tmp', 14) ('tmp', 124)
  intro w30 hU30 hs30 hN30
  replace hM15 := hM15.upT hU30 hB14 (by decide)
  replace hS24 := hS24.upT hU30 hB14 (by decide)
  replace hS44 := hS44.upT hU30 hB14 (by decide)
  replace hY61 := hY61.upT hU30 hB14 (by decide)
  replace hY67 := hY67.upT hU30 hB14 (by decide)
  replace hY73 := hY73.upT hU30 hB14 (by decide)
  replace hY79 := hY79.upT hU30 hB14 (by decide)
  replace hS86 := hS86.upT hU30 hB14 (by decide)
  replace hS87 := hS87.upT hU30 hB14 (by decide)
  replace hS88 := hS88.upT hU30 hB14 (by decide)
  replace hS89 := hS89.upT hU30 hB14 (by decide)
  replace hY108 := hY108.upT hU30 hB14 (by decide)
  replace hY113 := hY113.upT hU30 hB14 (by decide)
  replace hY118 := hY118.upT hU30 hB14 (by decide)
  replace hY123 := hY123.upT hU30 hB14 (by decide)
  replace hB1 := hB1.up hU30 (fun h => ne1_14 h)
  replace hB9 := hB9.up hU30 (fun h => ne9_14 h)
  replace hB10 := hB10.up hU30 (fun h => ne10_14 h)
  replace hB12 := hB12.up hU30 (fun h => ne12_14 h)
  replace hE := hE.own hU30 hb14
  replace hB14 : Blk _ b14 24 #[u123, .int .i64 3] := hN30
  clear hN30
  refine R.assign ?_  -- 13 := assign ('tmp', 125)
  refine R.nil ?_
  refine E.seq ?_
  refine E.regionP rfl ?_  -- region 17
  refine R.move ?_  -- 126 := move ('tmp', 6)
  refine R.eql (b := true) rfl rfl (by decide) ?_  -- 127 := binOp ('eql',) 38 ('tmp', 126) ('const', ('int', ('i64',), 342)) 38
  refine R.move ?_  -- 128 := move ('tmp', 127)
  refine R.gT rfl rfl ?_
  refine R.move ?_  -- 129 := move ('tmp', 8)
  refine R.gT rfl rfl ?_
  refine R.eql (b := true) rfl rfl (by decide) ?_  -- 130 := binOp ('eql',) 38 ('tmp', 129) ('const', ('int', ('i64',), 0)) 38
  refine R.pickT rfl ?_  -- 131 := pick ('tmp', 128) ('tmp', 130) ('const', ('bool', ('false',)))
  refine R.move ?_  -- 132 := move ('tmp', 131)
  refine R.gT rfl rfl ?_
  refine R.loadA t24 hB9 rfl rfl rfl trivial ?_  -- 133 := load 24 ('tmp', 9)
  refine R.gT rfl rfl ?_
  refine R.buildSlice [.int .i64 5, .int .i64 2] Try.underlying35 t3 rfl rfl (by simp [Value.cells]) (by simp) nofun ?_  -- 134 := buildSlice 35 2 [('tup', 0, ('const', ('int', ('i64',), 5))), ('tup', 1, ('const', ('int', ('i64',), 2)))]
  intro b134 w31 hb134 hx31 hB134 hS134
  replace hb134 := Nat.le_trans hE.size hb134
  replace hM15 := hM15.ext hx31
  replace hS24 := hS24.ext hx31
  replace hS44 := hS44.ext hx31
  replace hY61 := hY61.ext hx31
  replace hY67 := hY67.ext hx31
  replace hY73 := hY73.ext hx31
  replace hY79 := hY79.ext hx31
  replace hS86 := hS86.ext hx31
  replace hS87 := hS87.ext hx31
  replace hS88 := hS88.ext hx31
  replace hS89 := hS89.ext hx31
  replace hY108 := hY108.ext hx31
  replace hY113 := hY113.ext hx31
  replace hY118 := hY118.ext hx31
  replace hY123 := hY123.ext hx31
  replace hB1 := hB1.ext hx31
  replace hB9 := hB9.ext hx31
  replace hB10 := hB10.ext hx31
  replace hB12 := hB12.ext hx31
  replace hB14 := hB14.ext hx31
  replace hE := hE.ext hx31
  refine R.gT rfl rfl ?_
  refine R.buildSlice [.slice (some ⟨b134, 0, none⟩) 2 2, .slice none 0 0, .slice none 0 0] Try.underlying22 t35 rfl rfl (by simp [Value.cells]) (by simp) nofun ?_  -- 135 := buildSlice 22 3 [('tup', 0, ('tmp', 134)), ('tup', 1, ('const', ('slice', ('none',), 0, 0))), ('tup', 2, ('const', ('slice', ('none',), 0, 0)))]
  intro b135 w32 hb135 hx32 hB135 hS135
  replace hb135 := Nat.le_trans hE.size hb135
  replace hM15 := hM15.ext hx32
  replace hS24 := hS24.ext hx32
  replace hS44 := hS44.ext hx32
  replace hY61 := hY61.ext hx32
  replace hY67 := hY67.ext hx32
  replace hY73 := hY73.ext hx32
  replace hY79 := hY79.ext hx32
  replace hS86 := hS86.ext hx32
  replace hS87 := hS87.ext hx32
  replace hS88 := hS88.ext hx32
  replace hS89 := hS89.ext hx32
  replace hY108 := hY108.ext hx32
  replace hY113 := hY113.ext hx32
  replace hY118 := hY118.ext hx32
  replace hY123 := hY123.ext hx32
  replace hS134 := hS134.ext hx32
  replace hB1 := hB1.ext hx32
  replace hB9 := hB9.ext hx32
  replace hB10 := hB10.ext hx32
  replace hB12 := hB12.ext hx32
  replace hB14 := hB14.ext hx32
  replace hE := hE.ext hx32
  refine R.gT rfl rfl ?_
  refine R.build (build24 hS135.one rfl) rfl ?_  -- 136 := build 24 [('tup', 0, ('tmp', 135)), ('tup', 1, ('const', ('int', ('i64',), 3)))]
  refine R.gT rfl rfl ?_
  refine R.callE2 ent28 (same1 _ hY113.mat (mat3o hS135 (by simp [cellsOf, Value.cells]) (ints_of hS134 (by simp [cellsOf, Value.cells, ints]) rfl) (SInts.nil _).row (SInts.nil _).row) (by decide) (by decide)) rfl rfl nofun ?_  -- 137 := call {'callee': ('value', ('func', 28)), 'args': [('tmp', 133), ('tmp', 136)], 'argTypes': [24, 24]}
  rintro v137 w33 hx33 rfl
  replace hM15 := hM15.ext hx33
  replace hS24 := hS24.ext hx33
  replace hS44 := hS44.ext hx33
  replace hY61 := hY61.ext hx33
  replace hY67 := hY67.ext hx33
  replace hY73 := hY73.ext hx33
  replace hY79 := hY79.ext hx33
  replace hS86 := hS86.ext hx33
  replace hS87 := hS87.ext hx33
  replace hS88 := hS88.ext hx33
  replace hS89 := hS89.ext hx33
  replace hY108 := hY108.ext hx33
  replace hY113 := hY113.ext hx33
  replace hY118 := hY118.ext hx33
  replace hY123 := hY123.ext hx33
  replace hS134 := hS134.ext hx33
  replace hS135 := hS135.ext hx33
  replace hB1 := hB1.ext hx33
  replace hB9 := hB9.ext hx33
  replace hB10 := hB10.ext hx33
  replace hB12 := hB12.ext hx33
  replace hB14 := hB14.ext hx33
  replace hE := hE.ext hx33
  refine R.pickT rfl ?_  -- 138 := pick ('tmp', 132) ('tmp', 137) ('const', ('bool', ('false',)))
  refine R.move ?_  -- 139 := move ('tmp', 138)
  refine R.gT rfl rfl ?_
  refine R.move ?_  -- 140 := move ('tmp', 11)
  refine R.gT rfl rfl ?_
  refine R.eql (b := true) rfl rfl (by decide) ?_  -- 141 := binOp ('eql',) 38 ('tmp', 140) ('const', ('int', ('i64',), 343)) 38
  refine R.pickT rfl ?_  -- 142 := pick ('tmp', 139) ('tmp', 141) ('const', ('bool', ('false',)))
  refine R.move ?_  -- 143 := move ('tmp', 142)
  refine R.gT rfl rfl ?_
  refine R.move ?_  -- 144 := move ('tmp', 13)
  refine R.gT rfl rfl ?_
  refine R.eql (b := true) rfl rfl (by decide) ?_  -- 145 := binOp ('eql',) 38 ('tmp', 144) ('const', ('int', ('i64',), 0)) 38
  refine R.pickT rfl ?_  -- 146 := pick ('tmp', 143) ('tmp', 145) ('const', ('bool', ('false',)))
  refine R.move ?_  -- 147 := move ('tmp', 146)
  refine R.gT rfl rfl ?_
  refine R.loadA t24 hB14 rfl rfl rfl trivial ?_  -- 148 := load 24 ('tmp', 14)
  refine R.gT rfl rfl ?_
  refine R.buildSlice [.int .i64 5, .int .i64 2] Try.underlying35 t3 rfl rfl (by simp [Value.cells]) (by simp) nofun ?_  -- 149 := buildSlice 35 2 [('tup', 0, ('const', ('int', ('i64',), 5))), ('tup', 1, ('const', ('int', ('i64',), 2)))]
  intro b149 w34 hb149 hx34 hB149 hS149
  replace hb149 := Nat.le_trans hE.size hb149
  replace hM15 := hM15.ext hx34
  replace hS24 := hS24.ext hx34
  replace hS44 := hS44.ext hx34
  replace hY61 := hY61.ext hx34
  replace hY67 := hY67.ext hx34
  replace hY73 := hY73.ext hx34
  replace hY79 := hY79.ext hx34
  replace hS86 := hS86.ext hx34
  replace hS87 := hS87.ext hx34
  replace hS88 := hS88.ext hx34
  replace hS89 := hS89.ext hx34
  replace hY108 := hY108.ext hx34
  replace hY113 := hY113.ext hx34
  replace hY118 := hY118.ext hx34
  replace hY123 := hY123.ext hx34
  replace hS134 := hS134.ext hx34
  replace hS135 := hS135.ext hx34
  replace hB1 := hB1.ext hx34
  replace hB9 := hB9.ext hx34
  replace hB10 := hB10.ext hx34
  replace hB12 := hB12.ext hx34
  replace hB14 := hB14.ext hx34
  replace hE := hE.ext hx34
  refine R.gT rfl rfl ?_
  refine R.buildSlice [.int .i64 7, .int .i64 9] Try.underlying35 t3 rfl rfl (by simp [Value.cells]) (by simp) nofun ?_  -- 150 := buildSlice 35 2 [('tup', 0, ('const', ('int', ('i64',), 7))), ('tup', 1, ('const', ('int', ('i64',), 9)))]
  intro b150 w35 hb150 hx35 hB150 hS150
  replace hb150 := Nat.le_trans hE.size hb150
  replace hM15 := hM15.ext hx35
  replace hS24 := hS24.ext hx35
  replace hS44 := hS44.ext hx35
  replace hY61 := hY61.ext hx35
  replace hY67 := hY67.ext hx35
  replace hY73 := hY73.ext hx35
  replace hY79 := hY79.ext hx35
  replace hS86 := hS86.ext hx35
  replace hS87 := hS87.ext hx35
  replace hS88 := hS88.ext hx35
  replace hS89 := hS89.ext hx35
  replace hY108 := hY108.ext hx35
  replace hY113 := hY113.ext hx35
  replace hY118 := hY118.ext hx35
  replace hY123 := hY123.ext hx35
  replace hS134 := hS134.ext hx35
  replace hS135 := hS135.ext hx35
  replace hS149 := hS149.ext hx35
  replace hB1 := hB1.ext hx35
  replace hB9 := hB9.ext hx35
  replace hB10 := hB10.ext hx35
  replace hB12 := hB12.ext hx35
  replace hB14 := hB14.ext hx35
  replace hE := hE.ext hx35
  refine R.gT rfl rfl ?_
  refine R.buildSlice [.slice (some ⟨b149, 0, none⟩) 2 2, .slice (some ⟨b150, 0, none⟩) 2 2, .slice none 0 0] Try.underlying22 t35 rfl rfl (by simp [Value.cells]) (by simp) nofun ?_  -- 151 := buildSlice 22 3 [('tup', 0, ('tmp', 149)), ('tup', 1, ('tmp', 150)), ('tup', 2, ('const', ('slice', ('none',), 0, 0)))]
  intro b151 w36 hb151 hx36 hB151 hS151
  replace hb151 := Nat.le_trans hE.size hb151
  replace hM15 := hM15.ext hx36
  replace hS24 := hS24.ext hx36
  replace hS44 := hS44.ext hx36
  replace hY61 := hY61.ext hx36
  replace hY67 := hY67.ext hx36
  replace hY73 := hY73.ext hx36
  replace hY79 := hY79.ext hx36
  replace hS86 := hS86.ext hx36
  replace hS87 := hS87.ext hx36
  replace hS88 := hS88.ext hx36
  replace hS89 := hS89.ext hx36
  replace hY108 := hY108.ext hx36
  replace hY113 := hY113.ext hx36
  replace hY118 := hY118.ext hx36
  replace hY123 := hY123.ext hx36
  replace hS134 := hS134.ext hx36
  replace hS135 := hS135.ext hx36
  replace hS149 := hS149.ext hx36
  replace hS150 := hS150.ext hx36
  replace hB1 := hB1.ext hx36
  replace hB9 := hB9.ext hx36
  replace hB10 := hB10.ext hx36
  replace hB12 := hB12.ext hx36
  replace hB14 := hB14.ext hx36
  replace hE := hE.ext hx36
  refine R.gT rfl rfl ?_
  refine R.build (build24 hS151.one rfl) rfl ?_  -- 152 := build 24 [('tup', 0, ('tmp', 151)), ('tup', 1, ('const', ('int', ('i64',), 3)))]
  refine R.gT rfl rfl ?_
  refine R.callE2 ent28 (same1 _ hY123.mat (mat3o hS151 (by simp [cellsOf, Value.cells]) (ints_of hS149 (by simp [cellsOf, Value.cells, ints]) rfl) (ints_of hS150 (by simp [cellsOf, Value.cells, ints]) rfl) (SInts.nil _).row) (by decide) (by decide)) rfl rfl nofun ?_  -- 153 := call {'callee': ('value', ('func', 28)), 'args': [('tmp', 148), ('tmp', 152)], 'argTypes': [24, 24]}
  rintro v153 w37 hx37 rfl
  replace hM15 := hM15.ext hx37
  replace hS24 := hS24.ext hx37
  replace hS44 := hS44.ext hx37
  replace hY61 := hY61.ext hx37
  replace hY67 := hY67.ext hx37
  replace hY73 := hY73.ext hx37
  replace hY79 := hY79.ext hx37
  replace hS86 := hS86.ext hx37
  replace hS87 := hS87.ext hx37
  replace hS88 := hS88.ext hx37
  replace hS89 := hS89.ext hx37
  replace hY108 := hY108.ext hx37
  replace hY113 := hY113.ext hx37
  replace hY118 := hY118.ext hx37
  replace hY123 := hY123.ext hx37
  replace hS134 := hS134.ext hx37
  replace hS135 := hS135.ext hx37
  replace hS149 := hS149.ext hx37
  replace hS150 := hS150.ext hx37
  replace hS151 := hS151.ext hx37
  replace hB1 := hB1.ext hx37
  replace hB9 := hB9.ext hx37
  replace hB10 := hB10.ext hx37
  replace hB12 := hB12.ext hx37
  replace hB14 := hB14.ext hx37
  replace hE := hE.ext hx37
  refine R.pickT rfl ?_  -- 154 := pick ('tmp', 147) ('tmp', 153) ('const', ('bool', ('false',)))
  refine R.assign ?_  -- 0 := assign ('tmp', 154)
  refine R.nil ?_
  refine E.ret ?_
  exact ret1 (.bool true) rfl rfl ⟨_, rfl, hE, rfl⟩  -- return 0 path 

end Go.Proofs.Ytfdmndkoiheebaa
