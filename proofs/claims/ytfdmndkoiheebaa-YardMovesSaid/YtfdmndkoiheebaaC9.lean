/- refs: Put -/
import Derived.Test.YtfdmndkoiheebaaC8
namespace Go.Proofs.Ytfdmndkoiheebaa
open Go Go.RowKit

set_option maxHeartbeats 1600000 in
theorem rPut (w : World) {v : Value} {h b s : Int} {us : List Value} {xss : List (List Int)} (hm : Mat w v us xss) (hl : xss.length < 100000) (hx : ∀ xs ∈ xss, xs.length ≤ 10) :
    Calls Try.prog 60 #[.agg #[v, .int .i64 h], .int .i64 b, .int .i64 s] w (Ret fun r w' => Ext w w' ∧ RRes w' r (putR xss h b s)) := by
  have hxL : ∀ xs ∈ xss, xs.length < 1000000 := fun xs h => by have := hx xs h; omega
  rcases (show rightB xss h = false ∨ (rightB xss h = true ∧ b < 1) ∨ (rightB xss h = true ∧ 1 ≤ b ∧ 999999 < b) ∨ (rightB xss h = true ∧ 1 ≤ b ∧ b ≤ 999999 ∧ ∃ i k, findL xss b = some (i, k)) ∨ (rightB xss h = true ∧ 1 ≤ b ∧ b ≤ 999999 ∧ findL xss b = none ∧ s < 0) ∨ (rightB xss h = true ∧ 1 ≤ b ∧ b ≤ 999999 ∧ findL xss b = none ∧ 0 ≤ s ∧ (xss.length : Int) ≤ s) ∨ (rightB xss h = true ∧ 1 ≤ b ∧ b ≤ 999999 ∧ findL xss b = none ∧ 0 ≤ s ∧ s < xss.length) by
      cases hR : rightB xss h
      · exact .inl rfl
      · rcases hF : findL xss b with _ | ⟨i, k⟩
        · simp; omega
        · by_cases h1 : b < 1
          · exact .inr (.inl ⟨rfl, h1⟩)
          · by_cases h2 : 999999 < b
            · exact .inr (.inr (.inl ⟨rfl, by omega, h2⟩))
            · exact .inr (.inr (.inr (.inl ⟨rfl, by omega, by omega, i, k, rfl⟩)))) with hR | ⟨hR, hb⟩ | ⟨hR, hb1, hb⟩ | ⟨hR, hb1, hb, i, k, hF⟩ | ⟨hR, hb1, hb, hF, hs⟩ | ⟨hR, hb1, hb, hF, hs0, hs⟩ | ⟨hR, hb1, hb, hF, hs0, hs⟩
  · refine calls_E (args := [.agg #[v, .int .i64 h], .int .i64 b, .int .i64 s]) 65 Try.func60 rfl rfl (by simp) ?_
    have hE : Ext w w := Upd.refl w
    refine E.seq ?_
    refine E.regionP rfl ?_  -- region 0
    refine R.box rfl nofun ?_  -- 3 := box 54 ('tmp', 0)
    intro b3 w1 hb3 hx1 hB3
    replace hb3 := Nat.le_trans hE.size hb3
    replace hE := hE.ext hx1
    replace hB3 : Blk _ b3 54 #[v, .int .i64 h] := hB3
    refine R.alloc t54 nofun ?_  -- 6 := alloc 54
    intro b6 w2 hb6 hx2 hB6
    have ne3_6 : b3 ≠ b6 := by have := hB3.lt; omega
    replace hb6 := Nat.le_trans hE.size hb6
    replace hB3 := hB3.ext hx2
    replace hE := hE.ext hx2
    replace hB6 : Blk _ b6 54 #[.slice none 0 0, .int .i64 0] := hB6
    refine R.assign ?_  -- 7 := assign ('const', ('int', ('i64',), 0))
    refine R.nil ?_
    refine E.seq ?_
    refine E.seq ?_
    refine E.regionP rfl ?_  -- region 1
    refine R.loadA t54 hB3 rfl rfl rfl trivial ?_  -- 11 := load 54 ('tmp', 3)
    refine R.callE1 ent55 (rRight _ (hm.ext hE) hl hx) rfl nofun ?_  -- 12 := call {'callee': ('value', ('func', 55)), 'args': [('tmp', 11)], 'argTypes': [54]}
    rintro v12 w3 hx3 rfl
    rw [hR]
    replace hB3 := hB3.ext hx3
    replace hB6 := hB6.ext hx3
    replace hE := hE.ext hx3
    refine R.not rfl ?_  -- 13 := unOp ('not',) 4 ('tmp', 12)
    refine R.move ?_  -- 14 := move ('tmp', 13)
    refine R.gF rfl rfl rfl ?_  -- 15 := move ('tmp', 1)
    refine R.gF rfl rfl rfl ?_  -- 16 := binOp ('lss',) 3 ('tmp', 15) ('const', ('int', ('i64',), 1)) 3
    refine R.pickT rfl ?_  -- 17 := pick ('tmp', 14) ('const', ('bool', ('true',))) ('tmp', 16)
    refine R.move ?_  -- 18 := move ('tmp', 17)
    refine R.gF rfl rfl rfl ?_  -- 19 := move ('tmp', 1)
    refine R.gF rfl rfl rfl ?_  -- 20 := binOp ('gtr',) 3 ('tmp', 19) ('const', ('int', ('i64',), 999999)) 3
    refine R.pickT rfl ?_  -- 21 := pick ('tmp', 18) ('const', ('bool', ('true',))) ('tmp', 20)
    refine R.nil ?_
    refine E.condT rfl ?_  -- cond t21
    refine E.seq ?_
    refine E.regionP rfl ?_  -- region 2
    refine R.build build54_0 rfl ?_  -- 22 := build 54 []
    refine R.storeA t54 hB6 rfl rfl rfl rfl (ones2 rfl rfl) nofun ?_  -- None := store 54 ('tmp', 6) ('tmp', 22)
    intro w4 hU4 hs4 hN4
    replace hB3 := hB3.up hU4 (fun h => ne3_6 h)
    replace hE := hE.own hU4 hb6
    replace hB6 : Blk _ b6 54 #[.slice none 0 0, .int .i64 0] := hN4
    clear hN4
    refine R.assign ?_  -- 7 := assign ('const', ('int', ('i64',), 2))
    refine R.nil ?_
    refine E.ret ?_
    refine retA1 (.int .i64 2) t54 hB6 rfl rfl rfl rfl ⟨_, rfl, hE, ?_⟩  -- return 0 path 
    rw [show putR xss h b s = ([], 0, 2) by simp [putR, hR]]
    exact RRes.zero
  · refine calls_E (args := [.agg #[v, .int .i64 h], .int .i64 b, .int .i64 s]) 65 Try.func60 rfl rfl (by simp) ?_
    have hE : Ext w w := Upd.refl w
    refine E.seq ?_
    refine E.regionP rfl ?_  -- region 0
    refine R.box rfl nofun ?_  -- 3 := box 54 ('tmp', 0)
    intro b3 w1 hb3 hx1 hB3
    replace hb3 := Nat.le_trans hE.size hb3
    replace hE := hE.ext hx1
    replace hB3 : Blk _ b3 54 #[v, .int .i64 h] := hB3
    refine R.alloc t54 nofun ?_  -- 6 := alloc 54
    intro b6 w2 hb6 hx2 hB6
    have ne3_6 : b3 ≠ b6 := by have := hB3.lt; omega
    replace hb6 := Nat.le_trans hE.size hb6
    replace hB3 := hB3.ext hx2
    replace hE := hE.ext hx2
    replace hB6 : Blk _ b6 54 #[.slice none 0 0, .int .i64 0] := hB6
    refine R.assign ?_  -- 7 := assign ('const', ('int', ('i64',), 0))
    refine R.nil ?_
    refine E.seq ?_
    refine E.seq ?_
    refine E.regionP rfl ?_  -- region 1
    refine R.loadA t54 hB3 rfl rfl rfl trivial ?_  -- 11 := load 54 ('tmp', 3)
    refine R.callE1 ent55 (rRight _ (hm.ext hE) hl hx) rfl nofun ?_  -- 12 := call {'callee': ('value', ('func', 55)), 'args': [('tmp', 11)], 'argTypes': [54]}
    rintro v12 w3 hx3 rfl
    rw [hR]
    replace hB3 := hB3.ext hx3
    replace hB6 := hB6.ext hx3
    replace hE := hE.ext hx3
    refine R.not rfl ?_  -- 13 := unOp ('not',) 4 ('tmp', 12)
    refine R.move ?_  -- 14 := move ('tmp', 13)
    refine R.gT rfl rfl ?_
    refine R.move ?_  -- 15 := move ('tmp', 1)
    refine R.gT rfl rfl ?_
    refine R.lss (b := true) rfl rfl (decide_eq_true hb) ?_  -- 16 := binOp ('lss',) 3 ('tmp', 15) ('const', ('int', ('i64',), 1)) 3
    refine R.pickF rfl ?_  -- 17 := pick ('tmp', 14) ('const', ('bool', ('true',))) ('tmp', 16)
    refine R.move ?_  -- 18 := move ('tmp', 17)
    refine R.gF rfl rfl rfl ?_  -- 19 := move ('tmp', 1)
    refine R.gF rfl rfl rfl ?_  -- 20 := binOp ('gtr',) 3 ('tmp', 19) ('const', ('int', ('i64',), 999999)) 3
    refine R.pickT rfl ?_  -- 21 := pick ('tmp', 18) ('const', ('bool', ('true',))) ('tmp', 20)
    refine R.nil ?_
    refine E.condT rfl ?_  -- cond t21
    refine E.seq ?_
    refine E.regionP rfl ?_  -- region 2
    refine R.build build54_0 rfl ?_  -- 22 := build 54 []
    refine R.storeA t54 hB6 rfl rfl rfl rfl (ones2 rfl rfl) nofun ?_  -- None := store 54 ('tmp', 6) ('tmp', 22)
    intro w4 hU4 hs4 hN4
    replace hB3 := hB3.up hU4 (fun h => ne3_6 h)
    replace hE := hE.own hU4 hb6
    replace hB6 : Blk _ b6 54 #[.slice none 0 0, .int .i64 0] := hN4
    clear hN4
    refine R.assign ?_  -- 7 := assign ('const', ('int', ('i64',), 2))
    refine R.nil ?_
    refine E.ret ?_
    refine retA1 (.int .i64 2) t54 hB6 rfl rfl rfl rfl ⟨_, rfl, hE, ?_⟩  -- return 0 path 
    rw [show putR xss h b s = ([], 0, 2) by simp [putR, hb]]
    exact RRes.zero
  · refine calls_E (args := [.agg #[v, .int .i64 h], .int .i64 b, .int .i64 s]) 65 Try.func60 rfl rfl (by simp) ?_
    have hE : Ext w w := Upd.refl w
    refine E.seq ?_
    refine E.regionP rfl ?_  -- region 0
    refine R.box rfl nofun ?_  -- 3 := box 54 ('tmp', 0)
    intro b3 w1 hb3 hx1 hB3
    replace hb3 := Nat.le_trans hE.size hb3
    replace hE := hE.ext hx1
    replace hB3 : Blk _ b3 54 #[v, .int .i64 h] := hB3
    refine R.alloc t54 nofun ?_  -- 6 := alloc 54
    intro b6 w2 hb6 hx2 hB6
    have ne3_6 : b3 ≠ b6 := by have := hB3.lt; omega
    replace hb6 := Nat.le_trans hE.size hb6
    replace hB3 := hB3.ext hx2
    replace hE := hE.ext hx2
    replace hB6 : Blk _ b6 54 #[.slice none 0 0, .int .i64 0] := hB6
    refine R.assign ?_  -- 7 := assign ('const', ('int', ('i64',), 0))
    refine R.nil ?_
    refine E.seq ?_
    refine E.seq ?_
    refine E.regionP rfl ?_  -- region 1
    refine R.loadA t54 hB3 rfl rfl rfl trivial ?_  -- 11 := load 54 ('tmp', 3)
    refine R.callE1 ent55 (rRight _ (hm.ext hE) hl hx) rfl nofun ?_  -- 12 := call {'callee': ('value', ('func', 55)), 'args': [('tmp', 11)], 'argTypes': [54]}
    rintro v12 w3 hx3 rfl
    rw [hR]
    replace hB3 := hB3.ext hx3
    replace hB6 := hB6.ext hx3
    replace hE := hE.ext hx3
    refine R.not rfl ?_  -- 13 := unOp ('not',) 4 ('tmp', 12)
    refine R.move ?_  -- 14 := move ('tmp', 13)
    refine R.gT rfl rfl ?_
    refine R.move ?_  -- 15 := move ('tmp', 1)
    refine R.gT rfl rfl ?_
    refine R.lss (b := false) rfl rfl (decide_eq_false (by omega)) ?_  -- 16 := binOp ('lss',) 3 ('tmp', 15) ('const', ('int', ('i64',), 1)) 3
    refine R.pickF rfl ?_  -- 17 := pick ('tmp', 14) ('const', ('bool', ('true',))) ('tmp', 16)
    refine R.move ?_  -- 18 := move ('tmp', 17)
    refine R.gT rfl rfl ?_
    refine R.move ?_  -- 19 := move ('tmp', 1)
    refine R.gT rfl rfl ?_
    refine R.gtr (b := true) rfl rfl (decide_eq_true hb) ?_  -- 20 := binOp ('gtr',) 3 ('tmp', 19) ('const', ('int', ('i64',), 999999)) 3
    refine R.pickF rfl ?_  -- 21 := pick ('tmp', 18) ('const', ('bool', ('true',))) ('tmp', 20)
    refine R.nil ?_
    refine E.condT rfl ?_  -- cond t21
    refine E.seq ?_
    refine E.regionP rfl ?_  -- region 2
    refine R.build build54_0 rfl ?_  -- 22 := build 54 []
    refine R.storeA t54 hB6 rfl rfl rfl rfl (ones2 rfl rfl) nofun ?_  -- None := store 54 ('tmp', 6) ('tmp', 22)
    intro w4 hU4 hs4 hN4
    replace hB3 := hB3.up hU4 (fun h => ne3_6 h)
    replace hE := hE.own hU4 hb6
    replace hB6 : Blk _ b6 54 #[.slice none 0 0, .int .i64 0] := hN4
    clear hN4
    refine R.assign ?_  -- 7 := assign ('const', ('int', ('i64',), 2))
    refine R.nil ?_
    refine E.ret ?_
    refine retA1 (.int .i64 2) t54 hB6 rfl rfl rfl rfl ⟨_, rfl, hE, ?_⟩  -- return 0 path 
    rw [show putR xss h b s = ([], 0, 2) by simp [putR, hb]]
    exact RRes.zero
  · have hr0 : findV xss b = .tuple #[.int .i64 i, .int .i64 k, .bool true] := by simp [findV, hF]
    refine calls_E (args := [.agg #[v, .int .i64 h], .int .i64 b, .int .i64 s]) 65 Try.func60 rfl rfl (by simp) ?_
    have hE : Ext w w := Upd.refl w
    refine E.seq ?_
    refine E.regionP rfl ?_  -- region 0
    refine R.box rfl nofun ?_  -- 3 := box 54 ('tmp', 0)
    intro b3 w1 hb3 hx1 hB3
    replace hb3 := Nat.le_trans hE.size hb3
    replace hE := hE.ext hx1
    replace hB3 : Blk _ b3 54 #[v, .int .i64 h] := hB3
    refine R.alloc t54 nofun ?_  -- 6 := alloc 54
    intro b6 w2 hb6 hx2 hB6
    have ne3_6 : b3 ≠ b6 := by have := hB3.lt; omega
    replace hb6 := Nat.le_trans hE.size hb6
    replace hB3 := hB3.ext hx2
    replace hE := hE.ext hx2
    replace hB6 : Blk _ b6 54 #[.slice none 0 0, .int .i64 0] := hB6
    refine R.assign ?_  -- 7 := assign ('const', ('int', ('i64',), 0))
    refine R.nil ?_
    refine E.seq ?_
    refine E.seq ?_
    refine E.regionP rfl ?_  -- region 1
    refine R.loadA t54 hB3 rfl rfl rfl trivial ?_  -- 11 := load 54 ('tmp', 3)
    refine R.callE1 ent55 (rRight _ (hm.ext hE) hl hx) rfl nofun ?_  -- 12 := call {'callee': ('value', ('func', 55)), 'args': [('tmp', 11)], 'argTypes': [54]}
    rintro v12 w3 hx3 rfl
    rw [hR]
    replace hB3 := hB3.ext hx3
    replace hB6 := hB6.ext hx3
    replace hE := hE.ext hx3
    refine R.not rfl ?_  -- 13 := unOp ('not',) 4 ('tmp', 12)
    refine R.move ?_  -- 14 := move ('tmp', 13)
    refine R.gT rfl rfl ?_
    refine R.move ?_  -- 15 := move ('tmp', 1)
    refine R.gT rfl rfl ?_
    refine R.lss (b := false) rfl rfl (decide_eq_false (by omega)) ?_  -- 16 := binOp ('lss',) 3 ('tmp', 15) ('const', ('int', ('i64',), 1)) 3
    refine R.pickF rfl ?_  -- 17 := pick ('tmp', 14) ('const', ('bool', ('true',))) ('tmp', 16)
    refine R.move ?_  -- 18 := move ('tmp', 17)
    refine R.gT rfl rfl ?_
    refine R.move ?_  -- 19 := move ('tmp', 1)
    refine R.gT rfl rfl ?_
    refine R.gtr (b := false) rfl rfl (decide_eq_false (by omega)) ?_  -- 20 := binOp ('gtr',) 3 ('tmp', 19) ('const', ('int', ('i64',), 999999)) 3
    refine R.pickF rfl ?_  -- 21 := pick ('tmp', 18) ('const', ('bool', ('true',))) ('tmp', 20)
    refine R.nil ?_
    refine E.condF rfl ?_  -- cond t21
    refine E.skip ?_
    refine E.seq ?_
    refine E.regionP rfl ?_  -- region 3
    refine R.loadA t54 hB3 rfl rfl rfl trivial ?_  -- 24 := load 54 ('tmp', 3)
    refine R.move ?_  -- 25 := move ('tmp', 1)
    refine R.callE2 ent52 (rFindE _ (hm.ext hE) (by omega) hxL hr0) rfl rfl nofun ?_  -- 26 := call {'callee': ('value', ('func', 52)), 'args': [('tmp', 24), ('tmp', 25)], 'argTypes': [54, 3]}
    rintro v26 w4 hx4 rfl
    replace hB3 := hB3.ext hx4
    replace hB6 := hB6.ext hx4
    replace hE := hE.ext hx4
    refine R.move ?_  -- 23 := move ('tmp', 26)
    refine R.extract rfl rfl ?_  -- 27 := extract ('tmp', 23) 0
    refine R.extract rfl rfl ?_  -- 28 := extract ('tmp', 23) 1
    refine R.extract rfl rfl ?_  -- 29 := extract ('tmp', 23) 2
    refine R.assign ?_  -- 8 := assign ('tmp', 27)
    refine R.assign ?_  -- 9 := assign ('tmp', 28)
    refine R.assign ?_  -- 10 := assign ('tmp', 29)
    refine R.nil ?_
    refine E.seq ?_
    refine E.seq ?_
    refine E.regionP rfl ?_  -- region 4
    refine R.move ?_  -- 30 := move ('tmp', 10)
    refine R.nil ?_
    refine E.condT rfl ?_  -- cond t30
    refine E.seq ?_
    refine E.regionP rfl ?_  -- region 5
    refine R.build build54_0 rfl ?_  -- 31 := build 54 []
    refine R.storeA t54 hB6 rfl rfl rfl rfl (ones2 rfl rfl) nofun ?_  -- None := store 54 ('tmp', 6) ('tmp', 31)
    intro w5 hU5 hs5 hN5
    replace hB3 := hB3.up hU5 (fun h => ne3_6 h)
    replace hE := hE.own hU5 hb6
    replace hB6 : Blk _ b6 54 #[.slice none 0 0, .int .i64 0] := hN5
    clear hN5
    refine R.assign ?_  -- 7 := assign ('const', ('int', ('i64',), 343))
    refine R.nil ?_
    refine E.ret ?_
    refine retA1 (.int .i64 343) t54 hB6 rfl rfl rfl rfl ⟨_, rfl, hE, ?_⟩  -- return 0 path 
    rw [show putR xss h b s = ([], 0, 343) by simp only [putR, hF]; rw [if_neg (by rw [hR]; simp; omega), if_pos (by rfl)]]
    exact RRes.zero
  · have hr0 : findV xss b = .tuple #[.int .i64 0, .int .i64 0, .bool false] := by simp [findV, hF]
    refine calls_E (args := [.agg #[v, .int .i64 h], .int .i64 b, .int .i64 s]) 65 Try.func60 rfl rfl (by simp) ?_
    have hE : Ext w w := Upd.refl w
    refine E.seq ?_
    refine E.regionP rfl ?_  -- region 0
    refine R.box rfl nofun ?_  -- 3 := box 54 ('tmp', 0)
    intro b3 w1 hb3 hx1 hB3
    replace hb3 := Nat.le_trans hE.size hb3
    replace hE := hE.ext hx1
    replace hB3 : Blk _ b3 54 #[v, .int .i64 h] := hB3
    refine R.alloc t54 nofun ?_  -- 6 := alloc 54
    intro b6 w2 hb6 hx2 hB6
    have ne3_6 : b3 ≠ b6 := by have := hB3.lt; omega
    replace hb6 := Nat.le_trans hE.size hb6
    replace hB3 := hB3.ext hx2
    replace hE := hE.ext hx2
    replace hB6 : Blk _ b6 54 #[.slice none 0 0, .int .i64 0] := hB6
    refine R.assign ?_  -- 7 := assign ('const', ('int', ('i64',), 0))
    refine R.nil ?_
    refine E.seq ?_
    refine E.seq ?_
    refine E.regionP rfl ?_  -- region 1
    refine R.loadA t54 hB3 rfl rfl rfl trivial ?_  -- 11 := load 54 ('tmp', 3)
    refine R.callE1 ent55 (rRight _ (hm.ext hE) hl hx) rfl nofun ?_  -- 12 := call {'callee': ('value', ('func', 55)), 'args': [('tmp', 11)], 'argTypes': [54]}
    rintro v12 w3 hx3 rfl
    rw [hR]
    replace hB3 := hB3.ext hx3
    replace hB6 := hB6.ext hx3
    replace hE := hE.ext hx3
    refine R.not rfl ?_  -- 13 := unOp ('not',) 4 ('tmp', 12)
    refine R.move ?_  -- 14 := move ('tmp', 13)
    refine R.gT rfl rfl ?_
    refine R.move ?_  -- 15 := move ('tmp', 1)
    refine R.gT rfl rfl ?_
    refine R.lss (b := false) rfl rfl (decide_eq_false (by omega)) ?_  -- 16 := binOp ('lss',) 3 ('tmp', 15) ('const', ('int', ('i64',), 1)) 3
    refine R.pickF rfl ?_  -- 17 := pick ('tmp', 14) ('const', ('bool', ('true',))) ('tmp', 16)
    refine R.move ?_  -- 18 := move ('tmp', 17)
    refine R.gT rfl rfl ?_
    refine R.move ?_  -- 19 := move ('tmp', 1)
    refine R.gT rfl rfl ?_
    refine R.gtr (b := false) rfl rfl (decide_eq_false (by omega)) ?_  -- 20 := binOp ('gtr',) 3 ('tmp', 19) ('const', ('int', ('i64',), 999999)) 3
    refine R.pickF rfl ?_  -- 21 := pick ('tmp', 18) ('const', ('bool', ('true',))) ('tmp', 20)
    refine R.nil ?_
    refine E.condF rfl ?_  -- cond t21
    refine E.skip ?_
    refine E.seq ?_
    refine E.regionP rfl ?_  -- region 3
    refine R.loadA t54 hB3 rfl rfl rfl trivial ?_  -- 24 := load 54 ('tmp', 3)
    refine R.move ?_  -- 25 := move ('tmp', 1)
    refine R.callE2 ent52 (rFindE _ (hm.ext hE) (by omega) hxL hr0) rfl rfl nofun ?_  -- 26 := call {'callee': ('value', ('func', 52)), 'args': [('tmp', 24), ('tmp', 25)], 'argTypes': [54, 3]}
    rintro v26 w4 hx4 rfl
    replace hB3 := hB3.ext hx4
    replace hB6 := hB6.ext hx4
    replace hE := hE.ext hx4
    refine R.move ?_  -- 23 := move ('tmp', 26)
    refine R.extract rfl rfl ?_  -- 27 := extract ('tmp', 23) 0
    refine R.extract rfl rfl ?_  -- 28 := extract ('tmp', 23) 1
    refine R.extract rfl rfl ?_  -- 29 := extract ('tmp', 23) 2
    refine R.assign ?_  -- 8 := assign ('tmp', 27)
    refine R.assign ?_  -- 9 := assign ('tmp', 28)
    refine R.assign ?_  -- 10 := assign ('tmp', 29)
    refine R.nil ?_
    refine E.seq ?_
    refine E.seq ?_
    refine E.regionP rfl ?_  -- region 4
    refine R.move ?_  -- 30 := move ('tmp', 10)
    refine R.nil ?_
    refine E.condF rfl ?_  -- cond t30
    refine E.skip ?_
    refine E.seq ?_
    refine E.seq ?_
    refine E.regionP rfl ?_  -- region 6
    refine R.move ?_  -- 32 := move ('tmp', 2)
    refine R.lss (b := true) rfl rfl (decide_eq_true hs) ?_  -- 33 := binOp ('lss',) 3 ('tmp', 32) ('const', ('int', ('i64',), 0)) 3
    refine R.move ?_  -- 34 := move ('tmp', 33)
    refine R.gF rfl rfl rfl ?_  -- 35 := move ('tmp', 2)
    refine R.gF rfl rfl rfl ?_  -- 36 := fieldAddr 54 ('tmp', 3) 0
    refine R.gF rfl rfl rfl ?_  -- 37 := load 22 ('tmp', 36)
    refine R.gF rfl rfl rfl ?_  -- 38 := call {'callee': ('builtin', ('len',)), 'args': [('tmp', 37)], 'argTypes': [22]}
    refine R.gF rfl rfl rfl ?_  -- 39 := binOp ('geq',) 3 ('tmp', 35) ('tmp', 38) 3
    refine R.pickT rfl ?_  -- 40 := pick ('tmp', 34) ('const', ('bool', ('true',))) ('tmp', 39)
    refine R.nil ?_
    refine E.condT rfl ?_  -- cond t40
    refine E.seq ?_
    refine E.regionP rfl ?_  -- region 7
    refine R.build build54_0 rfl ?_  -- 41 := build 54 []
    refine R.storeA t54 hB6 rfl rfl rfl rfl (ones2 rfl rfl) nofun ?_  -- None := store 54 ('tmp', 6) ('tmp', 41)
    intro w5 hU5 hs5 hN5
    replace hB3 := hB3.up hU5 (fun h => ne3_6 h)
    replace hE := hE.own hU5 hb6
    replace hB6 : Blk _ b6 54 #[.slice none 0 0, .int .i64 0] := hN5
    clear hN5
    refine R.assign ?_  -- 7 := assign ('const', ('int', ('i64',), 6))
    refine R.nil ?_
    refine E.ret ?_
    refine retA1 (.int .i64 6) t54 hB6 rfl rfl rfl rfl ⟨_, rfl, hE, ?_⟩  -- return 0 path 
    rw [show putR xss h b s = ([], 0, 6) by simp only [putR, hF]; rw [if_neg (by rw [hR]; simp; omega), if_neg (by simp), if_pos (by omega)]]
    exact RRes.zero
  · have hr0 : findV xss b = .tuple #[.int .i64 0, .int .i64 0, .bool false] := by simp [findV, hF]
    refine calls_E (args := [.agg #[v, .int .i64 h], .int .i64 b, .int .i64 s]) 65 Try.func60 rfl rfl (by simp) ?_
    have hE : Ext w w := Upd.refl w
    refine E.seq ?_
    refine E.regionP rfl ?_  -- region 0
    refine R.box rfl nofun ?_  -- 3 := box 54 ('tmp', 0)
    intro b3 w1 hb3 hx1 hB3
    replace hb3 := Nat.le_trans hE.size hb3
    replace hE := hE.ext hx1
    replace hB3 : Blk _ b3 54 #[v, .int .i64 h] := hB3
    refine R.alloc t54 nofun ?_  -- 6 := alloc 54
    intro b6 w2 hb6 hx2 hB6
    have ne3_6 : b3 ≠ b6 := by have := hB3.lt; omega
    replace hb6 := Nat.le_trans hE.size hb6
    replace hB3 := hB3.ext hx2
    replace hE := hE.ext hx2
    replace hB6 : Blk _ b6 54 #[.slice none 0 0, .int .i64 0] := hB6
    refine R.assign ?_  -- 7 := assign ('const', ('int', ('i64',), 0))
    refine R.nil ?_
    refine E.seq ?_
    refine E.seq ?_
    refine E.regionP rfl ?_  -- region 1
    refine R.loadA t54 hB3 rfl rfl rfl trivial ?_  -- 11 := load 54 ('tmp', 3)
    refine R.callE1 ent55 (rRight _ (hm.ext hE) hl hx) rfl nofun ?_  -- 12 := call {'callee': ('value', ('func', 55)), 'args': [('tmp', 11)], 'argTypes': [54]}
    rintro v12 w3 hx3 rfl
    rw [hR]
    replace hB3 := hB3.ext hx3
    replace hB6 := hB6.ext hx3
    replace hE := hE.ext hx3
    refine R.not rfl ?_  -- 13 := unOp ('not',) 4 ('tmp', 12)
    refine R.move ?_  -- 14 := move ('tmp', 13)
    refine R.gT rfl rfl ?_
    refine R.move ?_  -- 15 := move ('tmp', 1)
    refine R.gT rfl rfl ?_
    refine R.lss (b := false) rfl rfl (decide_eq_false (by omega)) ?_  -- 16 := binOp ('lss',) 3 ('tmp', 15) ('const', ('int', ('i64',), 1)) 3
    refine R.pickF rfl ?_  -- 17 := pick ('tmp', 14) ('const', ('bool', ('true',))) ('tmp', 16)
    refine R.move ?_  -- 18 := move ('tmp', 17)
    refine R.gT rfl rfl ?_
    refine R.move ?_  -- 19 := move ('tmp', 1)
    refine R.gT rfl rfl ?_
    refine R.gtr (b := false) rfl rfl (decide_eq_false (by omega)) ?_  -- 20 := binOp ('gtr',) 3 ('tmp', 19) ('const', ('int', ('i64',), 999999)) 3
    refine R.pickF rfl ?_  -- 21 := pick ('tmp', 18) ('const', ('bool', ('true',))) ('tmp', 20)
    refine R.nil ?_
    refine E.condF rfl ?_  -- cond t21
    refine E.skip ?_
    refine E.seq ?_
    refine E.regionP rfl ?_  -- region 3
    refine R.loadA t54 hB3 rfl rfl rfl trivial ?_  -- 24 := load 54 ('tmp', 3)
    refine R.move ?_  -- 25 := move ('tmp', 1)
    refine R.callE2 ent52 (rFindE _ (hm.ext hE) (by omega) hxL hr0) rfl rfl nofun ?_  -- 26 := call {'callee': ('value', ('func', 52)), 'args': [('tmp', 24), ('tmp', 25)], 'argTypes': [54, 3]}
    rintro v26 w4 hx4 rfl
    replace hB3 := hB3.ext hx4
    replace hB6 := hB6.ext hx4
    replace hE := hE.ext hx4
    refine R.move ?_  -- 23 := move ('tmp', 26)
    refine R.extract rfl rfl ?_  -- 27 := extract ('tmp', 23) 0
    refine R.extract rfl rfl ?_  -- 28 := extract ('tmp', 23) 1
    refine R.extract rfl rfl ?_  -- 29 := extract ('tmp', 23) 2
    refine R.assign ?_  -- 8 := assign ('tmp', 27)
    refine R.assign ?_  -- 9 := assign ('tmp', 28)
    refine R.assign ?_  -- 10 := assign ('tmp', 29)
    refine R.nil ?_
    refine E.seq ?_
    refine E.seq ?_
    refine E.regionP rfl ?_  -- region 4
    refine R.move ?_  -- 30 := move ('tmp', 10)
    refine R.nil ?_
    refine E.condF rfl ?_  -- cond t30
    refine E.skip ?_
    refine E.seq ?_
    refine E.seq ?_
    refine E.regionP rfl ?_  -- region 6
    refine R.move ?_  -- 32 := move ('tmp', 2)
    refine R.lss (b := false) rfl rfl (decide_eq_false (by omega)) ?_  -- 33 := binOp ('lss',) 3 ('tmp', 32) ('const', ('int', ('i64',), 0)) 3
    refine R.move ?_  -- 34 := move ('tmp', 33)
    refine R.gT rfl rfl ?_
    refine R.move ?_  -- 35 := move ('tmp', 2)
    refine R.gT rfl rfl ?_
    refine R.fld fa54_0 rfl ?_  -- 36 := fieldAddr 54 ('tmp', 3) 0
    refine R.gT rfl rfl ?_
    refine R.loadB t22 hB3 rfl rfl rfl trivial ?_  -- 37 := load 22 ('tmp', 36)
    refine R.gT rfl rfl ?_
    refine R.len Try.underlying22 hm.row rfl ?_  -- 38 := call {'callee': ('builtin', ('len',)), 'args': [('tmp', 37)], 'argTypes': [22]}
    refine R.gT rfl rfl ?_
    refine R.geq (b := true) rfl rfl (decide_eq_true (by omega)) ?_  -- 39 := binOp ('geq',) 3 ('tmp', 35) ('tmp', 38) 3
    refine R.pickF rfl ?_  -- 40 := pick ('tmp', 34) ('const', ('bool', ('true',))) ('tmp', 39)
    refine R.nil ?_
    refine E.condT rfl ?_  -- cond t40
    refine E.seq ?_
    refine E.regionP rfl ?_  -- region 7
    refine R.build build54_0 rfl ?_  -- 41 := build 54 []
    refine R.storeA t54 hB6 rfl rfl rfl rfl (ones2 rfl rfl) nofun ?_  -- None := store 54 ('tmp', 6) ('tmp', 41)
    intro w5 hU5 hs5 hN5
    replace hB3 := hB3.up hU5 (fun h => ne3_6 h)
    replace hE := hE.own hU5 hb6
    replace hB6 : Blk _ b6 54 #[.slice none 0 0, .int .i64 0] := hN5
    clear hN5
    refine R.assign ?_  -- 7 := assign ('const', ('int', ('i64',), 6))
    refine R.nil ?_
    refine E.ret ?_
    refine retA1 (.int .i64 6) t54 hB6 rfl rfl rfl rfl ⟨_, rfl, hE, ?_⟩  -- return 0 path 
    rw [show putR xss h b s = ([], 0, 6) by simp only [putR, hF]; rw [if_neg (by rw [hR]; simp; omega), if_neg (by simp), if_pos (by omega)]]
    exact RRes.zero
  · have hr0 : findV xss b = .tuple #[.int .i64 0, .int .i64 0, .bool false] := by simp [findV, hF]
    obtain ⟨a, rfl⟩ : ∃ a : Nat, s = a := ⟨s.toNat, by omega⟩
    have hal : a < xss.length := by omega
    have hxa := hx _ (List.getElem_mem hal)
    have hga : xss.getD a [] = xss[a] := by simp [hal]
    have hRH := (rightB_true.1 hR).2.2.2.2.1 _ (List.getElem_mem hal)
    refine calls_E (args := [.agg #[v, .int .i64 h], .int .i64 b, .int .i64 (a : Nat)]) 65 Try.func60 rfl rfl (by simp) ?_
    have hE : Ext w w := Upd.refl w
    refine E.seq ?_
    refine E.regionP rfl ?_  -- region 0
    refine R.box rfl nofun ?_  -- 3 := box 54 ('tmp', 0)
    intro b3 w1 hb3 hx1 hB3
    replace hb3 := Nat.le_trans hE.size hb3
    replace hE := hE.ext hx1
    replace hB3 : Blk _ b3 54 #[v, .int .i64 h] := hB3
    refine R.alloc t54 nofun ?_  -- 6 := alloc 54
    intro b6 w2 hb6 hx2 hB6
    have ne3_6 : b3 ≠ b6 := by have := hB3.lt; omega
    replace hb6 := Nat.le_trans hE.size hb6
    replace hB3 := hB3.ext hx2
    replace hE := hE.ext hx2
    replace hB6 : Blk _ b6 54 #[.slice none 0 0, .int .i64 0] := hB6
    refine R.assign ?_  -- 7 := assign ('const', ('int', ('i64',), 0))
    refine R.nil ?_
    refine E.seq ?_
    refine E.seq ?_
    refine E.regionP rfl ?_  -- region 1
    refine R.loadA t54 hB3 rfl rfl rfl trivial ?_  -- 11 := load 54 ('tmp', 3)
    refine R.callE1 ent55 (rRight _ (hm.ext hE) hl hx) rfl nofun ?_  -- 12 := call {'callee': ('value', ('func', 55)), 'args': [('tmp', 11)], 'argTypes': [54]}
    rintro v12 w3 hx3 rfl
    rw [hR]
    replace hB3 := hB3.ext hx3
    replace hB6 := hB6.ext hx3
    replace hE := hE.ext hx3
    refine R.not rfl ?_  -- 13 := unOp ('not',) 4 ('tmp', 12)
    refine R.move ?_  -- 14 := move ('tmp', 13)
    refine R.gT rfl rfl ?_
    refine R.move ?_  -- 15 := move ('tmp', 1)
    refine R.gT rfl rfl ?_
    refine R.lss (b := false) rfl rfl (decide_eq_false (by omega)) ?_  -- 16 := binOp ('lss',) 3 ('tmp', 15) ('const', ('int', ('i64',), 1)) 3
    refine R.pickF rfl ?_  -- 17 := pick ('tmp', 14) ('const', ('bool', ('true',))) ('tmp', 16)
    refine R.move ?_  -- 18 := move ('tmp', 17)
    refine R.gT rfl rfl ?_
    refine R.move ?_  -- 19 := move ('tmp', 1)
    refine R.gT rfl rfl ?_
    refine R.gtr (b := false) rfl rfl (decide_eq_false (by omega)) ?_  -- 20 := binOp ('gtr',) 3 ('tmp', 19) ('const', ('int', ('i64',), 999999)) 3
    refine R.pickF rfl ?_  -- 21 := pick ('tmp', 18) ('const', ('bool', ('true',))) ('tmp', 20)
    refine R.nil ?_
    refine E.condF rfl ?_  -- cond t21
    refine E.skip ?_
    refine E.seq ?_
    refine E.regionP rfl ?_  -- region 3
    refine R.loadA t54 hB3 rfl rfl rfl trivial ?_  -- 24 := load 54 ('tmp', 3)
    refine R.move ?_  -- 25 := move ('tmp', 1)
    refine R.callE2 ent52 (rFindE _ (hm.ext hE) (by omega) hxL hr0) rfl rfl nofun ?_  -- 26 := call {'callee': ('value', ('func', 52)), 'args': [('tmp', 24), ('tmp', 25)], 'argTypes': [54, 3]}
    rintro v26 w4 hx4 rfl
    replace hB3 := hB3.ext hx4
    replace hB6 := hB6.ext hx4
    replace hE := hE.ext hx4
    refine R.move ?_  -- 23 := move ('tmp', 26)
    refine R.extract rfl rfl ?_  -- 27 := extract ('tmp', 23) 0
    refine R.extract rfl rfl ?_  -- 28 := extract ('tmp', 23) 1
    refine R.extract rfl rfl ?_  -- 29 := extract ('tmp', 23) 2
    refine R.assign ?_  -- 8 := assign ('tmp', 27)
    refine R.assign ?_  -- 9 := assign ('tmp', 28)
    refine R.assign ?_  -- 10 := assign ('tmp', 29)
    refine R.nil ?_
    refine E.seq ?_
    refine E.seq ?_
    refine E.regionP rfl ?_  -- region 4
    refine R.move ?_  -- 30 := move ('tmp', 10)
    refine R.nil ?_
    refine E.condF rfl ?_  -- cond t30
    refine E.skip ?_
    refine E.seq ?_
    refine E.seq ?_
    refine E.regionP rfl ?_  -- region 6
    refine R.move ?_  -- 32 := move ('tmp', 2)
    refine R.lss (b := false) rfl rfl (decide_eq_false (by omega)) ?_  -- 33 := binOp ('lss',) 3 ('tmp', 32) ('const', ('int', ('i64',), 0)) 3
    refine R.move ?_  -- 34 := move ('tmp', 33)
    refine R.gT rfl rfl ?_
    refine R.move ?_  -- 35 := move ('tmp', 2)
    refine R.gT rfl rfl ?_
    refine R.fld fa54_0 rfl ?_  -- 36 := fieldAddr 54 ('tmp', 3) 0
    refine R.gT rfl rfl ?_
    refine R.loadB t22 hB3 rfl rfl rfl trivial ?_  -- 37 := load 22 ('tmp', 36)
    refine R.gT rfl rfl ?_
    refine R.len Try.underlying22 hm.row rfl ?_  -- 38 := call {'callee': ('builtin', ('len',)), 'args': [('tmp', 37)], 'argTypes': [22]}
    refine R.gT rfl rfl ?_
    refine R.geq (b := false) rfl rfl (decide_eq_false (by omega)) ?_  -- 39 := binOp ('geq',) 3 ('tmp', 35) ('tmp', 38) 3
    refine R.pickF rfl ?_  -- 40 := pick ('tmp', 34) ('const', ('bool', ('true',))) ('tmp', 39)
    refine R.nil ?_
    refine E.condF rfl ?_  -- cond t40
    refine E.skip ?_
    refine E.seq ?_
    refine E.seq ?_
    refine E.regionW allS [] mixed rfl (by kernel_rfl) ?_  -- region 8
    intro w5 hx5 hh5
    replace hB3 := hB3.ext hx5
    replace hB6 := hB6.ext hx5
    replace hE := hE.ext hx5
    refine R.fld fa54_0 rfl ?_  -- 42 := fieldAddr 54 ('tmp', 3) 0
    refine R.loadB t22 hB3 rfl rfl rfl trivial ?_  -- 43 := load 22 ('tmp', 42)
    refine R.move ?_  -- 44 := move ('tmp', 2)
    refine R.ix Try.underlying22 t35 (by decide) hm.row rfl rfl hal ?_  -- 45 := indexAddr 22 ('tmp', 43) ('tmp', 44)
    obtain ⟨u46, hu46, hr46⟩ := hm.get a (by omega)
    refine R.ld t35 (hm.row.ext hE) rfl hu46 rfl (fun _ _ => trivial) ?_  -- 46 := load 35 ('tmp', 45)
    refine R.len Try.underlying35 hr46 rfl ?_  -- 47 := call {'callee': ('builtin', ('len',)), 'args': [('tmp', 46)], 'argTypes': [35]}
    refine R.fld fa54_1 rfl ?_  -- 48 := fieldAddr 54 ('tmp', 3) 1
    refine R.loadB t3 hB3 rfl rfl rfl trivial ?_  -- 49 := load 3 ('tmp', 48)
    refine R.geq rfl rfl rfl ?_  -- 50 := binOp ('geq',) 3 ('tmp', 47) ('tmp', 49) 3
    refine R.nil ?_
    refine E.cond rfl (fun hc50 => ?_) (fun hc50 => ?_)  -- cond t50
    · replace hc50 := dT hc50
      refine E.seq ?_
      refine E.regionP rfl ?_  -- region 9
      refine R.build build54_0 rfl ?_  -- 51 := build 54 []
      refine R.storeA t54 hB6 rfl rfl rfl rfl (ones2 rfl rfl) nofun ?_  -- None := store 54 ('tmp', 6) ('tmp', 51)
      intro w6 hU6 hs6 hN6
      replace hB3 := hB3.up hU6 (fun h => ne3_6 h)
      replace hE := hE.own hU6 hb6
      replace hB6 : Blk _ b6 54 #[.slice none 0 0, .int .i64 0] := hN6
      clear hN6
      refine R.assign ?_  -- 7 := assign ('const', ('int', ('i64',), 4))
      refine R.nil ?_
      refine E.ret ?_
      refine retA1 (.int .i64 4) t54 hB6 rfl rfl rfl rfl ⟨_, rfl, hE, ?_⟩  -- return 0 path T
      rw [show putR xss h b a = ([], 0, 4) by simp only [putR, hF]; rw [if_neg (by rw [hR]; simp; omega), if_neg (by simp), if_neg (by omega), Int.toNat_natCast, hga, if_pos (by omega)]]
      exact RRes.zero
    · replace hc50 := dF hc50
      refine E.skip ?_
      refine E.seq ?_
      have hW0 := hE.size
      refine E.regionF (fun c x => x < w5.heap.size ∧ (c = false → x ≠ b6)) [] [] mixed rfl (by kernel_rfl) (fun _ _ h => h.1) ?_  -- region 10
      intro w7 hx7 hh7
      replace hB3 := hB3.ext hx7
      replace hB6 := hB6.ext hx7
      replace hE := hE.ext hx7
      have hEs : Ext w7 w7 := Upd.refl _
      have hS0 := hx7.size
      have hSB : ∀ b, b < w7.heap.size → b < w5.heap.size ∧ (true = false → (fun x => x ≠ b6) b) := fun b hb => ⟨by rw [hh7] at hb; exact hb, nofun⟩
      have hSA : ∀ b, b < w7.heap.size → (fun x => x ≠ b6) b → b < w5.heap.size ∧ (false = false → (fun x => x ≠ b6) b) := fun b hb h => ⟨by rw [hh7] at hb; exact hb, fun _ => h⟩
      have hSO : ∀ b, b < w.heap.size → b < w5.heap.size ∧ (false = false → (fun x => x ≠ b6) b) := fun b hb => hSA b (Nat.lt_of_lt_of_le hb hE.size) (fun e => by omega)
      have hB3s := hB3
      have hB6s := hB6
      refine G.q rfl (Nat.le_of_ble_eq_true rfl) ?_
      refine R.loadA t54 (hB3s.ext hEs) rfl rfl rfl (hSA b3 hB3s.lt (ne3_6)) ?_  -- 52 := load 54 ('tmp', 3)
      refine R.nil ?_
      refine G.q rfl (Nat.le_of_ble_eq_true rfl) ?_
      refine R.move ?_  -- 53 := move ('tmp', 2)
      refine R.nil ?_
      refine G.buildSlice [] Try.underlying35 t3 rfl rfl (by simp) (by simp) ?_  -- 54 := buildSlice 35 0 []
      intro w8 b54 K8 hx8 hb54 hn54 hK8 hk54 hS54
      have hn054 := hb54
      replace hb54 := Nat.le_trans hW0 hb54
      replace hB3 := hB3.ext hx8
      replace hB6 := hB6.ext hx8
      replace hE := hE.ext hx8
      replace hEs := hEs.ext hx8
      refine G.q rfl (Nat.le_of_ble_eq_true rfl) ?_
      refine R.fld fa54_0 rfl ?_  -- 55 := fieldAddr 54 ('tmp', 3) 0
      refine R.nil ?_
      refine G.q rfl (Nat.le_of_ble_eq_true rfl) ?_
      refine R.loadB t22 (hB3s.ext hEs) rfl rfl rfl (hSA b3 hB3s.lt (ne3_6)) ?_  -- 56 := load 22 ('tmp', 55)
      refine R.nil ?_
      refine G.q rfl (Nat.le_of_ble_eq_true rfl) ?_
      refine R.move ?_  -- 57 := move ('tmp', 2)
      refine R.nil ?_
      refine G.q rfl (Nat.le_of_ble_eq_true rfl) ?_
      refine R.ix Try.underlying22 t35 (by decide) hm.row rfl rfl hal ?_  -- 58 := indexAddr 22 ('tmp', 56) ('tmp', 57)
      refine R.nil ?_
      refine G.q rfl (Nat.le_of_ble_eq_true rfl) ?_
      obtain ⟨u59, hu59, hr59⟩ := hm.get a (by omega)
      refine R.ldE t35 hm.row hE rfl hu59 rfl hSO ?_  -- 59 := load 35 ('tmp', 58)
      refine R.nil ?_
      refine G.l rfl rfl (.inr rfl) (Nat.le_of_ble_eq_true rfl) ?_
      intro w9 hx9
      replace hS54 := hS54.ext hx9
      replace hB3 := hB3.ext hx9
      replace hB6 := hB6.ext hx9
      replace hE := hE.ext hx9
      replace hEs := hEs.ext hx9
      have hz60 := Nat.le_trans hS0 hEs.size  -- 60 := call {'callee': ('builtin', ('append',)), 'args': [('tmp', 54), ('tmp', 59)], 'argTypes': [35, 35]}
      refine R.append (m := xss[a].length) Try.underlying35 Try.underlying35 t3 (by decide) rfl hS54 (hr59.ext hE) ints_one rfl rfl (by simp; omega) (by simp; omega) (fun _ b hb => ⟨G.S1_lt (fun _ _ h => h.1) (Nat.le_trans hS0 hEs.size) hb, fun e => by simp [vblk] at e; subst e; exact G.S1_new (fun _ _ h => h.1) hn054 hk54 hb⟩) ?_
      intro v60 w60 hU60 hS60 hd60
      have hy60 := hEs.trans hU60 (fun b hb h => by simp [vblk] at h; subst h; rw [hh7] at hb; omega)
      clear hS54
      replace hE := hE.trans hU60 (fun b hb h => by simp [vblk] at h; omega)
      replace hEs := hy60
      replace hB3 := hB3s.ext hy60
      replace hB6 := hB6s.ext hy60
      have hR60 : SInts _ v60 xss[a] := SInts.of0 hS60 rfl
      clear hS60
      refine R.nil ⟨hU60.size, ?_⟩
      intro K9 hK9 hN9
      replace hk54 := hK9 _ hk54
      have hv60 : ∀ b, vblk v60 = some b → _ ≤ b ∧ K9 b := fun b e => by
        rcases hd60 with ⟨h1, _⟩ | ⟨b', h1, h2, _⟩
        · rw [h1] at e; simp [vblk] at e; subst e; exact ⟨hn054, hk54⟩
        · rw [h1] at e; simp at e; subst e; exact ⟨Nat.le_trans hz60 h2, hN9 _ h2 (Sl.blk_lt hR60 h1)⟩
      clear hd60
      refine G.q rfl (Nat.le_of_ble_eq_true rfl) ?_
      refine R.move ?_  -- 61 := move ('tmp', 1)
      refine R.nil ?_
      refine G.buildSlice [.int .i64 b] Try.underlying35 t3 rfl rfl (by simp [Value.cells]) (by simp) ?_  -- 62 := buildSlice 35 1 [('tup', 0, ('tmp', 61))]
      intro w10 b62 K10 hx10 hb62 hn62 hK10 hk62 hS62
      replace hk54 := hK10 _ hk54
      replace hv60 := fun b e => And.intro (hv60 b e).1 (hK10 _ (hv60 b e).2)
      have hn062 := hb62
      replace hb62 := Nat.le_trans hW0 hb62
      replace hR60 := hR60.ext hx10
      replace hB3 := hB3.ext hx10
      replace hB6 := hB6.ext hx10
      replace hE := hE.ext hx10
      replace hEs := hEs.ext hx10
      refine G.l rfl rfl (.inr rfl) (Nat.le_of_ble_eq_true rfl) ?_
      intro w11 hx11
      replace hR60 := hR60.ext hx11
      replace hS62 := hS62.ext hx11
      replace hB3 := hB3.ext hx11
      replace hB6 := hB6.ext hx11
      replace hE := hE.ext hx11
      replace hEs := hEs.ext hx11
      refine R.append (m := 1) Try.underlying35 Try.underlying35 t3 (by decide) rfl hR60 hS62.row (by simp [cellsOf, Value.cells, Value.oneCell']) rfl rfl (by omega) (by omega) (fun _ b hb => ⟨G.S1_lt (fun _ _ h => h.1) (Nat.le_trans hS0 hEs.size) hb, fun e => G.S1_new (fun _ _ h => h.1) (hv60 b e).1 (hv60 b e).2 hb⟩) ?_  -- 63 := call {'callee': ('builtin', ('append',)), 'args': [('tmp', 60), ('tmp', 62)], 'argTypes': [35, 35]}
      intro v63 w63 hU63 hS63 hd63
      replace hB3 := hB3.upS hU63 hR60 (by decide)
      replace hB6 := hB6.upS hU63 hR60 (by decide)
      replace hE := hE.trans hU63 (fun b hb h => by have := (hv60 b h).1; omega)
      replace hEs := hEs.trans hU63 (fun b hb h => by have := (hv60 b h).1; rw [hh7] at hb; omega)
      have hR63 : SInts _ v63 (xss[a] ++ [b]) := SInts.app (ys := [b]) (m := 1) (by simpa [cellsOf, Value.cells, ints] using hS63) rfl
      clear hS63 hd63 hR60 hS62
      refine R.nil ⟨hU63.size, ?_⟩
      intro K11 hK11 hN11
      replace hk54 := hK11 _ hk54
      replace hk62 := hK11 _ hk62
      replace hv60 := fun b e => And.intro (hv60 b e).1 (hK11 _ (hv60 b e).2)
      refine G.l rfl rfl (.inr rfl) (Nat.le_of_ble_eq_true rfl) ?_
      intro w12 hx12
      replace hR63 := hR63.ext hx12
      replace hB3 := hB3.ext hx12
      replace hB6 := hB6.ext hx12
      replace hE := hE.ext hx12
      replace hEs := hEs.ext hx12
      refine R.callE3 ent68 (rWith _ (hm.ext hE) hR63.row (by omega) hxL (by simp; omega)) rfl rfl rfl (fun _ _ hb => G.S1_lt (fun _ _ h => h.1) (Nat.le_trans hS0 hEs.size) hb) ?_  -- 64 := call {'callee': ('value', ('func', 68)), 'args': [('tmp', 52), ('tmp', 53), ('tmp', 63)], 'argTypes': [54, 3, 35]}
      rintro v64 w13 hx13 ⟨u64, us64, rfl, hM64, hf64⟩
      replace hR63 := hR63.ext hx13
      replace hB3 := hB3.ext hx13
      replace hB6 := hB6.ext hx13
      replace hE := hE.ext hx13
      replace hEs := hEs.ext hx13
      refine R.nil ⟨hx13.size, ?_⟩
      intro K12 hK12 hN12
      replace hk54 := hK12 _ hk54
      replace hk62 := hK12 _ hk62
      replace hv60 := fun b e => And.intro (hv60 b e).1 (hK12 _ (hv60 b e).2)
      refine G.l rfl rfl (.inr rfl) (Nat.le_of_ble_eq_true rfl) ?_
      intro w14 hx14
      replace hR63 := hR63.ext hx14
      replace hM64 := hM64.ext hx14
      replace hB3 := hB3.ext hx14
      replace hB6 := hB6.ext hx14
      replace hE := hE.ext hx14
      replace hEs := hEs.ext hx14
      refine R.storeA t54 hB6 rfl rfl rfl rfl (ones2 hM64.outer.one rfl) (fun _ h => G.S1_old (by have h1 := hB6s.lt; rw [hh7] at h1; exact h1) (fun h => h.2 rfl rfl) h) ?_  -- None := store 54 ('tmp', 6) ('tmp', 64)
      intro w90 hU90 hs90 hN90
      replace hM64 := hM64.upT hU90 hB6 (by decide)
      replace hE := hE.own hU90 hb6
      replace hB6 : Blk _ b6 54 #[u64, .int .i64 h] := hN90
      refine R.nil ⟨hU90.size, ?_⟩
      intro K14 hK14 hN14
      replace hk54 := hK14 _ hk54
      replace hk62 := hK14 _ hk62
      replace hv60 := fun b e => And.intro (hv60 b e).1 (hK14 _ (hv60 b e).2)
      refine G.q rfl (Nat.le_of_ble_eq_true rfl) ?_
      refine R.assign ?_  -- 7 := assign ('const', ('int', ('i64',), 0))
      refine R.nil ?_
      refine G.nil ?_
      refine E.ret ?_
      refine retA1 (.int .i64 0) t54 hB6 rfl rfl rfl rfl ⟨_, rfl, hE, ?_⟩  -- return 1 path F
      rw [show putR xss h b a = (xss.set a (xss[a] ++ [b]), h, 0) by simp only [putR, hF]; rw [if_neg (by rw [hR]; simp; omega), if_neg (by simp), if_neg (by omega), Int.toNat_natCast, hga, if_neg (by omega)]]
      rw [withL_set hal] at hM64
      exact ⟨_, _, rfl, hM64⟩

end Go.Proofs.Ytfdmndkoiheebaa
