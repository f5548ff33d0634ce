/- Put, example -/
import Derived.Test.YtfdmndkoiheebaaC3
namespace Go.Proofs.Ytfdmndkoiheebaa
open Go Go.RowKit

set_option maxHeartbeats 1600000 in
theorem yPut (w : World) {v : Value} {h b s : Int} {us : List Value} {xss : List (List Int)} (hm : Mat w v us xss) (hl : xss.length < 1000000) (hx : ∀ xs ∈ xss, xs.length < 1000000) :
    Calls Try.prog 26 #[.agg #[v, .int .i64 h], .int .i64 b, .int .i64 s] w (Ret fun r w' => Ext w w' ∧ YRes w w' r (putR xss h b s)) := by
  rcases (show rightB xss h = false ∨ (rightB xss h = true ∧ b < 1) ∨ (rightB xss h = true ∧ 1 ≤ b ∧ 999999 < b) ∨ (rightB xss h = true ∧ 1 ≤ b ∧ b ≤ 999999 ∧ ∃ i k, findL xss b = some (i, k)) ∨ (rightB xss h = true ∧ 1 ≤ b ∧ b ≤ 999999 ∧ findL xss b = none ∧ s < 0) ∨ (rightB xss h = true ∧ 1 ≤ b ∧ b ≤ 999999 ∧ findL xss b = none ∧ 0 ≤ s ∧ (xss.length : Int) ≤ s) ∨ (rightB xss h = true ∧ 1 ≤ b ∧ b ≤ 999999 ∧ findL xss b = none ∧ 0 ≤ s ∧ s < xss.length) by
      cases hR : rightB xss h
      · exact .inl rfl
      · rcases hF : findL xss b with _ | ⟨i, k⟩
        · simp; omega
        · by_cases h1 : b < 1
          · exact .inr (.inl ⟨rfl, h1⟩)
          · by_cases h2 : 999999 < b
            · exact .inr (.inr (.inl ⟨rfl, by omega, h2⟩))
            · exact .inr (.inr (.inr (.inl ⟨rfl, by omega, by omega, i, k, rfl⟩)))) with hR | ⟨hR, hb⟩ | ⟨hR, hb1, hb⟩ | ⟨hR, hb1, hb, i, k, hF⟩ | ⟨hR, hb1, hb, hF, hs⟩ | ⟨hR, hb1, hb, hF, hs0, hs⟩ | ⟨hR, hb1, hb, hF, hs0, hs⟩
  · refine calls_E (args := [.agg #[v, .int .i64 h], .int .i64 b, .int .i64 s]) 71 Try.func26 rfl rfl (by simp) ?_
    have hE : Ext w w := Upd.refl w
    refine E.seq ?_
    refine E.regionP rfl ?_  -- region 0
    refine R.box rfl nofun ?_  -- 3 := box 24 ('tmp', 0)
    intro b3 w1 hb3 hx1 hB3
    replace hb3 := Nat.le_trans hE.size hb3
    replace hE := hE.ext hx1
    replace hB3 : Blk _ b3 24 #[v, .int .i64 h] := hB3
    refine R.alloc t24 nofun ?_  -- 6 := alloc 24
    intro b6 w2 hb6 hx2 hB6
    have ne3_6 : b3 ≠ b6 := by have := hB3.lt; omega
    replace hb6 := Nat.le_trans hE.size hb6
    replace hB3 := hB3.ext hx2
    replace hE := hE.ext hx2
    replace hB6 : Blk _ b6 24 #[.slice none 0 0, .int .i64 0] := hB6
    refine R.assign ?_  -- 7 := assign ('const', ('int', ('i64',), 0))
    refine R.nil ?_
    refine E.seq ?_
    refine E.seq ?_
    refine E.regionP rfl ?_  -- region 1
    refine R.loadA t24 hB3 rfl rfl rfl trivial ?_  -- 12 := load 24 ('tmp', 3)
    refine R.callE1 ent27 (right _ (hm.ext hE) hl hx) rfl nofun ?_  -- 13 := call {'callee': ('value', ('func', 27)), 'args': [('tmp', 12)], 'argTypes': [24]}
    rintro v13 w3 hx3 rfl
    rw [hR]
    replace hB3 := hB3.ext hx3
    replace hB6 := hB6.ext hx3
    replace hE := hE.ext hx3
    refine R.not rfl ?_  -- 14 := unOp ('not',) 4 ('tmp', 13)
    refine R.move ?_  -- 15 := move ('tmp', 14)
    refine R.gF rfl rfl rfl ?_  -- 16 := move ('tmp', 1)
    refine R.gF rfl rfl rfl ?_  -- 17 := binOp ('lss',) 3 ('tmp', 16) ('const', ('int', ('i64',), 1)) 3
    refine R.pickT rfl ?_  -- 18 := pick ('tmp', 15) ('const', ('bool', ('true',))) ('tmp', 17)
    refine R.move ?_  -- 19 := move ('tmp', 18)
    refine R.gF rfl rfl rfl ?_  -- 20 := move ('tmp', 1)
    refine R.gF rfl rfl rfl ?_  -- 21 := binOp ('gtr',) 3 ('tmp', 20) ('const', ('int', ('i64',), 999999)) 3
    refine R.pickT rfl ?_  -- 22 := pick ('tmp', 19) ('const', ('bool', ('true',))) ('tmp', 21)
    refine R.nil ?_
    refine E.condT rfl ?_  -- cond t22
    refine E.seq ?_
    refine E.regionP rfl ?_  -- region 2
    refine R.build build24_0 rfl ?_  -- 23 := build 24 []
    refine R.storeA t24 hB6 rfl rfl rfl rfl (ones2 rfl rfl) nofun ?_  -- None := store 24 ('tmp', 6) ('tmp', 23)
    intro w4 hU4 hs4 hN4
    replace hB3 := hB3.up hU4 (fun h => ne3_6 h)
    replace hE := hE.own hU4 hb6
    replace hB6 : Blk _ b6 24 #[.slice none 0 0, .int .i64 0] := hN4
    clear hN4
    refine R.assign ?_  -- 7 := assign ('const', ('int', ('i64',), 2))
    refine R.nil ?_
    refine E.ret ?_
    refine retA1 (.int .i64 2) t24 hB6 rfl rfl rfl rfl ⟨_, rfl, hE, ?_⟩  -- return 0 path 
    rw [show putR xss h b s = ([], 0, 2) by simp [putR, hR]]
    exact YRes.zero
  · refine calls_E (args := [.agg #[v, .int .i64 h], .int .i64 b, .int .i64 s]) 71 Try.func26 rfl rfl (by simp) ?_
    have hE : Ext w w := Upd.refl w
    refine E.seq ?_
    refine E.regionP rfl ?_  -- region 0
    refine R.box rfl nofun ?_  -- 3 := box 24 ('tmp', 0)
    intro b3 w1 hb3 hx1 hB3
    replace hb3 := Nat.le_trans hE.size hb3
    replace hE := hE.ext hx1
    replace hB3 : Blk _ b3 24 #[v, .int .i64 h] := hB3
    refine R.alloc t24 nofun ?_  -- 6 := alloc 24
    intro b6 w2 hb6 hx2 hB6
    have ne3_6 : b3 ≠ b6 := by have := hB3.lt; omega
    replace hb6 := Nat.le_trans hE.size hb6
    replace hB3 := hB3.ext hx2
    replace hE := hE.ext hx2
    replace hB6 : Blk _ b6 24 #[.slice none 0 0, .int .i64 0] := hB6
    refine R.assign ?_  -- 7 := assign ('const', ('int', ('i64',), 0))
    refine R.nil ?_
    refine E.seq ?_
    refine E.seq ?_
    refine E.regionP rfl ?_  -- region 1
    refine R.loadA t24 hB3 rfl rfl rfl trivial ?_  -- 12 := load 24 ('tmp', 3)
    refine R.callE1 ent27 (right _ (hm.ext hE) hl hx) rfl nofun ?_  -- 13 := call {'callee': ('value', ('func', 27)), 'args': [('tmp', 12)], 'argTypes': [24]}
    rintro v13 w3 hx3 rfl
    rw [hR]
    replace hB3 := hB3.ext hx3
    replace hB6 := hB6.ext hx3
    replace hE := hE.ext hx3
    refine R.not rfl ?_  -- 14 := unOp ('not',) 4 ('tmp', 13)
    refine R.move ?_  -- 15 := move ('tmp', 14)
    refine R.gT rfl rfl ?_
    refine R.move ?_  -- 16 := move ('tmp', 1)
    refine R.gT rfl rfl ?_
    refine R.lss (b := true) rfl rfl (decide_eq_true hb) ?_  -- 17 := binOp ('lss',) 3 ('tmp', 16) ('const', ('int', ('i64',), 1)) 3
    refine R.pickF rfl ?_  -- 18 := pick ('tmp', 15) ('const', ('bool', ('true',))) ('tmp', 17)
    refine R.move ?_  -- 19 := move ('tmp', 18)
    refine R.gF rfl rfl rfl ?_  -- 20 := move ('tmp', 1)
    refine R.gF rfl rfl rfl ?_  -- 21 := binOp ('gtr',) 3 ('tmp', 20) ('const', ('int', ('i64',), 999999)) 3
    refine R.pickT rfl ?_  -- 22 := pick ('tmp', 19) ('const', ('bool', ('true',))) ('tmp', 21)
    refine R.nil ?_
    refine E.condT rfl ?_  -- cond t22
    refine E.seq ?_
    refine E.regionP rfl ?_  -- region 2
    refine R.build build24_0 rfl ?_  -- 23 := build 24 []
    refine R.storeA t24 hB6 rfl rfl rfl rfl (ones2 rfl rfl) nofun ?_  -- None := store 24 ('tmp', 6) ('tmp', 23)
    intro w4 hU4 hs4 hN4
    replace hB3 := hB3.up hU4 (fun h => ne3_6 h)
    replace hE := hE.own hU4 hb6
    replace hB6 : Blk _ b6 24 #[.slice none 0 0, .int .i64 0] := hN4
    clear hN4
    refine R.assign ?_  -- 7 := assign ('const', ('int', ('i64',), 2))
    refine R.nil ?_
    refine E.ret ?_
    refine retA1 (.int .i64 2) t24 hB6 rfl rfl rfl rfl ⟨_, rfl, hE, ?_⟩  -- return 0 path 
    rw [show putR xss h b s = ([], 0, 2) by simp [putR, hb]]
    exact YRes.zero
  · refine calls_E (args := [.agg #[v, .int .i64 h], .int .i64 b, .int .i64 s]) 71 Try.func26 rfl rfl (by simp) ?_
    have hE : Ext w w := Upd.refl w
    refine E.seq ?_
    refine E.regionP rfl ?_  -- region 0
    refine R.box rfl nofun ?_  -- 3 := box 24 ('tmp', 0)
    intro b3 w1 hb3 hx1 hB3
    replace hb3 := Nat.le_trans hE.size hb3
    replace hE := hE.ext hx1
    replace hB3 : Blk _ b3 24 #[v, .int .i64 h] := hB3
    refine R.alloc t24 nofun ?_  -- 6 := alloc 24
    intro b6 w2 hb6 hx2 hB6
    have ne3_6 : b3 ≠ b6 := by have := hB3.lt; omega
    replace hb6 := Nat.le_trans hE.size hb6
    replace hB3 := hB3.ext hx2
    replace hE := hE.ext hx2
    replace hB6 : Blk _ b6 24 #[.slice none 0 0, .int .i64 0] := hB6
    refine R.assign ?_  -- 7 := assign ('const', ('int', ('i64',), 0))
    refine R.nil ?_
    refine E.seq ?_
    refine E.seq ?_
    refine E.regionP rfl ?_  -- region 1
    refine R.loadA t24 hB3 rfl rfl rfl trivial ?_  -- 12 := load 24 ('tmp', 3)
    refine R.callE1 ent27 (right _ (hm.ext hE) hl hx) rfl nofun ?_  -- 13 := call {'callee': ('value', ('func', 27)), 'args': [('tmp', 12)], 'argTypes': [24]}
    rintro v13 w3 hx3 rfl
    rw [hR]
    replace hB3 := hB3.ext hx3
    replace hB6 := hB6.ext hx3
    replace hE := hE.ext hx3
    refine R.not rfl ?_  -- 14 := unOp ('not',) 4 ('tmp', 13)
    refine R.move ?_  -- 15 := move ('tmp', 14)
    refine R.gT rfl rfl ?_
    refine R.move ?_  -- 16 := move ('tmp', 1)
    refine R.gT rfl rfl ?_
    refine R.lss (b := false) rfl rfl (decide_eq_false (by omega)) ?_  -- 17 := binOp ('lss',) 3 ('tmp', 16) ('const', ('int', ('i64',), 1)) 3
    refine R.pickF rfl ?_  -- 18 := pick ('tmp', 15) ('const', ('bool', ('true',))) ('tmp', 17)
    refine R.move ?_  -- 19 := move ('tmp', 18)
    refine R.gT rfl rfl ?_
    refine R.move ?_  -- 20 := move ('tmp', 1)
    refine R.gT rfl rfl ?_
    refine R.gtr (b := true) rfl rfl (decide_eq_true hb) ?_  -- 21 := binOp ('gtr',) 3 ('tmp', 20) ('const', ('int', ('i64',), 999999)) 3
    refine R.pickF rfl ?_  -- 22 := pick ('tmp', 19) ('const', ('bool', ('true',))) ('tmp', 21)
    refine R.nil ?_
    refine E.condT rfl ?_  -- cond t22
    refine E.seq ?_
    refine E.regionP rfl ?_  -- region 2
    refine R.build build24_0 rfl ?_  -- 23 := build 24 []
    refine R.storeA t24 hB6 rfl rfl rfl rfl (ones2 rfl rfl) nofun ?_  -- None := store 24 ('tmp', 6) ('tmp', 23)
    intro w4 hU4 hs4 hN4
    replace hB3 := hB3.up hU4 (fun h => ne3_6 h)
    replace hE := hE.own hU4 hb6
    replace hB6 : Blk _ b6 24 #[.slice none 0 0, .int .i64 0] := hN4
    clear hN4
    refine R.assign ?_  -- 7 := assign ('const', ('int', ('i64',), 2))
    refine R.nil ?_
    refine E.ret ?_
    refine retA1 (.int .i64 2) t24 hB6 rfl rfl rfl rfl ⟨_, rfl, hE, ?_⟩  -- return 0 path 
    rw [show putR xss h b s = ([], 0, 2) by simp [putR, hb]]
    exact YRes.zero
  · refine calls_E (args := [.agg #[v, .int .i64 h], .int .i64 b, .int .i64 s]) 71 Try.func26 rfl rfl (by simp) ?_
    have hE : Ext w w := Upd.refl w
    refine E.seq ?_
    refine E.regionP rfl ?_  -- region 0
    refine R.box rfl nofun ?_  -- 3 := box 24 ('tmp', 0)
    intro b3 w1 hb3 hx1 hB3
    replace hb3 := Nat.le_trans hE.size hb3
    replace hE := hE.ext hx1
    replace hB3 : Blk _ b3 24 #[v, .int .i64 h] := hB3
    refine R.alloc t24 nofun ?_  -- 6 := alloc 24
    intro b6 w2 hb6 hx2 hB6
    have ne3_6 : b3 ≠ b6 := by have := hB3.lt; omega
    replace hb6 := Nat.le_trans hE.size hb6
    replace hB3 := hB3.ext hx2
    replace hE := hE.ext hx2
    replace hB6 : Blk _ b6 24 #[.slice none 0 0, .int .i64 0] := hB6
    refine R.assign ?_  -- 7 := assign ('const', ('int', ('i64',), 0))
    refine R.nil ?_
    refine E.seq ?_
    refine E.seq ?_
    refine E.regionP rfl ?_  -- region 1
    refine R.loadA t24 hB3 rfl rfl rfl trivial ?_  -- 12 := load 24 ('tmp', 3)
    refine R.callE1 ent27 (right _ (hm.ext hE) hl hx) rfl nofun ?_  -- 13 := call {'callee': ('value', ('func', 27)), 'args': [('tmp', 12)], 'argTypes': [24]}
    rintro v13 w3 hx3 rfl
    rw [hR]
    replace hB3 := hB3.ext hx3
    replace hB6 := hB6.ext hx3
    replace hE := hE.ext hx3
    refine R.not rfl ?_  -- 14 := unOp ('not',) 4 ('tmp', 13)
    refine R.move ?_  -- 15 := move ('tmp', 14)
    refine R.gT rfl rfl ?_
    refine R.move ?_  -- 16 := move ('tmp', 1)
    refine R.gT rfl rfl ?_
    refine R.lss (b := false) rfl rfl (decide_eq_false (by omega)) ?_  -- 17 := binOp ('lss',) 3 ('tmp', 16) ('const', ('int', ('i64',), 1)) 3
    refine R.pickF rfl ?_  -- 18 := pick ('tmp', 15) ('const', ('bool', ('true',))) ('tmp', 17)
    refine R.move ?_  -- 19 := move ('tmp', 18)
    refine R.gT rfl rfl ?_
    refine R.move ?_  -- 20 := move ('tmp', 1)
    refine R.gT rfl rfl ?_
    refine R.gtr (b := false) rfl rfl (decide_eq_false (by omega)) ?_  -- 21 := binOp ('gtr',) 3 ('tmp', 20) ('const', ('int', ('i64',), 999999)) 3
    refine R.pickF rfl ?_  -- 22 := pick ('tmp', 19) ('const', ('bool', ('true',))) ('tmp', 21)
    refine R.nil ?_
    refine E.condF rfl ?_  -- cond t22
    refine E.skip ?_
    refine E.seq ?_
    refine E.regionP rfl ?_  -- region 3
    refine R.loadA t24 hB3 rfl rfl rfl trivial ?_  -- 25 := load 24 ('tmp', 3)
    refine R.move ?_  -- 26 := move ('tmp', 1)
    refine R.callE2 ent23 (find _ (hm.ext hE) hl hx) rfl rfl nofun ?_  -- 27 := call {'callee': ('value', ('func', 23)), 'args': [('tmp', 25), ('tmp', 26)], 'argTypes': [24, 3]}
    rintro v27 w4 hx4 rfl
    simp only [findV, hF]
    replace hB3 := hB3.ext hx4
    replace hB6 := hB6.ext hx4
    replace hE := hE.ext hx4
    refine R.move ?_  -- 24 := move ('tmp', 27)
    refine R.extract rfl rfl ?_  -- 28 := extract ('tmp', 24) 0
    refine R.extract rfl rfl ?_  -- 29 := extract ('tmp', 24) 1
    refine R.extract rfl rfl ?_  -- 30 := extract ('tmp', 24) 2
    refine R.assign ?_  -- 8 := assign ('tmp', 28)
    refine R.assign ?_  -- 9 := assign ('tmp', 29)
    refine R.assign ?_  -- 10 := assign ('tmp', 30)
    refine R.nil ?_
    refine E.seq ?_
    refine E.block ?_  -- block 0
    refine E.seq ?_
    refine E.regionP rfl ?_  -- region 4
    refine R.move ?_  -- 32 := move ('tmp', 10)
    refine R.assign ?_  -- 31 := assign ('tmp', 32)
    refine R.nil ?_
    refine E.condT rfl ?_  -- cond t31
    refine E.seq ?_
    refine E.regionP rfl ?_  -- region 5
    refine R.build build24_0 rfl ?_  -- 33 := build 24 []
    refine R.storeA t24 hB6 rfl rfl rfl rfl (ones2 rfl rfl) nofun ?_  -- None := store 24 ('tmp', 6) ('tmp', 33)
    intro w5 hU5 hs5 hN5
    replace hB3 := hB3.up hU5 (fun h => ne3_6 h)
    replace hE := hE.own hU5 hb6
    replace hB6 : Blk _ b6 24 #[.slice none 0 0, .int .i64 0] := hN5
    clear hN5
    refine R.assign ?_  -- 7 := assign ('const', ('int', ('i64',), 343))
    refine R.nil ?_
    refine E.ret ?_
    refine retA1 (.int .i64 343) t24 hB6 rfl rfl rfl rfl ⟨_, rfl, hE, ?_⟩  -- return 0 path 
    rw [show putR xss h b s = ([], 0, 343) by simp only [putR, hF]; rw [if_neg (by rw [hR]; simp; omega), if_pos (by rfl)]]
    exact YRes.zero
  · refine calls_E (args := [.agg #[v, .int .i64 h], .int .i64 b, .int .i64 s]) 71 Try.func26 rfl rfl (by simp) ?_
    have hE : Ext w w := Upd.refl w
    refine E.seq ?_
    refine E.regionP rfl ?_  -- region 0
    refine R.box rfl nofun ?_  -- 3 := box 24 ('tmp', 0)
    intro b3 w1 hb3 hx1 hB3
    replace hb3 := Nat.le_trans hE.size hb3
    replace hE := hE.ext hx1
    replace hB3 : Blk _ b3 24 #[v, .int .i64 h] := hB3
    refine R.alloc t24 nofun ?_  -- 6 := alloc 24
    intro b6 w2 hb6 hx2 hB6
    have ne3_6 : b3 ≠ b6 := by have := hB3.lt; omega
    replace hb6 := Nat.le_trans hE.size hb6
    replace hB3 := hB3.ext hx2
    replace hE := hE.ext hx2
    replace hB6 : Blk _ b6 24 #[.slice none 0 0, .int .i64 0] := hB6
    refine R.assign ?_  -- 7 := assign ('const', ('int', ('i64',), 0))
    refine R.nil ?_
    refine E.seq ?_
    refine E.seq ?_
    refine E.regionP rfl ?_  -- region 1
    refine R.loadA t24 hB3 rfl rfl rfl trivial ?_  -- 12 := load 24 ('tmp', 3)
    refine R.callE1 ent27 (right _ (hm.ext hE) hl hx) rfl nofun ?_  -- 13 := call {'callee': ('value', ('func', 27)), 'args': [('tmp', 12)], 'argTypes': [24]}
    rintro v13 w3 hx3 rfl
    rw [hR]
    replace hB3 := hB3.ext hx3
    replace hB6 := hB6.ext hx3
    replace hE := hE.ext hx3
    refine R.not rfl ?_  -- 14 := unOp ('not',) 4 ('tmp', 13)
    refine R.move ?_  -- 15 := move ('tmp', 14)
    refine R.gT rfl rfl ?_
    refine R.move ?_  -- 16 := move ('tmp', 1)
    refine R.gT rfl rfl ?_
    refine R.lss (b := false) rfl rfl (decide_eq_false (by omega)) ?_  -- 17 := binOp ('lss',) 3 ('tmp', 16) ('const', ('int', ('i64',), 1)) 3
    refine R.pickF rfl ?_  -- 18 := pick ('tmp', 15) ('const', ('bool', ('true',))) ('tmp', 17)
    refine R.move ?_  -- 19 := move ('tmp', 18)
    refine R.gT rfl rfl ?_
    refine R.move ?_  -- 20 := move ('tmp', 1)
    refine R.gT rfl rfl ?_
    refine R.gtr (b := false) rfl rfl (decide_eq_false (by omega)) ?_  -- 21 := binOp ('gtr',) 3 ('tmp', 20) ('const', ('int', ('i64',), 999999)) 3
    refine R.pickF rfl ?_  -- 22 := pick ('tmp', 19) ('const', ('bool', ('true',))) ('tmp', 21)
    refine R.nil ?_
    refine E.condF rfl ?_  -- cond t22
    refine E.skip ?_
    refine E.seq ?_
    refine E.regionP rfl ?_  -- region 3
    refine R.loadA t24 hB3 rfl rfl rfl trivial ?_  -- 25 := load 24 ('tmp', 3)
    refine R.move ?_  -- 26 := move ('tmp', 1)
    refine R.callE2 ent23 (find _ (hm.ext hE) hl hx) rfl rfl nofun ?_  -- 27 := call {'callee': ('value', ('func', 23)), 'args': [('tmp', 25), ('tmp', 26)], 'argTypes': [24, 3]}
    rintro v27 w4 hx4 rfl
    simp only [findV, hF]
    replace hB3 := hB3.ext hx4
    replace hB6 := hB6.ext hx4
    replace hE := hE.ext hx4
    refine R.move ?_  -- 24 := move ('tmp', 27)
    refine R.extract rfl rfl ?_  -- 28 := extract ('tmp', 24) 0
    refine R.extract rfl rfl ?_  -- 29 := extract ('tmp', 24) 1
    refine R.extract rfl rfl ?_  -- 30 := extract ('tmp', 24) 2
    refine R.assign ?_  -- 8 := assign ('tmp', 28)
    refine R.assign ?_  -- 9 := assign ('tmp', 29)
    refine R.assign ?_  -- 10 := assign ('tmp', 30)
    refine R.nil ?_
    refine E.seq ?_
    refine E.block ?_  -- block 0
    refine E.seq ?_
    refine E.regionP rfl ?_  -- region 4
    refine R.move ?_  -- 32 := move ('tmp', 10)
    refine R.assign ?_  -- 31 := assign ('tmp', 32)
    refine R.nil ?_
    refine E.condF rfl ?_  -- cond t31
    refine E.seq ?_
    refine E.regionP rfl ?_  -- region 6
    refine R.move ?_  -- 35 := move ('tmp', 2)
    refine R.lss (b := true) rfl rfl (decide_eq_true hs) ?_  -- 36 := binOp ('lss',) 3 ('tmp', 35) ('const', ('int', ('i64',), 0)) 3
    refine R.move ?_  -- 37 := move ('tmp', 36)
    refine R.gF rfl rfl rfl ?_  -- 38 := move ('tmp', 2)
    refine R.gF rfl rfl rfl ?_  -- 39 := fieldAddr 24 ('tmp', 3) 0
    refine R.gF rfl rfl rfl ?_  -- 40 := load 22 ('tmp', 39)
    refine R.gF rfl rfl rfl ?_  -- 41 := call {'callee': ('builtin', ('len',)), 'args': [('tmp', 40)], 'argTypes': [22]}
    refine R.gF rfl rfl rfl ?_  -- 42 := binOp ('geq',) 3 ('tmp', 38) ('tmp', 41) 3
    refine R.pickT rfl ?_  -- 43 := pick ('tmp', 37) ('const', ('bool', ('true',))) ('tmp', 42)
    refine R.assign ?_  -- 34 := assign ('tmp', 43)
    refine R.nil ?_
    refine E.condT rfl ?_  -- cond t34
    refine E.seq ?_
    refine E.regionP rfl ?_  -- region 7
    refine R.build build24_0 rfl ?_  -- 44 := build 24 []
    refine R.storeA t24 hB6 rfl rfl rfl rfl (ones2 rfl rfl) nofun ?_  -- None := store 24 ('tmp', 6) ('tmp', 44)
    intro w5 hU5 hs5 hN5
    replace hB3 := hB3.up hU5 (fun h => ne3_6 h)
    replace hE := hE.own hU5 hb6
    replace hB6 : Blk _ b6 24 #[.slice none 0 0, .int .i64 0] := hN5
    clear hN5
    refine R.assign ?_  -- 7 := assign ('const', ('int', ('i64',), 6))
    refine R.nil ?_
    refine E.ret ?_
    refine retA1 (.int .i64 6) t24 hB6 rfl rfl rfl rfl ⟨_, rfl, hE, ?_⟩  -- return 0 path 
    rw [show putR xss h b s = ([], 0, 6) by simp only [putR, hF]; rw [if_neg (by rw [hR]; simp; omega), if_neg (by simp), if_pos (by omega)]]
    exact YRes.zero
  · refine calls_E (args := [.agg #[v, .int .i64 h], .int .i64 b, .int .i64 s]) 71 Try.func26 rfl rfl (by simp) ?_
    have hE : Ext w w := Upd.refl w
    refine E.seq ?_
    refine E.regionP rfl ?_  -- region 0
    refine R.box rfl nofun ?_  -- 3 := box 24 ('tmp', 0)
    intro b3 w1 hb3 hx1 hB3
    replace hb3 := Nat.le_trans hE.size hb3
    replace hE := hE.ext hx1
    replace hB3 : Blk _ b3 24 #[v, .int .i64 h] := hB3
    refine R.alloc t24 nofun ?_  -- 6 := alloc 24
    intro b6 w2 hb6 hx2 hB6
    have ne3_6 : b3 ≠ b6 := by have := hB3.lt; omega
    replace hb6 := Nat.le_trans hE.size hb6
    replace hB3 := hB3.ext hx2
    replace hE := hE.ext hx2
    replace hB6 : Blk _ b6 24 #[.slice none 0 0, .int .i64 0] := hB6
    refine R.assign ?_  -- 7 := assign ('const', ('int', ('i64',), 0))
    refine R.nil ?_
    refine E.seq ?_
    refine E.seq ?_
    refine E.regionP rfl ?_  -- region 1
    refine R.loadA t24 hB3 rfl rfl rfl trivial ?_  -- 12 := load 24 ('tmp', 3)
    refine R.callE1 ent27 (right _ (hm.ext hE) hl hx) rfl nofun ?_  -- 13 := call {'callee': ('value', ('func', 27)), 'args': [('tmp', 12)], 'argTypes': [24]}
    rintro v13 w3 hx3 rfl
    rw [hR]
    replace hB3 := hB3.ext hx3
    replace hB6 := hB6.ext hx3
    replace hE := hE.ext hx3
    refine R.not rfl ?_  -- 14 := unOp ('not',) 4 ('tmp', 13)
    refine R.move ?_  -- 15 := move ('tmp', 14)
    refine R.gT rfl rfl ?_
    refine R.move ?_  -- 16 := move ('tmp', 1)
    refine R.gT rfl rfl ?_
    refine R.lss (b := false) rfl rfl (decide_eq_false (by omega)) ?_  -- 17 := binOp ('lss',) 3 ('tmp', 16) ('const', ('int', ('i64',), 1)) 3
    refine R.pickF rfl ?_  -- 18 := pick ('tmp', 15) ('const', ('bool', ('true',))) ('tmp', 17)
    refine R.move ?_  -- 19 := move ('tmp', 18)
    refine R.gT rfl rfl ?_
    refine R.move ?_  -- 20 := move ('tmp', 1)
    refine R.gT rfl rfl ?_
    refine R.gtr (b := false) rfl rfl (decide_eq_false (by omega)) ?_  -- 21 := binOp ('gtr',) 3 ('tmp', 20) ('const', ('int', ('i64',), 999999)) 3
    refine R.pickF rfl ?_  -- 22 := pick ('tmp', 19) ('const', ('bool', ('true',))) ('tmp', 21)
    refine R.nil ?_
    refine E.condF rfl ?_  -- cond t22
    refine E.skip ?_
    refine E.seq ?_
    refine E.regionP rfl ?_  -- region 3
    refine R.loadA t24 hB3 rfl rfl rfl trivial ?_  -- 25 := load 24 ('tmp', 3)
    refine R.move ?_  -- 26 := move ('tmp', 1)
    refine R.callE2 ent23 (find _ (hm.ext hE) hl hx) rfl rfl nofun ?_  -- 27 := call {'callee': ('value', ('func', 23)), 'args': [('tmp', 25), ('tmp', 26)], 'argTypes': [24, 3]}
    rintro v27 w4 hx4 rfl
    simp only [findV, hF]
    replace hB3 := hB3.ext hx4
    replace hB6 := hB6.ext hx4
    replace hE := hE.ext hx4
    refine R.move ?_  -- 24 := move ('tmp', 27)
    refine R.extract rfl rfl ?_  -- 28 := extract ('tmp', 24) 0
    refine R.extract rfl rfl ?_  -- 29 := extract ('tmp', 24) 1
    refine R.extract rfl rfl ?_  -- 30 := extract ('tmp', 24) 2
    refine R.assign ?_  -- 8 := assign ('tmp', 28)
    refine R.assign ?_  -- 9 := assign ('tmp', 29)
    refine R.assign ?_  -- 10 := assign ('tmp', 30)
    refine R.nil ?_
    refine E.seq ?_
    refine E.block ?_  -- block 0
    refine E.seq ?_
    refine E.regionP rfl ?_  -- region 4
    refine R.move ?_  -- 32 := move ('tmp', 10)
    refine R.assign ?_  -- 31 := assign ('tmp', 32)
    refine R.nil ?_
    refine E.condF rfl ?_  -- cond t31
    refine E.seq ?_
    refine E.regionP rfl ?_  -- region 6
    refine R.move ?_  -- 35 := move ('tmp', 2)
    refine R.lss (b := false) rfl rfl (decide_eq_false (by omega)) ?_  -- 36 := binOp ('lss',) 3 ('tmp', 35) ('const', ('int', ('i64',), 0)) 3
    refine R.move ?_  -- 37 := move ('tmp', 36)
    refine R.gT rfl rfl ?_
    refine R.move ?_  -- 38 := move ('tmp', 2)
    refine R.gT rfl rfl ?_
    refine R.fld fa24_0 rfl ?_  -- 39 := fieldAddr 24 ('tmp', 3) 0
    refine R.gT rfl rfl ?_
    refine R.loadB t22 hB3 rfl rfl rfl trivial ?_  -- 40 := load 22 ('tmp', 39)
    refine R.gT rfl rfl ?_
    refine R.len Try.underlying22 hm.row rfl ?_  -- 41 := call {'callee': ('builtin', ('len',)), 'args': [('tmp', 40)], 'argTypes': [22]}
    refine R.gT rfl rfl ?_
    refine R.geq (b := true) rfl rfl (decide_eq_true (by omega)) ?_  -- 42 := binOp ('geq',) 3 ('tmp', 38) ('tmp', 41) 3
    refine R.pickF rfl ?_  -- 43 := pick ('tmp', 37) ('const', ('bool', ('true',))) ('tmp', 42)
    refine R.assign ?_  -- 34 := assign ('tmp', 43)
    refine R.nil ?_
    refine E.condT rfl ?_  -- cond t34
    refine E.seq ?_
    refine E.regionP rfl ?_  -- region 7
    refine R.build build24_0 rfl ?_  -- 44 := build 24 []
    refine R.storeA t24 hB6 rfl rfl rfl rfl (ones2 rfl rfl) nofun ?_  -- None := store 24 ('tmp', 6) ('tmp', 44)
    intro w5 hU5 hs5 hN5
    replace hB3 := hB3.up hU5 (fun h => ne3_6 h)
    replace hE := hE.own hU5 hb6
    replace hB6 : Blk _ b6 24 #[.slice none 0 0, .int .i64 0] := hN5
    clear hN5
    refine R.assign ?_  -- 7 := assign ('const', ('int', ('i64',), 6))
    refine R.nil ?_
    refine E.ret ?_
    refine retA1 (.int .i64 6) t24 hB6 rfl rfl rfl rfl ⟨_, rfl, hE, ?_⟩  -- return 0 path 
    rw [show putR xss h b s = ([], 0, 6) by simp only [putR, hF]; rw [if_neg (by rw [hR]; simp; omega), if_neg (by simp), if_pos (by omega)]]
    exact YRes.zero
  · obtain ⟨H, rfl, hH0, hH6, hl30, hl1, hxH⟩ := rightB_nat hR
    obtain ⟨a, rfl⟩ : ∃ a : Nat, s = a := ⟨s.toNat, by omega⟩
    have hal : a < xss.length := by omega
    have hxa := hxH _ (List.getElem_mem hal)
    have hga : xss.getD a [] = xss[a] := by simp [hal]
    refine calls_E (args := [.agg #[v, .int .i64 H], .int .i64 b, .int .i64 (a : Nat)]) 71 Try.func26 rfl rfl (by simp) ?_
    have hE : Ext w w := Upd.refl w
    refine E.seq ?_
    refine E.regionP rfl ?_  -- region 0
    refine R.box rfl nofun ?_  -- 3 := box 24 ('tmp', 0)
    intro b3 w1 hb3 hx1 hB3
    replace hb3 := Nat.le_trans hE.size hb3
    replace hE := hE.ext hx1
    replace hB3 : Blk _ b3 24 #[v, .int .i64 H] := hB3
    refine R.alloc t24 nofun ?_  -- 6 := alloc 24
    intro b6 w2 hb6 hx2 hB6
    have ne3_6 : b3 ≠ b6 := by have := hB3.lt; omega
    replace hb6 := Nat.le_trans hE.size hb6
    replace hB3 := hB3.ext hx2
    replace hE := hE.ext hx2
    replace hB6 : Blk _ b6 24 #[.slice none 0 0, .int .i64 0] := hB6
    refine R.assign ?_  -- 7 := assign ('const', ('int', ('i64',), 0))
    refine R.nil ?_
    refine E.seq ?_
    refine E.seq ?_
    refine E.regionP rfl ?_  -- region 1
    refine R.loadA t24 hB3 rfl rfl rfl trivial ?_  -- 12 := load 24 ('tmp', 3)
    refine R.callE1 ent27 (right _ (hm.ext hE) hl hx) rfl nofun ?_  -- 13 := call {'callee': ('value', ('func', 27)), 'args': [('tmp', 12)], 'argTypes': [24]}
    rintro v13 w3 hx3 rfl
    rw [hR]
    replace hB3 := hB3.ext hx3
    replace hB6 := hB6.ext hx3
    replace hE := hE.ext hx3
    refine R.not rfl ?_  -- 14 := unOp ('not',) 4 ('tmp', 13)
    refine R.move ?_  -- 15 := move ('tmp', 14)
    refine R.gT rfl rfl ?_
    refine R.move ?_  -- 16 := move ('tmp', 1)
    refine R.gT rfl rfl ?_
    refine R.lss (b := false) rfl rfl (decide_eq_false (by omega)) ?_  -- 17 := binOp ('lss',) 3 ('tmp', 16) ('const', ('int', ('i64',), 1)) 3
    refine R.pickF rfl ?_  -- 18 := pick ('tmp', 15) ('const', ('bool', ('true',))) ('tmp', 17)
    refine R.move ?_  -- 19 := move ('tmp', 18)
    refine R.gT rfl rfl ?_
    refine R.move ?_  -- 20 := move ('tmp', 1)
    refine R.gT rfl rfl ?_
    refine R.gtr (b := false) rfl rfl (decide_eq_false (by omega)) ?_  -- 21 := binOp ('gtr',) 3 ('tmp', 20) ('const', ('int', ('i64',), 999999)) 3
    refine R.pickF rfl ?_  -- 22 := pick ('tmp', 19) ('const', ('bool', ('true',))) ('tmp', 21)
    refine R.nil ?_
    refine E.condF rfl ?_  -- cond t22
    refine E.skip ?_
    refine E.seq ?_
    refine E.regionP rfl ?_  -- region 3
    refine R.loadA t24 hB3 rfl rfl rfl trivial ?_  -- 25 := load 24 ('tmp', 3)
    refine R.move ?_  -- 26 := move ('tmp', 1)
    refine R.callE2 ent23 (find _ (hm.ext hE) hl hx) rfl rfl nofun ?_  -- 27 := call {'callee': ('value', ('func', 23)), 'args': [('tmp', 25), ('tmp', 26)], 'argTypes': [24, 3]}
    rintro v27 w4 hx4 rfl
    simp only [findV, hF]
    replace hB3 := hB3.ext hx4
    replace hB6 := hB6.ext hx4
    replace hE := hE.ext hx4
    refine R.move ?_  -- 24 := move ('tmp', 27)
    refine R.extract rfl rfl ?_  -- 28 := extract ('tmp', 24) 0
    refine R.extract rfl rfl ?_  -- 29 := extract ('tmp', 24) 1
    refine R.extract rfl rfl ?_  -- 30 := extract ('tmp', 24) 2
    refine R.assign ?_  -- 8 := assign ('tmp', 28)
    refine R.assign ?_  -- 9 := assign ('tmp', 29)
    refine R.assign ?_  -- 10 := assign ('tmp', 30)
    refine R.nil ?_
    refine E.seq ?_
    refine E.block ?_  -- block 0
    refine E.seq ?_
    refine E.regionP rfl ?_  -- region 4
    refine R.move ?_  -- 32 := move ('tmp', 10)
    refine R.assign ?_  -- 31 := assign ('tmp', 32)
    refine R.nil ?_
    refine E.condF rfl ?_  -- cond t31
    refine E.seq ?_
    refine E.regionP rfl ?_  -- region 6
    refine R.move ?_  -- 35 := move ('tmp', 2)
    refine R.lss (b := false) rfl rfl (decide_eq_false (by omega)) ?_  -- 36 := binOp ('lss',) 3 ('tmp', 35) ('const', ('int', ('i64',), 0)) 3
    refine R.move ?_  -- 37 := move ('tmp', 36)
    refine R.gT rfl rfl ?_
    refine R.move ?_  -- 38 := move ('tmp', 2)
    refine R.gT rfl rfl ?_
    refine R.fld fa24_0 rfl ?_  -- 39 := fieldAddr 24 ('tmp', 3) 0
    refine R.gT rfl rfl ?_
    refine R.loadB t22 hB3 rfl rfl rfl trivial ?_  -- 40 := load 22 ('tmp', 39)
    refine R.gT rfl rfl ?_
    refine R.len Try.underlying22 hm.row rfl ?_  -- 41 := call {'callee': ('builtin', ('len',)), 'args': [('tmp', 40)], 'argTypes': [22]}
    refine R.gT rfl rfl ?_
    refine R.geq (b := false) rfl rfl (decide_eq_false (by omega)) ?_  -- 42 := binOp ('geq',) 3 ('tmp', 38) ('tmp', 41) 3
    refine R.pickF rfl ?_  -- 43 := pick ('tmp', 37) ('const', ('bool', ('true',))) ('tmp', 42)
    refine R.assign ?_  -- 34 := assign ('tmp', 43)
    refine R.nil ?_
    refine E.condF rfl ?_  -- cond t34
    refine E.seq ?_
    refine E.regionW allS [] mixed rfl (by kernel_rfl) ?_  -- region 8
    intro w5 hx5 hh5
    replace hB3 := hB3.ext hx5
    replace hB6 := hB6.ext hx5
    replace hE := hE.ext hx5
    refine R.fld fa24_0 rfl ?_  -- 46 := fieldAddr 24 ('tmp', 3) 0
    refine R.loadB t22 hB3 rfl rfl rfl trivial ?_  -- 47 := load 22 ('tmp', 46)
    refine R.move ?_  -- 48 := move ('tmp', 2)
    refine R.ix Try.underlying22 t35 (by decide) hm.row rfl rfl hal ?_  -- 49 := indexAddr 22 ('tmp', 47) ('tmp', 48)
    obtain ⟨u50, hu50, hr50⟩ := hm.get a (by omega)
    refine R.ld t35 (hm.row.ext hE) rfl hu50 rfl (fun _ _ => trivial) ?_  -- 50 := load 35 ('tmp', 49)
    refine R.len Try.underlying35 hr50 rfl ?_  -- 51 := call {'callee': ('builtin', ('len',)), 'args': [('tmp', 50)], 'argTypes': [35]}
    refine R.fld fa24_1 rfl ?_  -- 52 := fieldAddr 24 ('tmp', 3) 1
    refine R.loadB t3 hB3 rfl rfl rfl trivial ?_  -- 53 := load 3 ('tmp', 52)
    refine R.eql rfl rfl rfl ?_  -- 54 := binOp ('eql',) 3 ('tmp', 51) ('tmp', 53) 3
    refine R.assign ?_  -- 45 := assign ('tmp', 54)
    refine R.nil ?_
    refine E.cond rfl (fun hc45 => ?_) (fun hc45 => ?_)  -- cond t45
    · replace hc45 := dT hc45
      refine E.seq ?_
      refine E.regionP rfl ?_  -- region 9
      refine R.build build24_0 rfl ?_  -- 55 := build 24 []
      refine R.storeA t24 hB6 rfl rfl rfl rfl (ones2 rfl rfl) nofun ?_  -- None := store 24 ('tmp', 6) ('tmp', 55)
      intro w6 hU6 hs6 hN6
      replace hB3 := hB3.up hU6 (fun h => ne3_6 h)
      replace hE := hE.own hU6 hb6
      replace hB6 : Blk _ b6 24 #[.slice none 0 0, .int .i64 0] := hN6
      clear hN6
      refine R.assign ?_  -- 7 := assign ('const', ('int', ('i64',), 4))
      refine R.nil ?_
      refine E.ret ?_
      refine retA1 (.int .i64 4) t24 hB6 rfl rfl rfl rfl ⟨_, rfl, hE, ?_⟩  -- return 0 path T
      rw [show putR xss H b a = ([], 0, 4) by simp only [putR, hF]; rw [if_neg (by rw [hR]; simp; omega), if_neg (by simp), if_neg (by omega), Int.toNat_natCast, hga, if_pos (by omega)]]
      exact YRes.zero
    · replace hc45 := dF hc45
      refine E.skip ?_
      refine E.seq ?_
      refine E.regionP rfl ?_  -- region 10
      refine R.loadA t24 hB3 rfl rfl rfl trivial ?_  -- 56 := load 24 ('tmp', 3)
      refine R.callE1 ent64 (copied _ (hm.ext hE) hH0 hH6 hl30 hxH) rfl nofun ?_  -- 57 := call {'callee': ('value', ('func', 64)), 'args': [('tmp', 56)], 'argTypes': [24]}
      rintro v57 w7 hx7 ⟨u57, ba57, us57, cur57, rfl, hP57, hf57, hba57⟩
      replace hf57 := hf57.mono hE.size
      replace hba57 := Nat.le_trans hE.size hba57
      replace hB3 := hB3.ext hx7
      replace hB6 := hB6.ext hx7
      replace hE := hE.ext hx7
      refine R.alloc t24 nofun ?_  -- 11 := alloc 24
      intro b11 w8 hb11 hx8 hB11
      have ne3_11 : b3 ≠ b11 := by have := hB3.lt; omega
      have ne6_11 : b6 ≠ b11 := by have := hB6.lt; omega
      replace hb11 := Nat.le_trans hE.size hb11
      replace hP57 := hP57.ext hx8
      replace hB3 := hB3.ext hx8
      replace hB6 := hB6.ext hx8
      replace hE := hE.ext hx8
      replace hB11 : Blk _ b11 24 #[.slice none 0 0, .int .i64 0] := hB11
      refine R.storeA t24 hB11 rfl rfl rfl rfl (ones2 hP57.outer.one rfl) nofun ?_  -- None := store 24 ('tmp', 11) ('tmp', 57)
      intro w9 hU9 hs9 hN9
      replace hP57 := hP57.upT hU9 hB11 (by decide)
      replace hB3 := hB3.up hU9 (fun h => ne3_11 h)
      replace hB6 := hB6.up hU9 (fun h => ne6_11 h)
      replace hE := hE.own hU9 hb11
      replace hB11 : Blk _ b11 24 #[u57, .int .i64 H] := hN9
      clear hN9
      have hue := (hP57.elems a hal).1
      have hxe := (hP57.elems a hal).2.1
      refine R.nil ?_
      refine E.seq ?_
      refine E.regionW (fun c x => x < w9.heap.size ∧ (c = false → x ≠ ba57 ∧ vblk u57 ≠ some x)) [65] mixed rfl (by kernel_rfl) ?_  -- region 11
      intro w10 hx10 hh10
      replace hP57 := hP57.ext hx10
      replace hB3 := hB3.ext hx10
      replace hB6 := hB6.ext hx10
      replace hB11 := hB11.ext hx10
      replace hE := hE.ext hx10
      have hEs : Ext w10 w10 := Upd.refl _
      have hS0 := hx10.size
      have hSB : ∀ b, b < w10.heap.size → b < w9.heap.size ∧ (true = false → (fun x => x ≠ ba57 ∧ vblk u57 ≠ some x) b) := fun b hb => ⟨by rw [hh10] at hb; exact hb, nofun⟩
      have hSA : ∀ b, b < w10.heap.size → (fun x => x ≠ ba57 ∧ vblk u57 ≠ some x) b → b < w9.heap.size ∧ (false = false → (fun x => x ≠ ba57 ∧ vblk u57 ≠ some x) b) := fun b hb h => ⟨by rw [hh10] at hb; exact hb, fun _ => h⟩
      have hP57s := hP57
      have hB3s := hB3
      have hB6s := hB6
      have hB11s := hB11
      refine R.fld fa24_0 rfl ?_  -- 58 := fieldAddr 24 ('tmp', 11) 0
      refine R.loadB t22 (hB11s.ext hEs) rfl rfl rfl (hSA b11 hB11s.lt (⟨hB11.ne hP57.all (by decide), hB11.ne_vblk hP57.outer (by decide)⟩)) ?_  -- 59 := load 22 ('tmp', 58)
      refine R.move ?_  -- 60 := move ('tmp', 2)
      refine R.fld fa24_0 rfl ?_  -- 61 := fieldAddr 24 ('tmp', 11) 0
      refine R.loadB t22 (hB11s.ext hEs) rfl rfl rfl (hSA b11 hB11s.lt (⟨hB11.ne hP57.all (by decide), hB11.ne_vblk hP57.outer (by decide)⟩)) ?_  -- 62 := load 22 ('tmp', 61)
      refine R.move ?_  -- 63 := move ('tmp', 2)
      refine R.ix Try.underlying22 t35 (by decide) hP57.outer.row rfl rfl hal ?_  -- 64 := indexAddr 22 ('tmp', 62) ('tmp', 63)
      refine R.ldE t35 hP57s.outer.row hEs rfl hue rfl hSB ?_  -- 65 := load 35 ('tmp', 64)
      refine R.move ?_  -- 66 := move ('tmp', 1)
      refine R.buildSlice [.int .i64 b] Try.underlying35 t3 rfl rfl (by simp [Value.cells]) (by simp) (fun _ _ _ hb => Nat.lt_of_lt_of_le hb.1 (Nat.le_trans hS0 hEs.size)) ?_  -- 67 := buildSlice 35 1 [('tup', 0, ('tmp', 66))]
      intro b67 w11 hb67 hx11 hB67 hS67
      replace hb67 := Nat.le_trans hE.size hb67
      replace hP57 := hP57.ext hx11
      replace hB3 := hB3.ext hx11
      replace hB6 := hB6.ext hx11
      replace hB11 := hB11.ext hx11
      replace hE := hE.ext hx11
      replace hEs := hEs.ext hx11
      refine R.appendIn Try.underlying35 Try.underlying35 t3 (by decide) (m := 1) hP57.all hS67.row (by simp [cellsOf, Value.cells, Value.oneCell']) rfl rfl (by omega) (by have := seg_le (H := H) hal; have := hP57.size; omega) (fun _ h => (h.2 rfl).1 rfl) ?_  -- 68 := call {'callee': ('builtin', ('append',)), 'args': [('tmp', 65), ('tmp', 67)], 'argTypes': [35, 35]}
      intro w68 hU68 hA hk68
      have hO := hP57.outer.upT hU68 hP57.all (by decide)
      replace hB3 := hB3.upT hU68 hP57.all (by decide)
      replace hB6 := hB6.upT hU68 hP57.all (by decide)
      replace hB11 := hB11.upT hU68 hP57.all (by decide)
      clear hS67
      replace hE := hE.trans hU68 (fun b hb h => by have : b = ba57 := h; omega)
      refine R.ix Try.underlying22 t35 (by decide) hO.row rfl rfl hal ?_  -- 69 := indexAddr 22 ('tmp', 59) ('tmp', 60)
      refine R.stE (u := .slice (some ⟨ba57, a * H, none⟩) (xss[a].length + 1) H) t35 hO rfl rfl rfl hal (fun _ x hx h => (h.2 rfl).2 hx) ?_  -- None := store 35 ('tmp', 69) ('tmp', 68)
      intro w83 hU83 hs83 hO83
      replace hA := hA.upS hU83 hO (by decide)
      replace hB3 := hB3.upS hU83 hO (by decide)
      replace hB6 := hB6.upS hU83 hO (by decide)
      replace hB11 := hB11.upS hU83 hO (by decide)
      replace hE := hE.trans hU83 (fun b hb h => by have := hf57 b h; omega)
      replace hO := hO83
      have hP1 := PY.push hP57 hal (by omega) hO (by simpa [cellsOf, Value.cells] using hA)
      clear hA hO83 hO
      refine R.nil ?_
      refine E.seq ?_
      refine E.regionP rfl ?_  -- region 12
      refine R.loadA t24 hB11 rfl rfl rfl trivial ?_  -- 70 := load 24 ('tmp', 11)
      refine R.storeA t24 hB6 rfl rfl rfl rfl (ones2 hP57.outer.one rfl) nofun ?_  -- None := store 24 ('tmp', 6) ('tmp', 70)
      intro w12 hU12 hs12 hN12
      replace hP1 := hP1.upT hU12 hB6 (by decide)
      replace hB3 := hB3.up hU12 (fun h => ne3_6 h)
      replace hB11 := hB11.up hU12 (fun h => ne6_11 h.symm)
      replace hE := hE.own hU12 hb6
      replace hB6 : Blk _ b6 24 #[u57, .int .i64 H] := hN12
      clear hN12
      refine R.assign ?_  -- 7 := assign ('const', ('int', ('i64',), 0))
      refine R.nil ?_
      refine E.ret ?_
      refine retA1 (.int .i64 0) t24 hB6 rfl rfl rfl rfl ⟨_, rfl, hE, ?_⟩  -- return 1 path F
      rw [show putR xss H b a = (xss.set a (xss[a] ++ [b]), (H : Int), 0) by simp only [putR, hF]; rw [if_neg (by rw [hR]; simp; omega), if_neg (by simp), if_neg (by omega), Int.toNat_natCast, hga, if_neg (by omega)]]
      exact ⟨_, rfl, .inr ⟨H, _, _, _, rfl, hP1, hf57, hba57⟩⟩


theorem mat3 {w : World} {v u1 u2 u3 : Value} {a b c : List Int} (h : Row w 1 v 3 [u1, u2, u3]) (h1 : Ints w u1 a) (h2 : Ints w u2 b) (h3 : Ints w u3 c) : Mat w v [u1, u2, u3] [a, b, c] := by
  refine ⟨h, fun i hi => ?_⟩
  match i, hi with
  | 0, _ => exact ⟨u1, rfl, h1⟩
  | 1, _ => exact ⟨u2, rfl, h2⟩
  | 2, _ => exact ⟨u3, rfl, h3⟩


/-- Stacks in memory of this call. -/
structure MO (w : World) (v : Value) (us : List Value) (xss : List (List Int)) : Prop where
  outer : Sl w 35 1 v xss.length us
  elems : ∀ i (h : i < xss.length), ∃ u, us[i]? = some u ∧ SInts w u xss[i]
theorem MO.mat {w : World} {v : Value} {us : List Value} {xss : List (List Int)} (h : MO w v us xss) : Mat w v us xss := ⟨h.outer.row, fun i hi => by obtain ⟨u, h1, h2⟩ := h.elems i hi; exact ⟨u, h1, h2.row⟩⟩
theorem MO.row {w : World} {v : Value} {us : List Value} {xss : List (List Int)} (h : MO w v us xss) : Row w 1 v xss.length us := h.outer.row
theorem MO.ext {w w' : World} {v : Value} {us : List Value} {xss : List (List Int)} (h : MO w v us xss) (u : Ext w w') : MO w' v us xss := ⟨h.outer.ext u, fun i hi => by obtain ⟨x, h1, h2⟩ := h.elems i hi; exact ⟨x, h1, h2.ext u⟩⟩
theorem MO.upT {w w' : World} {v : Value} {us : List Value} {xss : List (List Int)} {b : Nat} {cs : Array Value} {ty : TypeId} (h : MO w v us xss) (u : Upd (one b) w w') (hb : Blk w b ty cs) (hne : 35 ≠ ty ∧ 3 ≠ ty) : MO w' v us xss :=
  ⟨h.outer.upT u hb hne.1, fun i hi => by obtain ⟨x, h1, h2⟩ := h.elems i hi; exact ⟨x, h1, h2.upT u hb hne.2⟩⟩
theorem mo3 {w : World} {v u1 u2 u3 : Value} {a b c : List Int} (h : Sl w 35 1 v 3 [u1, u2, u3]) (h1 : SInts w u1 a) (h2 : SInts w u2 b) (h3 : SInts w u3 c) : MO w v [u1, u2, u3] [a, b, c] := by
  refine ⟨h, fun i hi => ?_⟩
  match i, hi with
  | 0, _ => exact ⟨u1, rfl, h1⟩
  | 1, _ => exact ⟨u2, rfl, h2⟩
  | 2, _ => exact ⟨u3, rfl, h3⟩

theorem example_ (w : World) :
    Calls Try.prog 57 #[] w (Ret fun r w' => Ext w w' ∧ ∃ v us, r = .agg #[v, .int .i64 3] ∧ MO w' v us [[5, 2], [7], []]) := by
  refine calls_E (args := []) 5 Try.func57 rfl rfl (by simp) ?_
  have hE : Ext w w := Upd.refl w
  refine E.seq ?_
  refine E.regionP rfl ?_  -- region 0
  refine R.alloc t24 nofun ?_  -- 0 := alloc 24
  intro b0 w1 hb0 hx1 hB0
  replace hb0 := Nat.le_trans hE.size hb0
  replace hE := hE.ext hx1
  replace hB0 : Blk _ b0 24 #[.slice none 0 0, .int .i64 0] := hB0
  refine R.nil ?_
  refine E.seq ?_
  refine E.regionP rfl ?_  -- region 1
  refine R.buildSlice [.int .i64 5, .int .i64 2] Try.underlying35 t3 rfl rfl (by simp [Value.cells]) (by simp) nofun ?_  -- 1 := buildSlice 35 2 [('tup', 0, ('const', ('int', ('i64',), 5))), ('tup', 1, ('const', ('int', ('i64',), 2)))]
  intro b1 w2 hb1 hx2 hB1 hS1
  replace hb1 := Nat.le_trans hE.size hb1
  replace hB0 := hB0.ext hx2
  replace hE := hE.ext hx2
  refine R.buildSlice [.int .i64 7] Try.underlying35 t3 rfl rfl (by simp [Value.cells]) (by simp) nofun ?_  -- 2 := buildSlice 35 1 [('tup', 0, ('const', ('int', ('i64',), 7)))]
  intro b2 w3 hb2 hx3 hB2 hS2
  replace hb2 := Nat.le_trans hE.size hb2
  replace hS1 := hS1.ext hx3
  replace hB0 := hB0.ext hx3
  replace hE := hE.ext hx3
  refine R.buildSlice [.slice (some ⟨b1, 0, none⟩) 2 2, .slice (some ⟨b2, 0, none⟩) 1 1, .slice none 0 0] Try.underlying22 t35 rfl rfl (by simp [Value.cells]) (by simp) nofun ?_  -- 3 := buildSlice 22 3 [('tup', 0, ('tmp', 1)), ('tup', 1, ('tmp', 2)), ('tup', 2, ('const', ('slice', ('none',), 0, 0)))]
  intro b3 w4 hb3 hx4 hB3 hS3
  replace hb3 := Nat.le_trans hE.size hb3
  replace hS1 := hS1.ext hx4
  replace hS2 := hS2.ext hx4
  replace hB0 := hB0.ext hx4
  replace hE := hE.ext hx4
  refine R.build (build24 hS3.one rfl) rfl ?_  -- 4 := build 24 [('tup', 0, ('tmp', 3)), ('tup', 1, ('const', ('int', ('i64',), 3)))]
  refine R.storeA t24 hB0 rfl rfl rfl rfl (ones2 hS3.one rfl) nofun ?_  -- None := store 24 ('tmp', 0) ('tmp', 4)
  intro w5 hU5 hs5 hN5
  replace hS1 := hS1.upT hU5 hB0 (by decide)
  replace hS2 := hS2.upT hU5 hB0 (by decide)
  replace hS3 := hS3.upT hU5 hB0 (by decide)
  replace hE := hE.own hU5 hb0
  replace hB0 : Blk _ b0 24 #[_, .int .i64 3] := hN5
  clear hN5
  refine R.nil ?_
  refine E.ret ?_
  exact retA t24 hB0 rfl rfl rfl ⟨_, rfl, hE, _, _, rfl, mo3 (by simpa [cellsOf, Value.cells] using hS3) (by simpa [SInts, ints, cellsOf, Value.cells] using hS1) (by simpa [SInts, ints, cellsOf, Value.cells] using hS2) (SInts.nil _)⟩  -- return 0 path 

end Go.Proofs.Ytfdmndkoiheebaa
