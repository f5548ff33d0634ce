/- Above -/
import Derived.Test.YtfdmndkoiheebaaB2
namespace Go.Proofs.Ytfdmndkoiheebaa
open Go Go.RowKit


/-- The boxes over a box, the error, as the document says. -/
def aboveL (xss : List (List Int)) (h b : Int) : List Int × Int :=
  if rightB xss h then
    match findL xss b with
    | some (i, k) => (((xss.getD i []).drop (k + 1)).reverse, 0)
    | none => ([], 6)
  else ([], 2)
theorem sum_lengths {xss : List (List Int)} {h : Int} (hr : RightP xss h) : ∀ xs ∈ xss, xs.length ≤ 6 := fun xs hx => by
  have := hr.2.2.2.2.1 xs hx
  have := hr.2.1
  omega

theorem above (w : World) {v : Value} {h b : Int} {us : List Value} {xss : List (List Int)} (hm : Mat w v us xss) (hl : xss.length < 1000000) (hx : ∀ xs ∈ xss, xs.length < 1000000) :
    Calls Try.prog 24 #[.agg #[v, .int .i64 h], .int .i64 b] w (Ret fun r w' => Ext w w' ∧ ∃ u, r = .tuple #[u, .int .i64 (aboveL xss h b).2] ∧ SInts w' u (aboveL xss h b).1 ∧ Fresh w u) := by
  cases hR : rightB xss h
  rotate_left
  rcases hF : findL xss b with _ | ⟨i, k⟩
  · refine calls_E (args := [.agg #[v, .int .i64 h], .int .i64 b]) 34 Try.func24 rfl rfl (by simp) ?_
    have hE : Ext w w := Upd.refl w
    refine E.seq ?_
    refine E.regionP rfl ?_  -- region 0
    refine R.box rfl nofun ?_  -- 2 := box 24 ('tmp', 0)
    intro b2 w1 hb2 hx1 hB2
    replace hb2 := Nat.le_trans hE.size hb2
    replace hE := hE.ext hx1
    replace hB2 : Blk _ b2 24 #[v, .int .i64 h] := hB2
    refine R.assign ?_  -- 4 := assign ('const', ('slice', ('none',), 0, 0))
    refine R.assign ?_  -- 5 := assign ('const', ('int', ('i64',), 0))
    refine R.nil ?_
    refine E.seq ?_
    refine E.seq ?_
    refine E.regionP rfl ?_  -- region 1
    refine R.loadA t24 hB2 rfl rfl rfl trivial ?_  -- 10 := load 24 ('tmp', 2)
    refine R.callE1 ent27 (right _ (hm.ext hE) hl hx) rfl nofun ?_  -- 11 := call {'callee': ('value', ('func', 27)), 'args': [('tmp', 10)], 'argTypes': [24]}
    rintro v11 w2 hx2 rfl
    rw [hR]
    replace hB2 := hB2.ext hx2
    replace hE := hE.ext hx2
    refine R.not rfl ?_  -- 12 := unOp ('not',) 4 ('tmp', 11)
    refine R.nil ?_
    refine E.condF rfl ?_  -- cond t12
    refine E.skip ?_
    refine E.seq ?_
    refine E.regionP rfl ?_  -- region 3
    refine R.loadA t24 hB2 rfl rfl rfl trivial ?_  -- 14 := load 24 ('tmp', 2)
    refine R.move ?_  -- 15 := move ('tmp', 1)
    refine R.callE2 ent23 (find _ (hm.ext hE) hl hx) rfl rfl nofun ?_  -- 16 := call {'callee': ('value', ('func', 23)), 'args': [('tmp', 14), ('tmp', 15)], 'argTypes': [24, 3]}
    rintro v16 w3 hx3 rfl
    simp only [findV, hF]
    replace hB2 := hB2.ext hx3
    replace hE := hE.ext hx3
    refine R.move ?_  -- 13 := move ('tmp', 16)
    refine R.extract rfl rfl ?_  -- 17 := extract ('tmp', 13) 0
    refine R.extract rfl rfl ?_  -- 18 := extract ('tmp', 13) 1
    refine R.extract rfl rfl ?_  -- 19 := extract ('tmp', 13) 2
    refine R.assign ?_  -- 6 := assign ('tmp', 17)
    refine R.assign ?_  -- 7 := assign ('tmp', 18)
    refine R.assign ?_  -- 8 := assign ('tmp', 19)
    refine R.nil ?_
    refine E.seq ?_
    refine E.seq ?_
    refine E.regionP rfl ?_  -- region 4
    refine R.move ?_  -- 20 := move ('tmp', 8)
    refine R.not rfl ?_  -- 21 := unOp ('not',) 4 ('tmp', 20)
    refine R.nil ?_
    refine E.condT rfl ?_  -- cond t21
    refine E.seq ?_
    refine E.regionP rfl ?_  -- region 5
    refine R.assign ?_  -- 4 := assign ('const', ('slice', ('none',), 0, 0))
    refine R.assign ?_  -- 5 := assign ('const', ('int', ('i64',), 6))
    refine R.nil ?_
    refine E.ret ?_
    refine ret2 (.slice none 0 0) (.int .i64 6) rfl rfl rfl ⟨_, rfl, hE, _, ?_, ?_, Fresh.nil w⟩  -- return 0 path 
    · simp [aboveL, hR, hF]
    · have e1 : (aboveL xss h b).1 = [] := by simp [aboveL, hR, hF]
      rw [e1]; exact SInts.nil _
  · refine calls_E (args := [.agg #[v, .int .i64 h], .int .i64 b]) 34 Try.func24 rfl rfl (by simp) ?_
    have hE : Ext w w := Upd.refl w
    refine E.seq ?_
    refine E.regionP rfl ?_  -- region 0
    refine R.box rfl nofun ?_  -- 2 := box 24 ('tmp', 0)
    intro b2 w1 hb2 hx1 hB2
    replace hb2 := Nat.le_trans hE.size hb2
    replace hE := hE.ext hx1
    replace hB2 : Blk _ b2 24 #[v, .int .i64 h] := hB2
    refine R.assign ?_  -- 4 := assign ('const', ('slice', ('none',), 0, 0))
    refine R.assign ?_  -- 5 := assign ('const', ('int', ('i64',), 0))
    refine R.nil ?_
    refine E.seq ?_
    refine E.seq ?_
    refine E.regionP rfl ?_  -- region 1
    refine R.loadA t24 hB2 rfl rfl rfl trivial ?_  -- 10 := load 24 ('tmp', 2)
    refine R.callE1 ent27 (right _ (hm.ext hE) hl hx) rfl nofun ?_  -- 11 := call {'callee': ('value', ('func', 27)), 'args': [('tmp', 10)], 'argTypes': [24]}
    rintro v11 w2 hx2 rfl
    rw [hR]
    replace hB2 := hB2.ext hx2
    replace hE := hE.ext hx2
    refine R.not rfl ?_  -- 12 := unOp ('not',) 4 ('tmp', 11)
    refine R.nil ?_
    refine E.condF rfl ?_  -- cond t12
    refine E.skip ?_
    refine E.seq ?_
    refine E.regionP rfl ?_  -- region 3
    refine R.loadA t24 hB2 rfl rfl rfl trivial ?_  -- 14 := load 24 ('tmp', 2)
    refine R.move ?_  -- 15 := move ('tmp', 1)
    refine R.callE2 ent23 (find _ (hm.ext hE) hl hx) rfl rfl nofun ?_  -- 16 := call {'callee': ('value', ('func', 23)), 'args': [('tmp', 14), ('tmp', 15)], 'argTypes': [24, 3]}
    rintro v16 w3 hx3 rfl
    simp only [findV, hF]
    replace hB2 := hB2.ext hx3
    replace hE := hE.ext hx3
    refine R.move ?_  -- 13 := move ('tmp', 16)
    refine R.extract rfl rfl ?_  -- 17 := extract ('tmp', 13) 0
    refine R.extract rfl rfl ?_  -- 18 := extract ('tmp', 13) 1
    refine R.extract rfl rfl ?_  -- 19 := extract ('tmp', 13) 2
    refine R.assign ?_  -- 6 := assign ('tmp', 17)
    refine R.assign ?_  -- 7 := assign ('tmp', 18)
    refine R.assign ?_  -- 8 := assign ('tmp', 19)
    refine R.nil ?_
    refine E.seq ?_
    refine E.seq ?_
    refine E.regionP rfl ?_  -- region 4
    refine R.move ?_  -- 20 := move ('tmp', 8)
    refine R.not rfl ?_  -- 21 := unOp ('not',) 4 ('tmp', 20)
    refine R.nil ?_
    refine E.condF rfl ?_  -- cond t21
    refine E.skip ?_
    refine E.seq ?_
    refine E.regionP rfl ?_  -- region 6
    refine R.fld fa24_0 rfl ?_  -- 22 := fieldAddr 24 ('tmp', 2) 0
    refine R.loadB t22 hB2 rfl rfl rfl trivial ?_  -- 23 := load 22 ('tmp', 22)
    refine R.move ?_  -- 24 := move ('tmp', 6)
    obtain ⟨hi, hk, hbk, hn⟩ := findL_some hF  -- 25 := indexAddr 22 ('tmp', 23) ('tmp', 24)
    refine R.ix Try.underlying22 t35 (by decide) hm.row rfl rfl hi ?_
    obtain ⟨hi, hk, hbk, hn⟩ := findL_some hF  -- 26 := load 35 ('tmp', 25)
    have hxi := hx _ (List.getElem_mem hi)
    obtain ⟨u26, hu26, hr26⟩ := hm.get i hi
    refine R.ld t35 (hm.row.ext hE) rfl hu26 rfl (fun _ _ => trivial) ?_
    refine R.move ?_  -- 27 := move ('tmp', 7)
    refine R.addN (n := 1) rfl rfl (by omega) ?_  -- 28 := binOp ('add',) 3 ('tmp', 27) ('const', ('int', ('i64',), 1)) 3
    obtain ⟨a26, c26, hv26, hc26, _⟩ := id hr26  -- 29 := slice 35 ('tmp', 26) ('some', ('tmp', 28)) ('none',) ('none',)
    refine R.slc (l := k + 1) (r := xss[i].length) Try.underlying35 t3 rfl hv26 ⟨_, rfl⟩ rfl (by omega) hc26 ?_
    refine R.callE1 ent62 (sClone _ (xs := xss[i].drop (k + 1)) (Ints.drop (hr26.ext hE) hk) (by simp; omega)) rfl nofun ?_  -- 30 := call {'callee': ('value', ('func', 62)), 'args': [('tmp', 29)], 'argTypes': [35]}
    rintro v30 w4 hx4 ⟨hS30, hf30⟩
    replace hf30 := hf30.mono hE.size
    replace hB2 := hB2.ext hx4
    replace hE := hE.ext hx4
    refine R.assign ?_  -- 9 := assign ('tmp', 30)
    refine R.nil ?_
    refine E.seq ?_
    refine E.regionP rfl ?_  -- region 7
    refine R.move ?_  -- 31 := move ('tmp', 9)
    refine R.call1 ent63 (sReverse _ hS30 (by simp; omega)) rfl ?_  -- 32 := call {'callee': ('value', ('func', 63)), 'args': [('tmp', 31)], 'argTypes': [35]}
    rintro v32 w32 ⟨rfl, hU32, hS32⟩
    refine ⟨nofun, ?_⟩
    replace hE := hE.app hU32 hf30
    refine R.nil ?_
    refine E.seq ?_
    refine E.regionP rfl ?_  -- region 8
    refine R.move ?_  -- 33 := move ('tmp', 9)
    refine R.assign ?_  -- 4 := assign ('tmp', 33)
    refine R.assign ?_  -- 5 := assign ('const', ('int', ('i64',), 0))
    refine R.nil ?_
    refine E.ret ?_
    have e1 : (aboveL xss h b).1 = (List.drop (k + 1) xss[i]).reverse := by simp [aboveL, hR, hF, hi]  -- return 0 path 
    refine ret2 v30 (.int .i64 0) rfl rfl rfl ⟨_, rfl, hE, _, ?_, ?_, hf30⟩
    · simp [aboveL, hR, hF]
    · rw [e1]; exact hS32
  · refine calls_E (args := [.agg #[v, .int .i64 h], .int .i64 b]) 34 Try.func24 rfl rfl (by simp) ?_
    have hE : Ext w w := Upd.refl w
    refine E.seq ?_
    refine E.regionP rfl ?_  -- region 0
    refine R.box rfl nofun ?_  -- 2 := box 24 ('tmp', 0)
    intro b2 w1 hb2 hx1 hB2
    replace hb2 := Nat.le_trans hE.size hb2
    replace hE := hE.ext hx1
    replace hB2 : Blk _ b2 24 #[v, .int .i64 h] := hB2
    refine R.assign ?_  -- 4 := assign ('const', ('slice', ('none',), 0, 0))
    refine R.assign ?_  -- 5 := assign ('const', ('int', ('i64',), 0))
    refine R.nil ?_
    refine E.seq ?_
    refine E.seq ?_
    refine E.regionP rfl ?_  -- region 1
    refine R.loadA t24 hB2 rfl rfl rfl trivial ?_  -- 10 := load 24 ('tmp', 2)
    refine R.callE1 ent27 (right _ (hm.ext hE) hl hx) rfl nofun ?_  -- 11 := call {'callee': ('value', ('func', 27)), 'args': [('tmp', 10)], 'argTypes': [24]}
    rintro v11 w2 hx2 rfl
    rw [hR]
    replace hB2 := hB2.ext hx2
    replace hE := hE.ext hx2
    refine R.not rfl ?_  -- 12 := unOp ('not',) 4 ('tmp', 11)
    refine R.nil ?_
    refine E.condT rfl ?_  -- cond t12
    refine E.seq ?_
    refine E.regionP rfl ?_  -- region 2
    refine R.assign ?_  -- 4 := assign ('const', ('slice', ('none',), 0, 0))
    refine R.assign ?_  -- 5 := assign ('const', ('int', ('i64',), 2))
    refine R.nil ?_
    refine E.ret ?_
    refine ret2 (.slice none 0 0) (.int .i64 2) rfl rfl rfl ⟨_, rfl, hE, _, ?_, ?_, Fresh.nil w⟩  -- return 0 path 
    · simp [aboveL, hR]
    · have e1 : (aboveL xss h b).1 = [] := by simp [aboveL, hR]
      rw [e1]; exact SInts.nil _

end Go.Proofs.Ytfdmndkoiheebaa
