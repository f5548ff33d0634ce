/- The references Find, Above, Room -/
import Derived.Test.YtfdmndkoiheebaaB5
namespace Go.Proofs.Ytfdmndkoiheebaa
open Go Go.RowKit

theorem rFind (w : World) {v : Value} {h b : Int} {us : List Value} {xss : List (List Int)} (hm : Mat w v us xss) (hl : xss.length < 1000000) (hx : ∀ xs ∈ xss, xs.length < 1000000) :
    Calls Try.prog 52 #[.agg #[v, .int .i64 h], .int .i64 b] w (Ret fun r w' => Ext w w' ∧ r = findV xss b) := by
  refine calls_E (args := [.agg #[v, .int .i64 h], .int .i64 b]) 38 Try.func52 rfl rfl (by simp) ?_
  have hE : Ext w w := Upd.refl w
  refine E.seq ?_
  refine E.regionP rfl ?_  -- region 0
  refine R.box rfl nofun ?_  -- 2 := box 54 ('tmp', 0)
  intro b2 w1 hb2 hx1 hB2
  replace hb2 := Nat.le_trans hE.size hb2
  replace hE := hE.ext hx1
  replace hB2 : Blk _ b2 54 #[v, .int .i64 h] := hB2
  refine R.assign ?_  -- 4 := assign ('const', ('int', ('i64',), 0))
  refine R.assign ?_  -- 5 := assign ('const', ('int', ('i64',), 0))
  refine R.assign ?_  -- 6 := assign ('const', ('bool', ('false',)))
  refine R.nil ?_
  refine E.seq ?_
  refine E.seq ?_
  refine E.regionP rfl ?_  -- region 1
  refine R.assign ?_  -- 7 := assign ('const', ('int', ('i64',), 0))
  refine R.nil ?_
  refine E.block ?_  -- block 0
  refine E.loop (fun n e wr => ∃ i : Nat, n = xss.length - i ∧ i ≤ xss.length ∧ Ext w wr ∧ Blk wr b2 54 #[v, .int .i64 h] ∧ (∀ xs ∈ xss.take i, b ∉ xs) ∧ Has e [(1, .int .i64 b), (2, .pointer (some ⟨b2, 0, none⟩)), (7, .int .i64 i)]) (xss.length) ?_ ?_
  · exact ⟨0, rfl, Nat.zero_le _, hE, hB2, by simp, rfl, rfl, rfl, trivial⟩
  · rintro n e wr ⟨i, rfl, hi, hE, hB2, hn, hH⟩
    obtain ⟨e, rfl⟩ := hH.ex
    clear hH
    refine E.seq ?_
    refine E.seq ?_
    refine E.regionP rfl ?_  -- region 2
    refine R.move ?_  -- 9 := move ('tmp', 7)
    refine R.fld fa54_0 rfl ?_  -- 10 := fieldAddr 54 ('tmp', 2) 0
    refine R.loadB t22 hB2 rfl rfl rfl trivial ?_  -- 11 := load 22 ('tmp', 10)
    refine R.len Try.underlying22 hm.row rfl ?_  -- 12 := call {'callee': ('builtin', ('len',)), 'args': [('tmp', 11)], 'argTypes': [22]}
    refine R.lss rfl rfl rfl ?_  -- 13 := binOp ('lss',) 3 ('tmp', 9) ('tmp', 12) 3
    refine R.nil ?_
    refine E.cond rfl (fun hc13 => ?_) (fun hc13 => ?_)  -- cond t13
    · replace hc13 := dT hc13
      refine E.skip ?_
      refine E.seq ?_
      refine E.block ?_  -- block 1
      refine E.seq ?_
      refine E.regionP rfl ?_  -- region 4
      refine R.assign ?_  -- 8 := assign ('const', ('int', ('i64',), 0))
      refine R.nil ?_
      refine E.block ?_  -- block 2
      refine E.loop (fun n e wr => ∃ k : Nat, n = xss[i].length - k ∧ k ≤ xss[i].length ∧ Ext w wr ∧ Blk wr b2 54 #[v, .int .i64 h] ∧ b ∉ xss[i].take k ∧ Has e [(1, .int .i64 b), (2, .pointer (some ⟨b2, 0, none⟩)), (7, .int .i64 i), (8, .int .i64 k)]) (xss[i].length) ?_ ?_
      · exact ⟨0, rfl, Nat.zero_le _, hE, hB2, by simp, rfl, rfl, rfl, rfl, trivial⟩
      · rintro n e wr ⟨k, rfl, hk, hE, hB2, hnk, hH⟩
        obtain ⟨e, rfl⟩ := hH.ex
        clear hH
        have hxi := hx xss[i] (List.getElem_mem _)
        refine E.seq ?_
        refine E.seq ?_
        refine E.regionP rfl ?_  -- region 5
        refine R.move ?_  -- 16 := move ('tmp', 8)
        refine R.fld fa54_0 rfl ?_  -- 17 := fieldAddr 54 ('tmp', 2) 0
        refine R.loadB t22 hB2 rfl rfl rfl trivial ?_  -- 18 := load 22 ('tmp', 17)
        refine R.move ?_  -- 19 := move ('tmp', 7)
        refine R.ix Try.underlying22 t35 (by decide) hm.row rfl rfl (by omega) ?_  -- 20 := indexAddr 22 ('tmp', 18) ('tmp', 19)
        obtain ⟨u21, hu21, hr21⟩ := hm.get i (by omega)
        refine R.ld t35 (hm.row.ext hE) rfl hu21 rfl (fun _ _ => trivial) ?_  -- 21 := load 35 ('tmp', 20)
        refine R.len Try.underlying35 hr21 rfl ?_  -- 22 := call {'callee': ('builtin', ('len',)), 'args': [('tmp', 21)], 'argTypes': [35]}
        refine R.lss rfl rfl rfl ?_  -- 23 := binOp ('lss',) 3 ('tmp', 16) ('tmp', 22) 3
        refine R.nil ?_
        refine E.cond rfl (fun hc23 => ?_) (fun hc23 => ?_)  -- cond t23
        · replace hc23 := dT hc23
          refine E.skip ?_
          refine E.seq ?_
          refine E.block ?_  -- block 3
          refine E.seq ?_
          refine E.regionP rfl ?_  -- region 7
          refine R.fld fa54_0 rfl ?_  -- 26 := fieldAddr 54 ('tmp', 2) 0
          refine R.loadB t22 hB2 rfl rfl rfl trivial ?_  -- 27 := load 22 ('tmp', 26)
          refine R.move ?_  -- 28 := move ('tmp', 7)
          refine R.ix Try.underlying22 t35 (by decide) hm.row rfl rfl (by omega) ?_  -- 29 := indexAddr 22 ('tmp', 27) ('tmp', 28)
          obtain ⟨u30, hu30, hr30⟩ := hm.get i (by omega)
          refine R.ld t35 (hm.row.ext hE) rfl hu30 rfl (fun _ _ => trivial) ?_  -- 30 := load 35 ('tmp', 29)
          refine R.move ?_  -- 31 := move ('tmp', 8)
          refine R.ix Try.underlying35 t3 (by decide) hr30 rfl rfl (by omega) ?_  -- 32 := indexAddr 35 ('tmp', 30) ('tmp', 31)
          refine R.ld t3 (hr30.ext hE) rfl (int_at (by omega)) rfl (fun _ _ => trivial) ?_  -- 33 := load 3 ('tmp', 32)
          refine R.move ?_  -- 34 := move ('tmp', 1)
          refine R.eql rfl rfl rfl ?_  -- 35 := binOp ('eql',) 3 ('tmp', 33) ('tmp', 34) 3
          refine R.nil ?_
          refine E.cond rfl (fun hc35 => ?_) (fun hc35 => ?_)  -- cond t35
          · replace hc35 := dT hc35
            refine E.seq ?_
            refine E.regionP rfl ?_  -- region 8
            refine R.move ?_  -- 36 := move ('tmp', 7)
            refine R.move ?_  -- 37 := move ('tmp', 8)
            refine R.assign ?_  -- 4 := assign ('tmp', 36)
            refine R.assign ?_  -- 5 := assign ('tmp', 37)
            refine R.assign ?_  -- 6 := assign ('const', ('bool', ('true',)))
            refine R.nil ?_
            refine E.ret ?_
            have hin : b ∈ xss[i] := hc35 ▸ List.getElem_mem _  -- return 0 path TTT
            have hi2 : xss[i].idxOf b = k := by
              have h1 := List.take_append_drop k xss[i]
              rw [← h1, List.idxOf_append, if_neg hnk, List.drop_eq_getElem_cons (by omega), hc35, List.idxOf_cons_self]
              simp; omega
            refine ret3 (.int .i64 i) (.int .i64 k) (.bool true) rfl rfl rfl rfl ⟨_, rfl, hE, ?_⟩
            simp [findV, findL_hit (by omega) hn hin, hi2]
          · replace hc35 := dF hc35
            refine E.skip ?_
            refine E.regionP rfl ?_  -- region 6
            refine R.move ?_  -- 24 := move ('tmp', 8)
            refine R.addN (n := 1) rfl rfl (by omega) ?_  -- 25 := binOp ('add',) 3 ('tmp', 24) ('const', ('int', ('i64',), 1)) 3
            refine R.assign ?_  -- 8 := assign ('tmp', 25)
            refine R.nil ?_
            refine ⟨xss[i].length - (k + 1), by omega, k + 1, rfl, by omega, hE, hB2, ?_, rfl, rfl, rfl, rfl, trivial⟩  -- round end 0 path TTF
            rw [List.take_succ_eq_append_getElem (by omega), List.mem_append]
            rintro (h1 | h1)
            · exact hnk h1
            · simp at h1; exact hc35 h1.symm
        · replace hc23 := dF hc23
          refine E.exit ?_  -- exit 2
          refine E.regionP rfl ?_  -- region 3
          refine R.move ?_  -- 14 := move ('tmp', 7)
          refine R.addN (n := 1) rfl rfl (by omega) ?_  -- 15 := binOp ('add',) 3 ('tmp', 14) ('const', ('int', ('i64',), 1)) 3
          refine R.assign ?_  -- 7 := assign ('tmp', 15)
          refine R.nil ?_
          refine ⟨xss.length - (i + 1), by omega, i + 1, rfl, by omega, hE, hB2, ?_, rfl, rfl, rfl, trivial⟩  -- round end 1 path TF
          intro xs hxs
          rw [List.take_succ_eq_append_getElem (by omega)] at hxs
          rcases List.mem_append.1 hxs with hxs | hxs
          · exact hn xs hxs
          · simp at hxs; subst hxs
            have e : k = xss[i].length := by omega
            rwa [e, List.take_length] at hnk
    · replace hc13 := dF hc13
      refine E.exit ?_  -- exit 0
      refine E.seq ?_
      refine E.regionP rfl ?_  -- region 9
      refine R.assign ?_  -- 4 := assign ('const', ('int', ('i64',), 0))
      refine R.assign ?_  -- 5 := assign ('const', ('int', ('i64',), 0))
      refine R.assign ?_  -- 6 := assign ('const', ('bool', ('false',)))
      refine R.nil ?_
      refine E.ret ?_
      refine ret3 (.int .i64 0) (.int .i64 0) (.bool false) rfl rfl rfl rfl ⟨_, rfl, hE, ?_⟩  -- return 1 path F
      obtain rfl : i = xss.length := by omega
      rw [List.take_length] at hn
      simp [findV, findL_miss hn]


theorem Blk.upS {w w' : World} {ty ty' : TypeId} {b k' : Nat} {x : Value} {m : Nat} {cs : Array Value} {ds : List Value} (h : Blk w b ty cs) (u : Upd (fun b => vblk x = some b) w w') (hx : Sl w ty' k' x m ds) (hne : ty ≠ ty') : Blk w' b ty cs := by
  refine h.up u (fun e => ?_)
  obtain ⟨a', cap', rfl, _, _, h'⟩ := hx
  rcases h' with ⟨rfl, _⟩ | ⟨b', off', cur', rfl, hb', _⟩
  · simp [vblk] at e
  · simp [vblk] at e; subst e; exact hne (h.inj hb').2

theorem rAbove (w : World) {v : Value} {h b : Int} {us : List Value} {xss : List (List Int)} (hm : Mat w v us xss) (hl : xss.length < 100000) (hx : ∀ xs ∈ xss, xs.length ≤ 10) :
    Calls Try.prog 53 #[.agg #[v, .int .i64 h], .int .i64 b] w (Ret fun r w' => Ext w w' ∧ ∃ u, r = .tuple #[u, .int .i64 (aboveL xss h b).2] ∧ SInts w' u (aboveL xss h b).1 ∧ Fresh w u) := by
  have hx6 : ∀ xs ∈ xss, xs.length < 1000000 := fun xs h => by have := hx xs h; omega
  cases hR : rightB xss h
  rotate_left
  rcases hF : findL xss b with _ | ⟨i, k⟩
  · refine calls_E (args := [.agg #[v, .int .i64 h], .int .i64 b]) 47 Try.func53 rfl rfl (by simp) ?_
    have hE : Ext w w := Upd.refl w
    refine E.seq ?_
    refine E.regionP rfl ?_  -- region 0
    refine R.box rfl nofun ?_  -- 2 := box 54 ('tmp', 0)
    intro b2 w1 hb2 hx1 hB2
    replace hb2 := Nat.le_trans hE.size hb2
    replace hE := hE.ext hx1
    replace hB2 : Blk _ b2 54 #[v, .int .i64 h] := hB2
    refine R.assign ?_  -- 4 := assign ('const', ('slice', ('none',), 0, 0))
    refine R.assign ?_  -- 5 := assign ('const', ('int', ('i64',), 0))
    refine R.nil ?_
    refine E.seq ?_
    refine E.seq ?_
    refine E.regionP rfl ?_  -- region 1
    refine R.loadA t54 hB2 rfl rfl rfl trivial ?_  -- 11 := load 54 ('tmp', 2)
    refine R.callE1 ent55 (rRight _ (hm.ext hE) hl hx) rfl nofun ?_  -- 12 := call {'callee': ('value', ('func', 55)), 'args': [('tmp', 11)], 'argTypes': [54]}
    rintro v12 w2 hx2 rfl
    rw [hR]
    replace hB2 := hB2.ext hx2
    replace hE := hE.ext hx2
    refine R.not rfl ?_  -- 13 := unOp ('not',) 4 ('tmp', 12)
    refine R.nil ?_
    refine E.condF rfl ?_  -- cond t13
    refine E.skip ?_
    refine E.seq ?_
    refine E.regionP rfl ?_  -- region 3
    refine R.loadA t54 hB2 rfl rfl rfl trivial ?_  -- 15 := load 54 ('tmp', 2)
    refine R.move ?_  -- 16 := move ('tmp', 1)
    refine R.callE2 ent52 (rFind _ (hm.ext hE) (by omega) hx6) rfl rfl nofun ?_  -- 17 := call {'callee': ('value', ('func', 52)), 'args': [('tmp', 15), ('tmp', 16)], 'argTypes': [54, 3]}
    rintro v17 w3 hx3 rfl
    simp only [findV, hF]
    replace hB2 := hB2.ext hx3
    replace hE := hE.ext hx3
    refine R.move ?_  -- 14 := move ('tmp', 17)
    refine R.extract rfl rfl ?_  -- 18 := extract ('tmp', 14) 0
    refine R.extract rfl rfl ?_  -- 19 := extract ('tmp', 14) 1
    refine R.extract rfl rfl ?_  -- 20 := extract ('tmp', 14) 2
    refine R.assign ?_  -- 6 := assign ('tmp', 18)
    refine R.assign ?_  -- 7 := assign ('tmp', 19)
    refine R.assign ?_  -- 8 := assign ('tmp', 20)
    refine R.nil ?_
    refine E.seq ?_
    refine E.seq ?_
    refine E.regionP rfl ?_  -- region 4
    refine R.move ?_  -- 21 := move ('tmp', 8)
    refine R.not rfl ?_  -- 22 := unOp ('not',) 4 ('tmp', 21)
    refine R.nil ?_
    refine E.condT rfl ?_  -- cond t22
    refine E.seq ?_
    refine E.regionP rfl ?_  -- region 5
    refine R.assign ?_  -- 4 := assign ('const', ('slice', ('none',), 0, 0))
    refine R.assign ?_  -- 5 := assign ('const', ('int', ('i64',), 6))
    refine R.nil ?_
    refine E.ret ?_
    refine ret2 (.slice none 0 0) (.int .i64 6) rfl rfl rfl ⟨_, rfl, hE, _, ?_, ?_, Fresh.nil w⟩  -- return 0 path 
    · simp [aboveL, hR, hF]
    · have e1 : (aboveL xss h b).1 = [] := by simp [aboveL, hR, hF]
      rw [e1]; exact SInts.nil _
  · refine calls_E (args := [.agg #[v, .int .i64 h], .int .i64 b]) 47 Try.func53 rfl rfl (by simp) ?_
    have hE : Ext w w := Upd.refl w
    refine E.seq ?_
    refine E.regionP rfl ?_  -- region 0
    refine R.box rfl nofun ?_  -- 2 := box 54 ('tmp', 0)
    intro b2 w1 hb2 hx1 hB2
    replace hb2 := Nat.le_trans hE.size hb2
    replace hE := hE.ext hx1
    replace hB2 : Blk _ b2 54 #[v, .int .i64 h] := hB2
    refine R.assign ?_  -- 4 := assign ('const', ('slice', ('none',), 0, 0))
    refine R.assign ?_  -- 5 := assign ('const', ('int', ('i64',), 0))
    refine R.nil ?_
    refine E.seq ?_
    refine E.seq ?_
    refine E.regionP rfl ?_  -- region 1
    refine R.loadA t54 hB2 rfl rfl rfl trivial ?_  -- 11 := load 54 ('tmp', 2)
    refine R.callE1 ent55 (rRight _ (hm.ext hE) hl hx) rfl nofun ?_  -- 12 := call {'callee': ('value', ('func', 55)), 'args': [('tmp', 11)], 'argTypes': [54]}
    rintro v12 w2 hx2 rfl
    rw [hR]
    replace hB2 := hB2.ext hx2
    replace hE := hE.ext hx2
    refine R.not rfl ?_  -- 13 := unOp ('not',) 4 ('tmp', 12)
    refine R.nil ?_
    refine E.condF rfl ?_  -- cond t13
    refine E.skip ?_
    refine E.seq ?_
    refine E.regionP rfl ?_  -- region 3
    refine R.loadA t54 hB2 rfl rfl rfl trivial ?_  -- 15 := load 54 ('tmp', 2)
    refine R.move ?_  -- 16 := move ('tmp', 1)
    refine R.callE2 ent52 (rFind _ (hm.ext hE) (by omega) hx6) rfl rfl nofun ?_  -- 17 := call {'callee': ('value', ('func', 52)), 'args': [('tmp', 15), ('tmp', 16)], 'argTypes': [54, 3]}
    rintro v17 w3 hx3 rfl
    simp only [findV, hF]
    replace hB2 := hB2.ext hx3
    replace hE := hE.ext hx3
    refine R.move ?_  -- 14 := move ('tmp', 17)
    refine R.extract rfl rfl ?_  -- 18 := extract ('tmp', 14) 0
    refine R.extract rfl rfl ?_  -- 19 := extract ('tmp', 14) 1
    refine R.extract rfl rfl ?_  -- 20 := extract ('tmp', 14) 2
    refine R.assign ?_  -- 6 := assign ('tmp', 18)
    refine R.assign ?_  -- 7 := assign ('tmp', 19)
    refine R.assign ?_  -- 8 := assign ('tmp', 20)
    refine R.nil ?_
    refine E.seq ?_
    refine E.seq ?_
    refine E.regionP rfl ?_  -- region 4
    refine R.move ?_  -- 21 := move ('tmp', 8)
    refine R.not rfl ?_  -- 22 := unOp ('not',) 4 ('tmp', 21)
    refine R.nil ?_
    refine E.condF rfl ?_  -- cond t22
    refine E.skip ?_
    refine E.seq ?_
    refine E.regionP rfl ?_  -- region 6
    refine R.assign ?_  -- 9 := assign ('const', ('slice', ('none',), 0, 0))
    refine R.nil ?_
    refine E.seq ?_
    refine E.seq ?_
    refine E.regionP rfl ?_  -- region 7
    refine R.fld fa54_0 rfl ?_  -- 23 := fieldAddr 54 ('tmp', 2) 0
    refine R.loadB t22 hB2 rfl rfl rfl trivial ?_  -- 24 := load 22 ('tmp', 23)
    refine R.move ?_  -- 25 := move ('tmp', 6)
    obtain ⟨hi, hk, hbk, hn⟩ := findL_some hF  -- 26 := indexAddr 22 ('tmp', 24) ('tmp', 25)
    have hxi := hx _ (List.getElem_mem hi)
    refine R.ix Try.underlying22 t35 (by decide) hm.row rfl rfl hi ?_
    obtain ⟨u27, hu27, hr27⟩ := hm.get i hi  -- 27 := load 35 ('tmp', 26)
    refine R.ld t35 (hm.row.ext hE) rfl hu27 rfl (fun _ _ => trivial) ?_
    refine R.len Try.underlying35 hr27 rfl ?_  -- 28 := call {'callee': ('builtin', ('len',)), 'args': [('tmp', 27)], 'argTypes': [35]}
    refine R.subN (n := 1) rfl rfl (by omega) (by omega) ?_  -- 29 := binOp ('sub',) 3 ('tmp', 28) ('const', ('int', ('i64',), 1)) 3
    refine R.assign ?_  -- 10 := assign ('tmp', 29)
    refine R.nil ?_
    refine E.block ?_  -- block 0
    refine E.loop (fun n e wr => ∃ (m : Nat) (nn : Int) (vv : Value), n = m ∧ nn = (k + m : Nat) ∧ k + m < xss[i].length ∧ Ext w wr ∧ Blk wr b2 54 #[v, .int .i64 h] ∧ SInts wr vv (xss[i].drop (k + m + 1)).reverse ∧ Fresh w vv ∧ Has e [(2, .pointer (some ⟨b2, 0, none⟩)), (6, .int .i64 i), (7, .int .i64 k), (9, vv), (10, .int .i64 nn)]) (xss[i].length - 1 - k) ?_ ?_
    · refine ⟨xss[i].length - 1 - k, _, _, rfl, rfl, by omega, hE, hB2, ?_, Fresh.nil _, rfl, rfl, rfl, rfl, ?_, trivial⟩
      · rw [List.drop_of_length_le (by omega)]; exact SInts.nil _
      · show (Value.int .i64 ((xss[i].length - 1 : Nat) : Int)) = _
        rw [show k + (xss[i].length - 1 - k) = xss[i].length - 1 by omega]
    · rintro n e wr ⟨m, nn, vv, hnm, hnn, hm1, hE, hB2, hS, hf, hH⟩
      obtain ⟨e, rfl⟩ := hH.ex
      clear hH
      obtain rfl := hnm.symm
      refine E.seq ?_
      refine E.seq ?_
      refine E.regionP rfl ?_  -- region 8
      refine R.move ?_  -- 30 := move ('tmp', 10)
      refine R.move ?_  -- 31 := move ('tmp', 7)
      refine R.gtr rfl rfl rfl ?_  -- 32 := binOp ('gtr',) 3 ('tmp', 30) ('tmp', 31) 3
      refine R.nil ?_
      refine E.cond rfl (fun hc32 => ?_) (fun hc32 => ?_)  -- cond t32
      · replace hc32 := dT hc32
        subst hnn
        refine E.skip ?_
        refine E.seq ?_
        refine E.block ?_  -- block 1
        refine E.regionP rfl ?_  -- region 10
        refine R.move ?_  -- 35 := move ('tmp', 9)
        refine R.fld fa54_0 rfl ?_  -- 36 := fieldAddr 54 ('tmp', 2) 0
        refine R.loadB t22 hB2 rfl rfl rfl trivial ?_  -- 37 := load 22 ('tmp', 36)
        refine R.move ?_  -- 38 := move ('tmp', 6)
        refine R.ix Try.underlying22 t35 (by decide) hm.row rfl rfl hi ?_  -- 39 := indexAddr 22 ('tmp', 37) ('tmp', 38)
        obtain ⟨u40, hu40, hr40⟩ := hm.get i (by omega)
        refine R.ld t35 (hm.row.ext hE) rfl hu40 rfl (fun _ _ => trivial) ?_  -- 40 := load 35 ('tmp', 39)
        refine R.move ?_  -- 41 := move ('tmp', 10)
        refine R.ix Try.underlying35 t3 (by decide) hr40 rfl rfl (by omega) ?_  -- 42 := indexAddr 35 ('tmp', 40) ('tmp', 41)
        refine R.ld t3 (hr40.ext hE) rfl (int_at (k := k + m) (by omega)) rfl (fun _ _ => trivial) ?_  -- 43 := load 3 ('tmp', 42)
        refine R.buildSlice [.int .i64 xss[i][k + m]] Try.underlying35 t3 rfl rfl (by simp [Value.cells]) (by simp) nofun ?_  -- 44 := buildSlice 35 1 [('tup', 0, ('tmp', 43))]
        intro b44 w4 hb44 hx4 hB44 hS44
        replace hb44 := Nat.le_trans hE.size hb44
        replace hS := hS.ext hx4
        replace hB2 := hB2.ext hx4
        replace hE := hE.ext hx4
        refine R.append Try.underlying35 Try.underlying35 t3 (by decide) rfl hS hS44.row (by simp [cellsOf, Value.cells, Value.oneCell']) rfl rfl (by simp; omega) (by simp; omega) nofun ?_  -- 45 := call {'callee': ('builtin', ('append',)), 'args': [('tmp', 35), ('tmp', 44)], 'argTypes': [35, 35]}
        intro v45 w45 hU45 hS45 hd45
        have hf45 := Fresh.app hE hf hd45
        replace hB2 := hB2.upS hU45 hS (by decide)
        replace hE := hE.app hU45 hf
        refine R.assign ?_  -- 9 := assign ('tmp', 45)
        refine R.nil ?_
        refine E.regionP rfl ?_  -- region 9
        refine R.move ?_  -- 33 := move ('tmp', 10)
        refine R.subN (n := 1) rfl rfl (by omega) (by omega) ?_  -- 34 := binOp ('sub',) 3 ('tmp', 33) ('const', ('int', ('i64',), 1)) 3
        refine R.assign ?_  -- 10 := assign ('tmp', 34)
        refine R.nil ?_
        obtain ⟨m, rfl⟩ : ∃ m', m = m' + 1 := ⟨m - 1, by omega⟩  -- round end 0 path T
        refine ⟨m, by omega, m, _, v45, rfl, rfl, by omega, hE, hB2, ?_, hf45, rfl, rfl, rfl, rfl, ?_, trivial⟩
        · have e : (xss[i].drop (k + m + 1)).reverse = (xss[i].drop (k + (m + 1) + 1)).reverse ++ [xss[i][k + (m + 1)]] := by
            rw [List.drop_eq_getElem_cons (show k + m + 1 < xss[i].length by omega), List.reverse_cons]
            rfl
          rw [e]
          refine SInts.app (m := 1) ?_ rfl
          simpa [cellsOf, Value.cells, ints] using hS45
        · show Value.int .i64 _ = _
          congr 1
      · replace hc32 := dF hc32
        refine E.exit ?_  -- exit 0
        refine E.seq ?_
        refine E.regionP rfl ?_  -- region 11
        refine R.move ?_  -- 46 := move ('tmp', 9)
        refine R.assign ?_  -- 4 := assign ('tmp', 46)
        refine R.assign ?_  -- 5 := assign ('const', ('int', ('i64',), 0))
        refine R.nil ?_
        refine E.ret ?_
        have hm0 : m = 0 := by omega  -- return 0 path F
        subst hm0
        have e1 : (aboveL xss h b).1 = (List.drop (k + 1) xss[i]).reverse := by simp [aboveL, hR, hF, hi]
        refine ret2 vv (.int .i64 0) rfl rfl rfl ⟨_, rfl, hE, _, ?_, ?_, hf⟩
        · simp [aboveL, hR, hF]
        · rw [e1]; exact hS
  · refine calls_E (args := [.agg #[v, .int .i64 h], .int .i64 b]) 47 Try.func53 rfl rfl (by simp) ?_
    have hE : Ext w w := Upd.refl w
    refine E.seq ?_
    refine E.regionP rfl ?_  -- region 0
    refine R.box rfl nofun ?_  -- 2 := box 54 ('tmp', 0)
    intro b2 w1 hb2 hx1 hB2
    replace hb2 := Nat.le_trans hE.size hb2
    replace hE := hE.ext hx1
    replace hB2 : Blk _ b2 54 #[v, .int .i64 h] := hB2
    refine R.assign ?_  -- 4 := assign ('const', ('slice', ('none',), 0, 0))
    refine R.assign ?_  -- 5 := assign ('const', ('int', ('i64',), 0))
    refine R.nil ?_
    refine E.seq ?_
    refine E.seq ?_
    refine E.regionP rfl ?_  -- region 1
    refine R.loadA t54 hB2 rfl rfl rfl trivial ?_  -- 11 := load 54 ('tmp', 2)
    refine R.callE1 ent55 (rRight _ (hm.ext hE) hl hx) rfl nofun ?_  -- 12 := call {'callee': ('value', ('func', 55)), 'args': [('tmp', 11)], 'argTypes': [54]}
    rintro v12 w2 hx2 rfl
    rw [hR]
    replace hB2 := hB2.ext hx2
    replace hE := hE.ext hx2
    refine R.not rfl ?_  -- 13 := unOp ('not',) 4 ('tmp', 12)
    refine R.nil ?_
    refine E.condT rfl ?_  -- cond t13
    refine E.seq ?_
    refine E.regionP rfl ?_  -- region 2
    refine R.assign ?_  -- 4 := assign ('const', ('slice', ('none',), 0, 0))
    refine R.assign ?_  -- 5 := assign ('const', ('int', ('i64',), 2))
    refine R.nil ?_
    refine E.ret ?_
    refine ret2 (.slice none 0 0) (.int .i64 2) rfl rfl rfl ⟨_, rfl, hE, _, ?_, ?_, Fresh.nil w⟩  -- return 0 path 
    · simp [aboveL, hR]
    · have e1 : (aboveL xss h b).1 = [] := by simp [aboveL, hR]
      rw [e1]; exact SInts.nil _

theorem rRoom (w : World) {v : Value} {h : Int} {us : List Value} {xss : List (List Int)} (hm : Mat w v us xss) (hl : xss.length < 100000) (hx : ∀ xs ∈ xss, xs.length ≤ 10) :
    Calls Try.prog 54 #[.agg #[v, .int .i64 h]] w (Ret fun r w' => Ext w w' ∧ r = .tuple #[.int .i64 (roomL xss h).1, .int .i64 (roomL xss h).2]) := by
  cases hR : rightB xss h
  rotate_left
  · refine calls_E (args := [.agg #[v, .int .i64 h]]) 17 Try.func54 rfl rfl (by simp) ?_
    have hE : Ext w w := Upd.refl w
    refine E.seq ?_
    refine E.regionP rfl ?_  -- region 0
    refine R.box rfl nofun ?_  -- 1 := box 54 ('tmp', 0)
    intro b1 w1 hb1 hx1 hB1
    replace hb1 := Nat.le_trans hE.size hb1
    replace hE := hE.ext hx1
    replace hB1 : Blk _ b1 54 #[v, .int .i64 h] := hB1
    refine R.assign ?_  -- 2 := assign ('const', ('int', ('i64',), 0))
    refine R.assign ?_  -- 3 := assign ('const', ('int', ('i64',), 0))
    refine R.nil ?_
    refine E.seq ?_
    refine E.seq ?_
    refine E.regionP rfl ?_  -- region 1
    refine R.loadA t54 hB1 rfl rfl rfl trivial ?_  -- 4 := load 54 ('tmp', 1)
    refine R.callE1 ent55 (rRight _ (hm.ext hE) hl hx) rfl nofun ?_  -- 5 := call {'callee': ('value', ('func', 55)), 'args': [('tmp', 4)], 'argTypes': [54]}
    rintro v5 w2 hx2 rfl
    rw [hR]
    replace hB1 := hB1.ext hx2
    replace hE := hE.ext hx2
    refine R.not rfl ?_  -- 6 := unOp ('not',) 4 ('tmp', 5)
    refine R.nil ?_
    refine E.condF rfl ?_  -- cond t6
    refine E.skip ?_
    refine E.seq ?_
    refine E.regionW (fun _ b => b < w2.heap.size) [] mixed rfl (by kernel_rfl) ?_  -- region 3
    intro w3 hx3 hh3
    replace hB1 := hB1.ext hx3
    replace hE := hE.ext hx3
    have hEs : Ext w3 w3 := Upd.refl _
    have hS0 := hx3.size
    have hSs : ∀ b, b < w3.heap.size → b < w2.heap.size := fun b hb => by rw [hh3] at hb; exact hb
    have hSa : ∀ b, b < w.heap.size → b < w2.heap.size := fun b hb => by have := hE.size; rw [hh3] at this; omega
    have hB1s := hB1
    refine R.fld fa54_0 rfl ?_  -- 7 := fieldAddr 54 ('tmp', 1) 0
    refine R.loadBE t22 hB1s hEs rfl rfl rfl hSs ?_  -- 8 := load 22 ('tmp', 7)
    refine R.len Try.underlying22 hm.row rfl ?_  -- 9 := call {'callee': ('builtin', ('len',)), 'args': [('tmp', 8)], 'argTypes': [22]}
    refine R.fld fa54_1 rfl ?_  -- 10 := fieldAddr 54 ('tmp', 1) 1
    refine R.loadBE t3 hB1s hEs rfl rfl rfl hSs ?_  -- 11 := load 3 ('tmp', 10)
    have hP := rightB_true.1 hR  -- 12 := binOp ('mul',) 3 ('tmp', 9) ('tmp', 11) 3
    have hb1' := mul_bounds (i := xss.length) (h := h) hP.2.2.2.1 hP.1 hP.2.1
    have hb3' := flatten_le hx
    have hb4' := hP.2.2.2.1
    refine R.mul rfl rfl (by omega) (by omega) ?_
    refine R.loadAE t54 hB1s hEs rfl rfl rfl hSs ?_  -- 13 := load 54 ('tmp', 1)
    refine R.callE1 ent90 (rBoxes _ (hm.ext hE) hl hx) rfl (fun _ _ hb => Nat.lt_of_lt_of_le hb (Nat.le_trans hS0 hEs.size)) ?_  -- 14 := call {'callee': ('value', ('func', 90)), 'args': [('tmp', 13)], 'argTypes': [54]}
    rintro v14 w4 hx4 ⟨hS14, hf14⟩
    replace hB1 := hB1.ext hx4
    replace hE := hE.ext hx4
    replace hEs := hEs.ext hx4
    refine R.len Try.underlying35 hS14.row rfl ?_  -- 15 := call {'callee': ('builtin', ('len',)), 'args': [('tmp', 14)], 'argTypes': [35]}
    refine R.sub rfl rfl (by omega) (by omega) ?_  -- 16 := binOp ('sub',) 3 ('tmp', 12) ('tmp', 15) 3
    refine R.assign ?_  -- 2 := assign ('tmp', 16)
    refine R.assign ?_  -- 3 := assign ('const', ('int', ('i64',), 0))
    refine R.nil ?_
    refine E.ret ?_
    refine ret2 (.int .i64 ((xss.length : Int) * h - (xss.flatten.length : Int))) (.int .i64 0) rfl rfl rfl ⟨_, rfl, hE, ?_⟩  -- return 0 path 
    simp [roomL, hR]
  · refine calls_E (args := [.agg #[v, .int .i64 h]]) 17 Try.func54 rfl rfl (by simp) ?_
    have hE : Ext w w := Upd.refl w
    refine E.seq ?_
    refine E.regionP rfl ?_  -- region 0
    refine R.box rfl nofun ?_  -- 1 := box 54 ('tmp', 0)
    intro b1 w1 hb1 hx1 hB1
    replace hb1 := Nat.le_trans hE.size hb1
    replace hE := hE.ext hx1
    replace hB1 : Blk _ b1 54 #[v, .int .i64 h] := hB1
    refine R.assign ?_  -- 2 := assign ('const', ('int', ('i64',), 0))
    refine R.assign ?_  -- 3 := assign ('const', ('int', ('i64',), 0))
    refine R.nil ?_
    refine E.seq ?_
    refine E.seq ?_
    refine E.regionP rfl ?_  -- region 1
    refine R.loadA t54 hB1 rfl rfl rfl trivial ?_  -- 4 := load 54 ('tmp', 1)
    refine R.callE1 ent55 (rRight _ (hm.ext hE) hl hx) rfl nofun ?_  -- 5 := call {'callee': ('value', ('func', 55)), 'args': [('tmp', 4)], 'argTypes': [54]}
    rintro v5 w2 hx2 rfl
    rw [hR]
    replace hB1 := hB1.ext hx2
    replace hE := hE.ext hx2
    refine R.not rfl ?_  -- 6 := unOp ('not',) 4 ('tmp', 5)
    refine R.nil ?_
    refine E.condT rfl ?_  -- cond t6
    refine E.seq ?_
    refine E.regionP rfl ?_  -- region 2
    refine R.assign ?_  -- 2 := assign ('const', ('int', ('i64',), 0))
    refine R.assign ?_  -- 3 := assign ('const', ('int', ('i64',), 2))
    refine R.nil ?_
    refine E.ret ?_
    refine ret2 (.int .i64 0) (.int .i64 2) rfl rfl rfl ⟨_, rfl, hE, ?_⟩  -- return 0 path 
    simp [roomL, hR]

end Go.Proofs.Ytfdmndkoiheebaa
