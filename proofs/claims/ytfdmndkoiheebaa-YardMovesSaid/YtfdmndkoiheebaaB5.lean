/- The references Right -/
import Derived.Test.YtfdmndkoiheebaaB4
namespace Go.Proofs.Ytfdmndkoiheebaa
open Go Go.RowKit


theorem not_right_prefix {xss : List (List Int)} {h : Int} {i : Nat} (hi : i < xss.flatten.length) (hn : ¬ ((1 ≤ xss.flatten[i] ∧ xss.flatten[i] ≤ 999999) ∧ xss.flatten[i] ∉ xss.flatten.take i)) : ¬ RightP xss h := by
  rintro ⟨_, _, _, _, _, h1, h2⟩
  apply hn
  refine ⟨h1 _ (List.getElem_mem _), fun hin => ?_⟩
  have h3 := List.take_append_drop i xss.flatten
  rw [List.drop_eq_getElem_cons hi] at h3
  rw [← h3, List.nodup_append] at h2
  exact h2.2.2 _ hin _ List.mem_cons_self rfl

theorem rRight (w : World) {v : Value} {h : Int} {us : List Value} {xss : List (List Int)} (hm : Mat w v us xss) (hl : xss.length < 100000) (hx : ∀ xs ∈ xss, xs.length ≤ 10) :
    Calls Try.prog 55 #[.agg #[v, .int .i64 h]] w (Ret fun r w' => Ext w w' ∧ r = .bool (rightB xss h)) := by
  have hfl := flatten_le hx
  refine calls_E (args := [.agg #[v, .int .i64 h]]) 77 Try.func55 rfl rfl (by simp) ?_
  have hE : Ext w w := Upd.refl w
  refine E.seq ?_
  refine E.regionP rfl ?_  -- region 0
  refine R.box rfl nofun ?_  -- 1 := box 54 ('tmp', 0)
  intro b1 w1 hb1 hx1 hB1
  replace hb1 := Nat.le_trans hE.size hb1
  replace hE := hE.ext hx1
  replace hB1 : Blk _ b1 54 #[v, .int .i64 h] := hB1
  refine R.assign ?_  -- 2 := assign ('const', ('bool', ('false',)))
  refine R.nil ?_
  refine E.seq ?_
  refine E.seq ?_
  rcases (show h < 1 ∨ (1 ≤ h ∧ 6 < h) ∨ (1 ≤ h ∧ h ≤ 6 ∧ xss.length < 1) ∨ (1 ≤ h ∧ h ≤ 6 ∧ 1 ≤ xss.length ∧ 30 < xss.length) ∨ (1 ≤ h ∧ h ≤ 6 ∧ 1 ≤ xss.length ∧ xss.length ≤ 30) by omega) with hq | hq | hq | hq | hq
  · refine E.regionP rfl ?_  -- region 1
    refine R.fld fa54_1 rfl ?_  -- 7 := fieldAddr 54 ('tmp', 1) 1
    refine R.loadB t3 hB1 rfl rfl rfl trivial ?_  -- 8 := load 3 ('tmp', 7)
    refine R.lss (b := true) rfl rfl (decide_eq_true hq) ?_  -- 9 := binOp ('lss',) 3 ('tmp', 8) ('const', ('int', ('i64',), 1)) 3
    refine R.move ?_  -- 10 := move ('tmp', 9)
    refine R.gF rfl rfl rfl ?_  -- 11 := fieldAddr 54 ('tmp', 1) 1
    refine R.gF rfl rfl rfl ?_  -- 12 := load 3 ('tmp', 11)
    refine R.gF rfl rfl rfl ?_  -- 13 := binOp ('gtr',) 3 ('tmp', 12) ('const', ('int', ('i64',), 6)) 3
    refine R.pickT rfl ?_  -- 14 := pick ('tmp', 10) ('const', ('bool', ('true',))) ('tmp', 13)
    refine R.move ?_  -- 15 := move ('tmp', 14)
    refine R.gF rfl rfl rfl ?_  -- 16 := fieldAddr 54 ('tmp', 1) 0
    refine R.gF rfl rfl rfl ?_  -- 17 := load 22 ('tmp', 16)
    refine R.gF rfl rfl rfl ?_  -- 18 := call {'callee': ('builtin', ('len',)), 'args': [('tmp', 17)], 'argTypes': [22]}
    refine R.gF rfl rfl rfl ?_  -- 19 := binOp ('eql',) 3 ('tmp', 18) ('const', ('int', ('i64',), 0)) 3
    refine R.pickT rfl ?_  -- 20 := pick ('tmp', 15) ('const', ('bool', ('true',))) ('tmp', 19)
    refine R.move ?_  -- 21 := move ('tmp', 20)
    refine R.gF rfl rfl rfl ?_  -- 22 := fieldAddr 54 ('tmp', 1) 0
    refine R.gF rfl rfl rfl ?_  -- 23 := load 22 ('tmp', 22)
    refine R.gF rfl rfl rfl ?_  -- 24 := call {'callee': ('builtin', ('len',)), 'args': [('tmp', 23)], 'argTypes': [22]}
    refine R.gF rfl rfl rfl ?_  -- 25 := binOp ('gtr',) 3 ('tmp', 24) ('const', ('int', ('i64',), 30)) 3
    refine R.pickT rfl ?_  -- 26 := pick ('tmp', 21) ('const', ('bool', ('true',))) ('tmp', 25)
    refine R.nil ?_
    refine E.condT rfl ?_  -- cond t26
    refine E.seq ?_
    refine E.regionP rfl ?_  -- region 2
    refine R.assign ?_  -- 2 := assign ('const', ('bool', ('false',)))
    refine R.nil ?_
    refine E.ret ?_
    refine ret1 (.bool false) rfl rfl ⟨_, rfl, hE, ?_⟩  -- return 0 path 0
    rw [rightB_false.2]
    rintro ⟨h1, h2, h3, h4, _⟩
    omega
  · refine E.regionP rfl ?_  -- region 1
    refine R.fld fa54_1 rfl ?_  -- 7 := fieldAddr 54 ('tmp', 1) 1
    refine R.loadB t3 hB1 rfl rfl rfl trivial ?_  -- 8 := load 3 ('tmp', 7)
    refine R.lss (b := false) rfl rfl (decide_eq_false (by omega)) ?_  -- 9 := binOp ('lss',) 3 ('tmp', 8) ('const', ('int', ('i64',), 1)) 3
    refine R.move ?_  -- 10 := move ('tmp', 9)
    refine R.gT rfl rfl ?_
    refine R.fld fa54_1 rfl ?_  -- 11 := fieldAddr 54 ('tmp', 1) 1
    refine R.gT rfl rfl ?_
    refine R.loadB t3 hB1 rfl rfl rfl trivial ?_  -- 12 := load 3 ('tmp', 11)
    refine R.gT rfl rfl ?_
    refine R.gtr (b := true) rfl rfl (decide_eq_true (by omega)) ?_  -- 13 := binOp ('gtr',) 3 ('tmp', 12) ('const', ('int', ('i64',), 6)) 3
    refine R.pickF rfl ?_  -- 14 := pick ('tmp', 10) ('const', ('bool', ('true',))) ('tmp', 13)
    refine R.move ?_  -- 15 := move ('tmp', 14)
    refine R.gF rfl rfl rfl ?_  -- 16 := fieldAddr 54 ('tmp', 1) 0
    refine R.gF rfl rfl rfl ?_  -- 17 := load 22 ('tmp', 16)
    refine R.gF rfl rfl rfl ?_  -- 18 := call {'callee': ('builtin', ('len',)), 'args': [('tmp', 17)], 'argTypes': [22]}
    refine R.gF rfl rfl rfl ?_  -- 19 := binOp ('eql',) 3 ('tmp', 18) ('const', ('int', ('i64',), 0)) 3
    refine R.pickT rfl ?_  -- 20 := pick ('tmp', 15) ('const', ('bool', ('true',))) ('tmp', 19)
    refine R.move ?_  -- 21 := move ('tmp', 20)
    refine R.gF rfl rfl rfl ?_  -- 22 := fieldAddr 54 ('tmp', 1) 0
    refine R.gF rfl rfl rfl ?_  -- 23 := load 22 ('tmp', 22)
    refine R.gF rfl rfl rfl ?_  -- 24 := call {'callee': ('builtin', ('len',)), 'args': [('tmp', 23)], 'argTypes': [22]}
    refine R.gF rfl rfl rfl ?_  -- 25 := binOp ('gtr',) 3 ('tmp', 24) ('const', ('int', ('i64',), 30)) 3
    refine R.pickT rfl ?_  -- 26 := pick ('tmp', 21) ('const', ('bool', ('true',))) ('tmp', 25)
    refine R.nil ?_
    refine E.condT rfl ?_  -- cond t26
    refine E.seq ?_
    refine E.regionP rfl ?_  -- region 2
    refine R.assign ?_  -- 2 := assign ('const', ('bool', ('false',)))
    refine R.nil ?_
    refine E.ret ?_
    refine ret1 (.bool false) rfl rfl ⟨_, rfl, hE, ?_⟩  -- return 1 path 1
    rw [rightB_false.2]
    rintro ⟨h1, h2, h3, h4, _⟩
    omega
  · refine E.regionP rfl ?_  -- region 1
    refine R.fld fa54_1 rfl ?_  -- 7 := fieldAddr 54 ('tmp', 1) 1
    refine R.loadB t3 hB1 rfl rfl rfl trivial ?_  -- 8 := load 3 ('tmp', 7)
    refine R.lss (b := false) rfl rfl (decide_eq_false (by omega)) ?_  -- 9 := binOp ('lss',) 3 ('tmp', 8) ('const', ('int', ('i64',), 1)) 3
    refine R.move ?_  -- 10 := move ('tmp', 9)
    refine R.gT rfl rfl ?_
    refine R.fld fa54_1 rfl ?_  -- 11 := fieldAddr 54 ('tmp', 1) 1
    refine R.gT rfl rfl ?_
    refine R.loadB t3 hB1 rfl rfl rfl trivial ?_  -- 12 := load 3 ('tmp', 11)
    refine R.gT rfl rfl ?_
    refine R.gtr (b := false) rfl rfl (decide_eq_false (by omega)) ?_  -- 13 := binOp ('gtr',) 3 ('tmp', 12) ('const', ('int', ('i64',), 6)) 3
    refine R.pickF rfl ?_  -- 14 := pick ('tmp', 10) ('const', ('bool', ('true',))) ('tmp', 13)
    refine R.move ?_  -- 15 := move ('tmp', 14)
    refine R.gT rfl rfl ?_
    refine R.fld fa54_0 rfl ?_  -- 16 := fieldAddr 54 ('tmp', 1) 0
    refine R.gT rfl rfl ?_
    refine R.loadB t22 hB1 rfl rfl rfl trivial ?_  -- 17 := load 22 ('tmp', 16)
    refine R.gT rfl rfl ?_
    refine R.len Try.underlying22 hm.row rfl ?_  -- 18 := call {'callee': ('builtin', ('len',)), 'args': [('tmp', 17)], 'argTypes': [22]}
    refine R.gT rfl rfl ?_
    refine R.eql (b := true) rfl rfl (decide_eq_true (by omega)) ?_  -- 19 := binOp ('eql',) 3 ('tmp', 18) ('const', ('int', ('i64',), 0)) 3
    refine R.pickF rfl ?_  -- 20 := pick ('tmp', 15) ('const', ('bool', ('true',))) ('tmp', 19)
    refine R.move ?_  -- 21 := move ('tmp', 20)
    refine R.gF rfl rfl rfl ?_  -- 22 := fieldAddr 54 ('tmp', 1) 0
    refine R.gF rfl rfl rfl ?_  -- 23 := load 22 ('tmp', 22)
    refine R.gF rfl rfl rfl ?_  -- 24 := call {'callee': ('builtin', ('len',)), 'args': [('tmp', 23)], 'argTypes': [22]}
    refine R.gF rfl rfl rfl ?_  -- 25 := binOp ('gtr',) 3 ('tmp', 24) ('const', ('int', ('i64',), 30)) 3
    refine R.pickT rfl ?_  -- 26 := pick ('tmp', 21) ('const', ('bool', ('true',))) ('tmp', 25)
    refine R.nil ?_
    refine E.condT rfl ?_  -- cond t26
    refine E.seq ?_
    refine E.regionP rfl ?_  -- region 2
    refine R.assign ?_  -- 2 := assign ('const', ('bool', ('false',)))
    refine R.nil ?_
    refine E.ret ?_
    refine ret1 (.bool false) rfl rfl ⟨_, rfl, hE, ?_⟩  -- return 2 path 2
    rw [rightB_false.2]
    rintro ⟨h1, h2, h3, h4, _⟩
    omega
  · refine E.regionP rfl ?_  -- region 1
    refine R.fld fa54_1 rfl ?_  -- 7 := fieldAddr 54 ('tmp', 1) 1
    refine R.loadB t3 hB1 rfl rfl rfl trivial ?_  -- 8 := load 3 ('tmp', 7)
    refine R.lss (b := false) rfl rfl (decide_eq_false (by omega)) ?_  -- 9 := binOp ('lss',) 3 ('tmp', 8) ('const', ('int', ('i64',), 1)) 3
    refine R.move ?_  -- 10 := move ('tmp', 9)
    refine R.gT rfl rfl ?_
    refine R.fld fa54_1 rfl ?_  -- 11 := fieldAddr 54 ('tmp', 1) 1
    refine R.gT rfl rfl ?_
    refine R.loadB t3 hB1 rfl rfl rfl trivial ?_  -- 12 := load 3 ('tmp', 11)
    refine R.gT rfl rfl ?_
    refine R.gtr (b := false) rfl rfl (decide_eq_false (by omega)) ?_  -- 13 := binOp ('gtr',) 3 ('tmp', 12) ('const', ('int', ('i64',), 6)) 3
    refine R.pickF rfl ?_  -- 14 := pick ('tmp', 10) ('const', ('bool', ('true',))) ('tmp', 13)
    refine R.move ?_  -- 15 := move ('tmp', 14)
    refine R.gT rfl rfl ?_
    refine R.fld fa54_0 rfl ?_  -- 16 := fieldAddr 54 ('tmp', 1) 0
    refine R.gT rfl rfl ?_
    refine R.loadB t22 hB1 rfl rfl rfl trivial ?_  -- 17 := load 22 ('tmp', 16)
    refine R.gT rfl rfl ?_
    refine R.len Try.underlying22 hm.row rfl ?_  -- 18 := call {'callee': ('builtin', ('len',)), 'args': [('tmp', 17)], 'argTypes': [22]}
    refine R.gT rfl rfl ?_
    refine R.eql (b := false) rfl rfl (decide_eq_false (by omega)) ?_  -- 19 := binOp ('eql',) 3 ('tmp', 18) ('const', ('int', ('i64',), 0)) 3
    refine R.pickF rfl ?_  -- 20 := pick ('tmp', 15) ('const', ('bool', ('true',))) ('tmp', 19)
    refine R.move ?_  -- 21 := move ('tmp', 20)
    refine R.gT rfl rfl ?_
    refine R.fld fa54_0 rfl ?_  -- 22 := fieldAddr 54 ('tmp', 1) 0
    refine R.gT rfl rfl ?_
    refine R.loadB t22 hB1 rfl rfl rfl trivial ?_  -- 23 := load 22 ('tmp', 22)
    refine R.gT rfl rfl ?_
    refine R.len Try.underlying22 hm.row rfl ?_  -- 24 := call {'callee': ('builtin', ('len',)), 'args': [('tmp', 23)], 'argTypes': [22]}
    refine R.gT rfl rfl ?_
    refine R.gtr (b := true) rfl rfl (decide_eq_true (by omega)) ?_  -- 25 := binOp ('gtr',) 3 ('tmp', 24) ('const', ('int', ('i64',), 30)) 3
    refine R.pickF rfl ?_  -- 26 := pick ('tmp', 21) ('const', ('bool', ('true',))) ('tmp', 25)
    refine R.nil ?_
    refine E.condT rfl ?_  -- cond t26
    refine E.seq ?_
    refine E.regionP rfl ?_  -- region 2
    refine R.assign ?_  -- 2 := assign ('const', ('bool', ('false',)))
    refine R.nil ?_
    refine E.ret ?_
    refine ret1 (.bool false) rfl rfl ⟨_, rfl, hE, ?_⟩  -- return 3 path 3
    rw [rightB_false.2]
    rintro ⟨h1, h2, h3, h4, _⟩
    omega
  · refine E.regionP rfl ?_  -- region 1
    refine R.fld fa54_1 rfl ?_  -- 7 := fieldAddr 54 ('tmp', 1) 1
    refine R.loadB t3 hB1 rfl rfl rfl trivial ?_  -- 8 := load 3 ('tmp', 7)
    refine R.lss (b := false) rfl rfl (decide_eq_false (by omega)) ?_  -- 9 := binOp ('lss',) 3 ('tmp', 8) ('const', ('int', ('i64',), 1)) 3
    refine R.move ?_  -- 10 := move ('tmp', 9)
    refine R.gT rfl rfl ?_
    refine R.fld fa54_1 rfl ?_  -- 11 := fieldAddr 54 ('tmp', 1) 1
    refine R.gT rfl rfl ?_
    refine R.loadB t3 hB1 rfl rfl rfl trivial ?_  -- 12 := load 3 ('tmp', 11)
    refine R.gT rfl rfl ?_
    refine R.gtr (b := false) rfl rfl (decide_eq_false (by omega)) ?_  -- 13 := binOp ('gtr',) 3 ('tmp', 12) ('const', ('int', ('i64',), 6)) 3
    refine R.pickF rfl ?_  -- 14 := pick ('tmp', 10) ('const', ('bool', ('true',))) ('tmp', 13)
    refine R.move ?_  -- 15 := move ('tmp', 14)
    refine R.gT rfl rfl ?_
    refine R.fld fa54_0 rfl ?_  -- 16 := fieldAddr 54 ('tmp', 1) 0
    refine R.gT rfl rfl ?_
    refine R.loadB t22 hB1 rfl rfl rfl trivial ?_  -- 17 := load 22 ('tmp', 16)
    refine R.gT rfl rfl ?_
    refine R.len Try.underlying22 hm.row rfl ?_  -- 18 := call {'callee': ('builtin', ('len',)), 'args': [('tmp', 17)], 'argTypes': [22]}
    refine R.gT rfl rfl ?_
    refine R.eql (b := false) rfl rfl (decide_eq_false (by omega)) ?_  -- 19 := binOp ('eql',) 3 ('tmp', 18) ('const', ('int', ('i64',), 0)) 3
    refine R.pickF rfl ?_  -- 20 := pick ('tmp', 15) ('const', ('bool', ('true',))) ('tmp', 19)
    refine R.move ?_  -- 21 := move ('tmp', 20)
    refine R.gT rfl rfl ?_
    refine R.fld fa54_0 rfl ?_  -- 22 := fieldAddr 54 ('tmp', 1) 0
    refine R.gT rfl rfl ?_
    refine R.loadB t22 hB1 rfl rfl rfl trivial ?_  -- 23 := load 22 ('tmp', 22)
    refine R.gT rfl rfl ?_
    refine R.len Try.underlying22 hm.row rfl ?_  -- 24 := call {'callee': ('builtin', ('len',)), 'args': [('tmp', 23)], 'argTypes': [22]}
    refine R.gT rfl rfl ?_
    refine R.gtr (b := false) rfl rfl (decide_eq_false (by omega)) ?_  -- 25 := binOp ('gtr',) 3 ('tmp', 24) ('const', ('int', ('i64',), 30)) 3
    refine R.pickF rfl ?_  -- 26 := pick ('tmp', 21) ('const', ('bool', ('true',))) ('tmp', 25)
    refine R.nil ?_
    refine E.condF rfl ?_  -- cond t26
    refine E.skip ?_
    refine E.seq ?_
    refine E.seq ?_
    refine E.regionP rfl ?_  -- region 3
    refine R.assign ?_  -- 3 := assign ('const', ('int', ('i64',), 0))
    refine R.nil ?_
    refine E.block ?_  -- block 0
    refine E.loop (fun n e wr => ∃ i : Nat, n = xss.length - i ∧ i ≤ xss.length ∧ Ext w wr ∧ Blk wr b1 54 #[v, .int .i64 h] ∧ (∀ xs ∈ xss.take i, (xs.length : Int) ≤ h) ∧ Has e [(1, .pointer (some ⟨b1, 0, none⟩)), (3, .int .i64 i)]) (xss.length) ?_ ?_
    · exact ⟨0, rfl, Nat.zero_le _, hE, hB1, by simp, rfl, rfl, trivial⟩
    · rintro n e wr ⟨i, rfl, hi, hE, hB1, hs, hH⟩
      obtain ⟨e, rfl⟩ := hH.ex
      clear hH
      refine E.seq ?_
      refine E.seq ?_
      refine E.regionP rfl ?_  -- region 4
      refine R.move ?_  -- 27 := move ('tmp', 3)
      refine R.fld fa54_0 rfl ?_  -- 28 := fieldAddr 54 ('tmp', 1) 0
      refine R.loadB t22 hB1 rfl rfl rfl trivial ?_  -- 29 := load 22 ('tmp', 28)
      refine R.len Try.underlying22 hm.row rfl ?_  -- 30 := call {'callee': ('builtin', ('len',)), 'args': [('tmp', 29)], 'argTypes': [22]}
      refine R.lss rfl rfl rfl ?_  -- 31 := binOp ('lss',) 3 ('tmp', 27) ('tmp', 30) 3
      refine R.nil ?_
      refine E.cond rfl (fun hc31 => ?_) (fun hc31 => ?_)  -- cond t31
      · replace hc31 := dT hc31
        refine E.skip ?_
        refine E.seq ?_
        refine E.block ?_  -- block 1
        refine E.seq ?_
        refine E.regionW allS [] mixed rfl (by kernel_rfl) ?_  -- region 6
        intro w2 hx2 hh2
        replace hB1 := hB1.ext hx2
        replace hE := hE.ext hx2
        refine R.fld fa54_0 rfl ?_  -- 34 := fieldAddr 54 ('tmp', 1) 0
        refine R.loadB t22 hB1 rfl rfl rfl trivial ?_  -- 35 := load 22 ('tmp', 34)
        refine R.move ?_  -- 36 := move ('tmp', 3)
        refine R.ix Try.underlying22 t35 (by decide) hm.row rfl rfl (by omega) ?_  -- 37 := indexAddr 22 ('tmp', 35) ('tmp', 36)
        obtain ⟨u38, hu38, hr38⟩ := hm.get i (by omega)
        refine R.ld t35 (hm.row.ext hE) rfl hu38 rfl (fun _ _ => trivial) ?_  -- 38 := load 35 ('tmp', 37)
        refine R.len Try.underlying35 hr38 rfl ?_  -- 39 := call {'callee': ('builtin', ('len',)), 'args': [('tmp', 38)], 'argTypes': [35]}
        refine R.fld fa54_1 rfl ?_  -- 40 := fieldAddr 54 ('tmp', 1) 1
        refine R.loadB t3 hB1 rfl rfl rfl trivial ?_  -- 41 := load 3 ('tmp', 40)
        refine R.gtr rfl rfl rfl ?_  -- 42 := binOp ('gtr',) 3 ('tmp', 39) ('tmp', 41) 3
        refine R.nil ?_
        refine E.cond rfl (fun hc42 => ?_) (fun hc42 => ?_)  -- cond t42
        · replace hc42 := dT hc42
          refine E.seq ?_
          refine E.regionP rfl ?_  -- region 7
          refine R.assign ?_  -- 2 := assign ('const', ('bool', ('false',)))
          refine R.nil ?_
          refine E.ret ?_
          refine ret1 (.bool false) rfl rfl ⟨_, rfl, hE, ?_⟩  -- return 4 path 4TT
          rw [rightB_false.2]
          rintro ⟨_, _, _, _, h5, _⟩
          have := h5 xss[i] (List.getElem_mem _)
          omega
        · replace hc42 := dF hc42
          refine E.skip ?_
          refine E.regionP rfl ?_  -- region 5
          refine R.move ?_  -- 32 := move ('tmp', 3)
          refine R.addN (n := 1) rfl rfl (by omega) ?_  -- 33 := binOp ('add',) 3 ('tmp', 32) ('const', ('int', ('i64',), 1)) 3
          refine R.assign ?_  -- 3 := assign ('tmp', 33)
          refine R.nil ?_
          refine ⟨xss.length - (i + 1), by omega, i + 1, rfl, by omega, hE, hB1, ?_, rfl, rfl, trivial⟩  -- round end 0 path 4TF
          intro xs hxs
          rw [List.take_succ_eq_append_getElem (by omega)] at hxs
          rcases List.mem_append.1 hxs with hxs | hxs
          · exact hs xs hxs
          · simp at hxs; subst hxs; omega
      · replace hc31 := dF hc31
        refine E.exit ?_  -- exit 0
        refine E.seq ?_
        refine E.regionP rfl ?_  -- region 8
        refine R.loadA t54 hB1 rfl rfl rfl trivial ?_  -- 43 := load 54 ('tmp', 1)
        refine R.callE1 ent90 (rBoxes _ (hm.ext hE) hl hx) rfl nofun ?_  -- 44 := call {'callee': ('value', ('func', 90)), 'args': [('tmp', 43)], 'argTypes': [54]}
        rintro v44 w3 hx3 ⟨hS44, hf44⟩
        replace hB1 := hB1.ext hx3
        replace hE := hE.ext hx3
        refine R.assign ?_  -- 4 := assign ('tmp', 44)
        refine R.nil ?_
        refine E.seq ?_
        refine E.seq ?_
        refine E.regionP rfl ?_  -- region 9
        refine R.assign ?_  -- 5 := assign ('const', ('int', ('i64',), 0))
        refine R.nil ?_
        refine E.block ?_  -- block 2
        refine E.loop (fun n e wr => ∃ j : Nat, n = xss.flatten.length - j ∧ j ≤ xss.flatten.length ∧ Ext w wr ∧ SInts wr v44 xss.flatten ∧ (∀ b ∈ xss.flatten.take j, 1 ≤ b ∧ b ≤ 999999) ∧ (xss.flatten.take j).Nodup ∧ Has e [(4, v44), (5, .int .i64 j)]) (xss.flatten.length) ?_ ?_
        · obtain rfl : i = xss.length := by omega
          rw [List.take_length] at hs
          exact ⟨0, rfl, Nat.zero_le _, hE, hS44, by simp, by simp, rfl, rfl, trivial⟩
        · rintro n e wr ⟨j, rfl, hj, hE, hS44, hrg, hnd, hH⟩
          obtain ⟨e, rfl⟩ := hH.ex
          clear hH
          have hs : ∀ xs ∈ xss, (xs.length : Int) ≤ h := by
            have e : i = xss.length := by omega
            rw [e, List.take_length] at hs
            exact hs
          refine E.seq ?_
          refine E.seq ?_
          refine E.regionP rfl ?_  -- region 10
          refine R.move ?_  -- 45 := move ('tmp', 5)
          refine R.move ?_  -- 46 := move ('tmp', 4)
          refine R.len Try.underlying35 hS44.row rfl ?_  -- 47 := call {'callee': ('builtin', ('len',)), 'args': [('tmp', 46)], 'argTypes': [35]}
          refine R.lss rfl rfl rfl ?_  -- 48 := binOp ('lss',) 3 ('tmp', 45) ('tmp', 47) 3
          refine R.nil ?_
          refine E.cond rfl (fun hc48 => ?_) (fun hc48 => ?_)  -- cond t48
          · replace hc48 := dT hc48
            refine E.skip ?_
            refine E.seq ?_
            refine E.block ?_  -- block 3
            refine E.seq ?_
            refine E.seq ?_
            rcases (show xss.flatten[j] < 1 ∨ (1 ≤ xss.flatten[j] ∧ 999999 < xss.flatten[j]) ∨ (1 ≤ xss.flatten[j] ∧ xss.flatten[j] ≤ 999999) by omega) with hq2 | hq2 | hq2
            · refine E.regionP rfl ?_  -- region 12
              refine R.move ?_  -- 51 := move ('tmp', 4)
              refine R.move ?_  -- 52 := move ('tmp', 5)
              refine R.ix Try.underlying35 t3 (by decide) hS44.row rfl rfl (by omega) ?_  -- 53 := indexAddr 35 ('tmp', 51) ('tmp', 52)
              refine R.ld t3 hS44.row rfl (int_at (by omega)) rfl (fun _ _ => trivial) ?_  -- 54 := load 3 ('tmp', 53)
              refine R.lss (b := true) rfl rfl (decide_eq_true hq2) ?_  -- 55 := binOp ('lss',) 3 ('tmp', 54) ('const', ('int', ('i64',), 1)) 3
              refine R.move ?_  -- 56 := move ('tmp', 55)
              refine R.gF rfl rfl rfl ?_  -- 57 := move ('tmp', 4)
              refine R.gF rfl rfl rfl ?_  -- 58 := move ('tmp', 5)
              refine R.gF rfl rfl rfl ?_  -- 59 := indexAddr 35 ('tmp', 57) ('tmp', 58)
              refine R.gF rfl rfl rfl ?_  -- 60 := load 3 ('tmp', 59)
              refine R.gF rfl rfl rfl ?_  -- 61 := binOp ('gtr',) 3 ('tmp', 60) ('const', ('int', ('i64',), 999999)) 3
              refine R.pickT rfl ?_  -- 62 := pick ('tmp', 56) ('const', ('bool', ('true',))) ('tmp', 61)
              refine R.nil ?_
              refine E.condT rfl ?_  -- cond t62
              refine E.seq ?_
              refine E.regionP rfl ?_  -- region 13
              refine R.assign ?_  -- 2 := assign ('const', ('bool', ('false',)))
              refine R.nil ?_
              refine E.ret ?_
              refine ret1 (.bool false) rfl rfl ⟨_, rfl, hE, ?_⟩  -- return 5 path 4FT0
              rw [rightB_false.2]
              exact not_right_prefix (i := j) (by omega) (fun hh => by omega)
            · refine E.regionP rfl ?_  -- region 12
              refine R.move ?_  -- 51 := move ('tmp', 4)
              refine R.move ?_  -- 52 := move ('tmp', 5)
              refine R.ix Try.underlying35 t3 (by decide) hS44.row rfl rfl (by omega) ?_  -- 53 := indexAddr 35 ('tmp', 51) ('tmp', 52)
              refine R.ld t3 hS44.row rfl (int_at (by omega)) rfl (fun _ _ => trivial) ?_  -- 54 := load 3 ('tmp', 53)
              refine R.lss (b := false) rfl rfl (decide_eq_false (by omega)) ?_  -- 55 := binOp ('lss',) 3 ('tmp', 54) ('const', ('int', ('i64',), 1)) 3
              refine R.move ?_  -- 56 := move ('tmp', 55)
              refine R.gT rfl rfl ?_
              refine R.move ?_  -- 57 := move ('tmp', 4)
              refine R.gT rfl rfl ?_
              refine R.move ?_  -- 58 := move ('tmp', 5)
              refine R.gT rfl rfl ?_
              refine R.ix Try.underlying35 t3 (by decide) hS44.row rfl rfl (by omega) ?_  -- 59 := indexAddr 35 ('tmp', 57) ('tmp', 58)
              refine R.gT rfl rfl ?_
              refine R.ld t3 hS44.row rfl (int_at (by omega)) rfl (fun _ _ => trivial) ?_  -- 60 := load 3 ('tmp', 59)
              refine R.gT rfl rfl ?_
              refine R.gtr (b := true) rfl rfl (decide_eq_true (by omega)) ?_  -- 61 := binOp ('gtr',) 3 ('tmp', 60) ('const', ('int', ('i64',), 999999)) 3
              refine R.pickF rfl ?_  -- 62 := pick ('tmp', 56) ('const', ('bool', ('true',))) ('tmp', 61)
              refine R.nil ?_
              refine E.condT rfl ?_  -- cond t62
              refine E.seq ?_
              refine E.regionP rfl ?_  -- region 13
              refine R.assign ?_  -- 2 := assign ('const', ('bool', ('false',)))
              refine R.nil ?_
              refine E.ret ?_
              refine ret1 (.bool false) rfl rfl ⟨_, rfl, hE, ?_⟩  -- return 6 path 4FT1
              rw [rightB_false.2]
              exact not_right_prefix (i := j) (by omega) (fun hh => by omega)
            · refine E.regionP rfl ?_  -- region 12
              refine R.move ?_  -- 51 := move ('tmp', 4)
              refine R.move ?_  -- 52 := move ('tmp', 5)
              refine R.ix Try.underlying35 t3 (by decide) hS44.row rfl rfl (by omega) ?_  -- 53 := indexAddr 35 ('tmp', 51) ('tmp', 52)
              refine R.ld t3 hS44.row rfl (int_at (by omega)) rfl (fun _ _ => trivial) ?_  -- 54 := load 3 ('tmp', 53)
              refine R.lss (b := false) rfl rfl (decide_eq_false (by omega)) ?_  -- 55 := binOp ('lss',) 3 ('tmp', 54) ('const', ('int', ('i64',), 1)) 3
              refine R.move ?_  -- 56 := move ('tmp', 55)
              refine R.gT rfl rfl ?_
              refine R.move ?_  -- 57 := move ('tmp', 4)
              refine R.gT rfl rfl ?_
              refine R.move ?_  -- 58 := move ('tmp', 5)
              refine R.gT rfl rfl ?_
              refine R.ix Try.underlying35 t3 (by decide) hS44.row rfl rfl (by omega) ?_  -- 59 := indexAddr 35 ('tmp', 57) ('tmp', 58)
              refine R.gT rfl rfl ?_
              refine R.ld t3 hS44.row rfl (int_at (by omega)) rfl (fun _ _ => trivial) ?_  -- 60 := load 3 ('tmp', 59)
              refine R.gT rfl rfl ?_
              refine R.gtr (b := false) rfl rfl (decide_eq_false (by omega)) ?_  -- 61 := binOp ('gtr',) 3 ('tmp', 60) ('const', ('int', ('i64',), 999999)) 3
              refine R.pickF rfl ?_  -- 62 := pick ('tmp', 56) ('const', ('bool', ('true',))) ('tmp', 61)
              refine R.nil ?_
              refine E.condF rfl ?_  -- cond t62
              refine E.skip ?_
              refine E.seq ?_
              refine E.regionP rfl ?_  -- region 14
              refine R.assign ?_  -- 6 := assign ('const', ('int', ('i64',), 0))
              refine R.nil ?_
              refine E.block ?_  -- block 4
              refine E.loop (fun n e wr => ∃ k : Nat, n = j - k ∧ k ≤ j ∧ Ext w wr ∧ SInts wr v44 xss.flatten ∧ xss.flatten[j] ∉ xss.flatten.take k ∧ Has e [(4, v44), (5, .int .i64 j), (6, .int .i64 k)]) (j) ?_ ?_
              · exact ⟨0, rfl, Nat.zero_le _, hE, hS44, by simp, rfl, rfl, rfl, trivial⟩
              · rintro n e wr ⟨k, rfl, hk, hE, hS44, hnk, hH⟩
                obtain ⟨e, rfl⟩ := hH.ex
                clear hH
                refine E.seq ?_
                refine E.seq ?_
                refine E.regionP rfl ?_  -- region 15
                refine R.move ?_  -- 63 := move ('tmp', 6)
                refine R.move ?_  -- 64 := move ('tmp', 5)
                refine R.lss rfl rfl rfl ?_  -- 65 := binOp ('lss',) 3 ('tmp', 63) ('tmp', 64) 3
                refine R.nil ?_
                refine E.cond rfl (fun hc65 => ?_) (fun hc65 => ?_)  -- cond t65
                · replace hc65 := dT hc65
                  refine E.skip ?_
                  refine E.seq ?_
                  refine E.block ?_  -- block 5
                  refine E.seq ?_
                  refine E.regionW allS [] mixed rfl (by kernel_rfl) ?_  -- region 17
                  intro w4 hx4 hh4
                  replace hS44 := hS44.ext hx4
                  replace hE := hE.ext hx4
                  refine R.move ?_  -- 68 := move ('tmp', 4)
                  refine R.move ?_  -- 69 := move ('tmp', 6)
                  refine R.ix Try.underlying35 t3 (by decide) hS44.row rfl rfl (by omega) ?_  -- 70 := indexAddr 35 ('tmp', 68) ('tmp', 69)
                  refine R.ld t3 hS44.row rfl (int_at (by omega)) rfl (fun _ _ => trivial) ?_  -- 71 := load 3 ('tmp', 70)
                  refine R.move ?_  -- 72 := move ('tmp', 4)
                  refine R.move ?_  -- 73 := move ('tmp', 5)
                  refine R.ix Try.underlying35 t3 (by decide) hS44.row rfl rfl (by omega) ?_  -- 74 := indexAddr 35 ('tmp', 72) ('tmp', 73)
                  refine R.ld t3 hS44.row rfl (int_at (by omega)) rfl (fun _ _ => trivial) ?_  -- 75 := load 3 ('tmp', 74)
                  refine R.eql rfl rfl rfl ?_  -- 76 := binOp ('eql',) 3 ('tmp', 71) ('tmp', 75) 3
                  refine R.nil ?_
                  refine E.cond rfl (fun hc76 => ?_) (fun hc76 => ?_)  -- cond t76
                  · replace hc76 := dT hc76
                    refine E.seq ?_
                    refine E.regionP rfl ?_  -- region 18
                    refine R.assign ?_  -- 2 := assign ('const', ('bool', ('false',)))
                    refine R.nil ?_
                    refine E.ret ?_
                    refine ret1 (.bool false) rfl rfl ⟨_, rfl, hE, ?_⟩  -- return 7 path 4FT2TT
                    rw [rightB_false.2]
                    refine not_right_prefix (i := j) (by omega) (fun hh => hh.2 ?_)
                    rw [← hc76]
                    exact List.mem_take_iff_getElem.2 ⟨k, by omega, rfl⟩
                  · replace hc76 := dF hc76
                    refine E.skip ?_
                    refine E.regionP rfl ?_  -- region 16
                    refine R.move ?_  -- 66 := move ('tmp', 6)
                    refine R.addN (n := 1) rfl rfl (by omega) ?_  -- 67 := binOp ('add',) 3 ('tmp', 66) ('const', ('int', ('i64',), 1)) 3
                    refine R.assign ?_  -- 6 := assign ('tmp', 67)
                    refine R.nil ?_
                    refine ⟨j - (k + 1), by omega, k + 1, rfl, by omega, hE, hS44, ?_, rfl, rfl, rfl, trivial⟩  -- round end 1 path 4FT2TF
                    rw [List.take_succ_eq_append_getElem (by omega), List.mem_append]
                    rintro (h1 | h1)
                    · exact hnk h1
                    · simp at h1; exact hc76 h1.symm
                · replace hc65 := dF hc65
                  refine E.exit ?_  -- exit 4
                  refine E.regionP rfl ?_  -- region 11
                  refine R.move ?_  -- 49 := move ('tmp', 5)
                  refine R.addN (n := 1) rfl rfl (by omega) ?_  -- 50 := binOp ('add',) 3 ('tmp', 49) ('const', ('int', ('i64',), 1)) 3
                  refine R.assign ?_  -- 5 := assign ('tmp', 50)
                  refine R.nil ?_
                  refine ⟨xss.flatten.length - (j + 1), by omega, j + 1, rfl, by omega, hE, hS44, ?_, ?_, rfl, rfl, trivial⟩  -- round end 2 path 4FT2F
                  · intro b hb
                    rw [List.take_succ_eq_append_getElem (by omega)] at hb
                    rcases List.mem_append.1 hb with hb | hb
                    · exact hrg b hb
                    · simp at hb; subst hb; exact hq2
                  · rw [List.take_succ_eq_append_getElem (by omega), List.nodup_append]
                    refine ⟨hnd, by simp, fun a ha b hb e => ?_⟩
                    simp at hb; subst hb; subst e
                    obtain rfl : k = j := by omega
                    exact hnk ha
          · replace hc48 := dF hc48
            refine E.exit ?_  -- exit 2
            refine E.seq ?_
            refine E.regionP rfl ?_  -- region 19
            refine R.assign ?_  -- 2 := assign ('const', ('bool', ('true',)))
            refine R.nil ?_
            refine E.ret ?_
            refine ret1 (.bool true) rfl rfl ⟨_, rfl, hE, ?_⟩  -- return 8 path 4FF
            obtain rfl : j = xss.flatten.length := by omega
            rw [List.take_length] at hrg hnd
            rw [rightB_true.2]
            exact ⟨by omega, by omega, by omega, by omega, hs, hrg, hnd⟩

end Go.Proofs.Ytfdmndkoiheebaa
