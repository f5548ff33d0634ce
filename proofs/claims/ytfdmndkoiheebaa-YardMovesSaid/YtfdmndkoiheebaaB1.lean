/- Right -/
import Derived.Test.YtfdmndkoiheebaaA7
import Derived.Test.YtfdmndkoiheebaaYard
namespace Go.Proofs.Ytfdmndkoiheebaa
open Go Go.RowKit


/-- What the map knows of the boxes that have been met. -/
structure Met (L : List Int) (M : List (Int × Int)) : Prop where
  range : ∀ b ∈ L, 1 ≤ b ∧ b ≤ 999999
  nodup : L.Nodup
  map : ∀ b, mget M b = if b ∈ L then some 1 else none
theorem Met.nil : Met [] [] := ⟨by simp, by simp, by simp [mget]⟩
theorem Met.getD {L : List Int} {M : List (Int × Int)} (h : Met L M) (b : Int) : (mget M b).getD 0 = if b ∈ L then 1 else 0 := by rw [h.map]; split <;> rfl
theorem Met.snoc {L : List Int} {M : List (Int × Int)} {b v : Int} (h : Met L M) (h1 : 1 ≤ b) (h2 : b ≤ 999999) (hn : b ∉ L) (hv : v = 1) : Met (L ++ [b]) (mset M b v) := by
  refine ⟨fun x hx => ?_, ?_, fun x => ?_⟩
  · rcases List.mem_append.1 hx with hx | hx
    · exact h.range x hx
    · simp at hx; subst hx; exact ⟨h1, h2⟩
  · rw [List.nodup_append]
    refine ⟨h.nodup, by simp, fun a ha c hc => ?_⟩
    simp at hc; subst hc
    exact fun e => hn (e ▸ ha)
  · rw [mget_mset, h.map, hv]
    by_cases hx : x = b
    · subst hx; simp
    · simp [hx]

theorem right (w : World) {v : Value} {h : Int} {us : List Value} {xss : List (List Int)} (hm : Mat w v us xss) (hl : xss.length < 1000000) (hx : ∀ xs ∈ xss, xs.length < 1000000) :
    Calls Try.prog 27 #[.agg #[v, .int .i64 h]] w (Ret fun r w' => Ext w w' ∧ r = .bool (rightB xss h)) := by
  refine calls_E (args := [.agg #[v, .int .i64 h]]) 65 Try.func27 rfl rfl (by simp) ?_
  have hE : Ext w w := Upd.refl w
  refine E.seq ?_
  refine E.regionP rfl ?_  -- region 0
  refine R.box rfl nofun ?_  -- 1 := box 24 ('tmp', 0)
  intro b1 w1 hb1 hx1 hB1
  replace hb1 := Nat.le_trans hE.size hb1
  replace hE := hE.ext hx1
  replace hB1 : Blk _ b1 24 #[v, .int .i64 h] := hB1
  refine R.assign ?_  -- 2 := assign ('const', ('bool', ('false',)))
  refine R.nil ?_
  refine E.seq ?_
  refine E.seq ?_
  rcases (show h < 1 ∨ (1 ≤ h ∧ 6 < h) ∨ (1 ≤ h ∧ h ≤ 6 ∧ xss.length < 1) ∨ (1 ≤ h ∧ h ≤ 6 ∧ 1 ≤ xss.length ∧ 30 < xss.length) ∨ (1 ≤ h ∧ h ≤ 6 ∧ 1 ≤ xss.length ∧ xss.length ≤ 30) by omega) with hq | hq | hq | hq | hq
  · refine E.regionP rfl ?_  -- region 1
    refine R.fld fa24_1 rfl ?_  -- 8 := fieldAddr 24 ('tmp', 1) 1
    refine R.loadB t3 hB1 rfl rfl rfl trivial ?_  -- 9 := load 3 ('tmp', 8)
    refine R.lss (b := true) rfl rfl (decide_eq_true hq) ?_  -- 10 := binOp ('lss',) 3 ('tmp', 9) ('const', ('int', ('i64',), 1)) 3
    refine R.move ?_  -- 11 := move ('tmp', 10)
    refine R.gF rfl rfl rfl ?_  -- 12 := fieldAddr 24 ('tmp', 1) 1
    refine R.gF rfl rfl rfl ?_  -- 13 := load 3 ('tmp', 12)
    refine R.gF rfl rfl rfl ?_  -- 14 := binOp ('gtr',) 3 ('tmp', 13) ('const', ('int', ('i64',), 6)) 3
    refine R.pickT rfl ?_  -- 15 := pick ('tmp', 11) ('const', ('bool', ('true',))) ('tmp', 14)
    refine R.move ?_  -- 16 := move ('tmp', 15)
    refine R.gF rfl rfl rfl ?_  -- 17 := fieldAddr 24 ('tmp', 1) 0
    refine R.gF rfl rfl rfl ?_  -- 18 := load 22 ('tmp', 17)
    refine R.gF rfl rfl rfl ?_  -- 19 := call {'callee': ('builtin', ('len',)), 'args': [('tmp', 18)], 'argTypes': [22]}
    refine R.gF rfl rfl rfl ?_  -- 20 := binOp ('lss',) 3 ('tmp', 19) ('const', ('int', ('i64',), 1)) 3
    refine R.pickT rfl ?_  -- 21 := pick ('tmp', 16) ('const', ('bool', ('true',))) ('tmp', 20)
    refine R.move ?_  -- 22 := move ('tmp', 21)
    refine R.gF rfl rfl rfl ?_  -- 23 := fieldAddr 24 ('tmp', 1) 0
    refine R.gF rfl rfl rfl ?_  -- 24 := load 22 ('tmp', 23)
    refine R.gF rfl rfl rfl ?_  -- 25 := call {'callee': ('builtin', ('len',)), 'args': [('tmp', 24)], 'argTypes': [22]}
    refine R.gF rfl rfl rfl ?_  -- 26 := binOp ('gtr',) 3 ('tmp', 25) ('const', ('int', ('i64',), 30)) 3
    refine R.pickT rfl ?_  -- 27 := pick ('tmp', 22) ('const', ('bool', ('true',))) ('tmp', 26)
    refine R.nil ?_
    refine E.condT rfl ?_  -- cond t27
    refine E.seq ?_
    refine E.regionP rfl ?_  -- region 2
    refine R.assign ?_  -- 2 := assign ('const', ('bool', ('false',)))
    refine R.nil ?_
    refine E.ret ?_
    refine ret1 (.bool false) rfl rfl ⟨_, rfl, hE, ?_⟩  -- return 0 path 0
    rw [rightB_false.2]
    rintro ⟨h1, h2, h3, h4, _⟩
    omega
  · refine E.regionP rfl ?_  -- region 1
    refine R.fld fa24_1 rfl ?_  -- 8 := fieldAddr 24 ('tmp', 1) 1
    refine R.loadB t3 hB1 rfl rfl rfl trivial ?_  -- 9 := load 3 ('tmp', 8)
    refine R.lss (b := false) rfl rfl (decide_eq_false (by omega)) ?_  -- 10 := binOp ('lss',) 3 ('tmp', 9) ('const', ('int', ('i64',), 1)) 3
    refine R.move ?_  -- 11 := move ('tmp', 10)
    refine R.gT rfl rfl ?_
    refine R.fld fa24_1 rfl ?_  -- 12 := fieldAddr 24 ('tmp', 1) 1
    refine R.gT rfl rfl ?_
    refine R.loadB t3 hB1 rfl rfl rfl trivial ?_  -- 13 := load 3 ('tmp', 12)
    refine R.gT rfl rfl ?_
    refine R.gtr (b := true) rfl rfl (decide_eq_true (by omega)) ?_  -- 14 := binOp ('gtr',) 3 ('tmp', 13) ('const', ('int', ('i64',), 6)) 3
    refine R.pickF rfl ?_  -- 15 := pick ('tmp', 11) ('const', ('bool', ('true',))) ('tmp', 14)
    refine R.move ?_  -- 16 := move ('tmp', 15)
    refine R.gF rfl rfl rfl ?_  -- 17 := fieldAddr 24 ('tmp', 1) 0
    refine R.gF rfl rfl rfl ?_  -- 18 := load 22 ('tmp', 17)
    refine R.gF rfl rfl rfl ?_  -- 19 := call {'callee': ('builtin', ('len',)), 'args': [('tmp', 18)], 'argTypes': [22]}
    refine R.gF rfl rfl rfl ?_  -- 20 := binOp ('lss',) 3 ('tmp', 19) ('const', ('int', ('i64',), 1)) 3
    refine R.pickT rfl ?_  -- 21 := pick ('tmp', 16) ('const', ('bool', ('true',))) ('tmp', 20)
    refine R.move ?_  -- 22 := move ('tmp', 21)
    refine R.gF rfl rfl rfl ?_  -- 23 := fieldAddr 24 ('tmp', 1) 0
    refine R.gF rfl rfl rfl ?_  -- 24 := load 22 ('tmp', 23)
    refine R.gF rfl rfl rfl ?_  -- 25 := call {'callee': ('builtin', ('len',)), 'args': [('tmp', 24)], 'argTypes': [22]}
    refine R.gF rfl rfl rfl ?_  -- 26 := binOp ('gtr',) 3 ('tmp', 25) ('const', ('int', ('i64',), 30)) 3
    refine R.pickT rfl ?_  -- 27 := pick ('tmp', 22) ('const', ('bool', ('true',))) ('tmp', 26)
    refine R.nil ?_
    refine E.condT rfl ?_  -- cond t27
    refine E.seq ?_
    refine E.regionP rfl ?_  -- region 2
    refine R.assign ?_  -- 2 := assign ('const', ('bool', ('false',)))
    refine R.nil ?_
    refine E.ret ?_
    refine ret1 (.bool false) rfl rfl ⟨_, rfl, hE, ?_⟩  -- return 1 path 1
    rw [rightB_false.2]
    rintro ⟨h1, h2, h3, h4, _⟩
    omega
  · refine E.regionP rfl ?_  -- region 1
    refine R.fld fa24_1 rfl ?_  -- 8 := fieldAddr 24 ('tmp', 1) 1
    refine R.loadB t3 hB1 rfl rfl rfl trivial ?_  -- 9 := load 3 ('tmp', 8)
    refine R.lss (b := false) rfl rfl (decide_eq_false (by omega)) ?_  -- 10 := binOp ('lss',) 3 ('tmp', 9) ('const', ('int', ('i64',), 1)) 3
    refine R.move ?_  -- 11 := move ('tmp', 10)
    refine R.gT rfl rfl ?_
    refine R.fld fa24_1 rfl ?_  -- 12 := fieldAddr 24 ('tmp', 1) 1
    refine R.gT rfl rfl ?_
    refine R.loadB t3 hB1 rfl rfl rfl trivial ?_  -- 13 := load 3 ('tmp', 12)
    refine R.gT rfl rfl ?_
    refine R.gtr (b := false) rfl rfl (decide_eq_false (by omega)) ?_  -- 14 := binOp ('gtr',) 3 ('tmp', 13) ('const', ('int', ('i64',), 6)) 3
    refine R.pickF rfl ?_  -- 15 := pick ('tmp', 11) ('const', ('bool', ('true',))) ('tmp', 14)
    refine R.move ?_  -- 16 := move ('tmp', 15)
    refine R.gT rfl rfl ?_
    refine R.fld fa24_0 rfl ?_  -- 17 := fieldAddr 24 ('tmp', 1) 0
    refine R.gT rfl rfl ?_
    refine R.loadB t22 hB1 rfl rfl rfl trivial ?_  -- 18 := load 22 ('tmp', 17)
    refine R.gT rfl rfl ?_
    refine R.len Try.underlying22 hm.row rfl ?_  -- 19 := call {'callee': ('builtin', ('len',)), 'args': [('tmp', 18)], 'argTypes': [22]}
    refine R.gT rfl rfl ?_
    refine R.lss (b := true) rfl rfl (decide_eq_true (by omega)) ?_  -- 20 := binOp ('lss',) 3 ('tmp', 19) ('const', ('int', ('i64',), 1)) 3
    refine R.pickF rfl ?_  -- 21 := pick ('tmp', 16) ('const', ('bool', ('true',))) ('tmp', 20)
    refine R.move ?_  -- 22 := move ('tmp', 21)
    refine R.gF rfl rfl rfl ?_  -- 23 := fieldAddr 24 ('tmp', 1) 0
    refine R.gF rfl rfl rfl ?_  -- 24 := load 22 ('tmp', 23)
    refine R.gF rfl rfl rfl ?_  -- 25 := call {'callee': ('builtin', ('len',)), 'args': [('tmp', 24)], 'argTypes': [22]}
    refine R.gF rfl rfl rfl ?_  -- 26 := binOp ('gtr',) 3 ('tmp', 25) ('const', ('int', ('i64',), 30)) 3
    refine R.pickT rfl ?_  -- 27 := pick ('tmp', 22) ('const', ('bool', ('true',))) ('tmp', 26)
    refine R.nil ?_
    refine E.condT rfl ?_  -- cond t27
    refine E.seq ?_
    refine E.regionP rfl ?_  -- region 2
    refine R.assign ?_  -- 2 := assign ('const', ('bool', ('false',)))
    refine R.nil ?_
    refine E.ret ?_
    refine ret1 (.bool false) rfl rfl ⟨_, rfl, hE, ?_⟩  -- return 2 path 2
    rw [rightB_false.2]
    rintro ⟨h1, h2, h3, h4, _⟩
    omega
  · refine E.regionP rfl ?_  -- region 1
    refine R.fld fa24_1 rfl ?_  -- 8 := fieldAddr 24 ('tmp', 1) 1
    refine R.loadB t3 hB1 rfl rfl rfl trivial ?_  -- 9 := load 3 ('tmp', 8)
    refine R.lss (b := false) rfl rfl (decide_eq_false (by omega)) ?_  -- 10 := binOp ('lss',) 3 ('tmp', 9) ('const', ('int', ('i64',), 1)) 3
    refine R.move ?_  -- 11 := move ('tmp', 10)
    refine R.gT rfl rfl ?_
    refine R.fld fa24_1 rfl ?_  -- 12 := fieldAddr 24 ('tmp', 1) 1
    refine R.gT rfl rfl ?_
    refine R.loadB t3 hB1 rfl rfl rfl trivial ?_  -- 13 := load 3 ('tmp', 12)
    refine R.gT rfl rfl ?_
    refine R.gtr (b := false) rfl rfl (decide_eq_false (by omega)) ?_  -- 14 := binOp ('gtr',) 3 ('tmp', 13) ('const', ('int', ('i64',), 6)) 3
    refine R.pickF rfl ?_  -- 15 := pick ('tmp', 11) ('const', ('bool', ('true',))) ('tmp', 14)
    refine R.move ?_  -- 16 := move ('tmp', 15)
    refine R.gT rfl rfl ?_
    refine R.fld fa24_0 rfl ?_  -- 17 := fieldAddr 24 ('tmp', 1) 0
    refine R.gT rfl rfl ?_
    refine R.loadB t22 hB1 rfl rfl rfl trivial ?_  -- 18 := load 22 ('tmp', 17)
    refine R.gT rfl rfl ?_
    refine R.len Try.underlying22 hm.row rfl ?_  -- 19 := call {'callee': ('builtin', ('len',)), 'args': [('tmp', 18)], 'argTypes': [22]}
    refine R.gT rfl rfl ?_
    refine R.lss (b := false) rfl rfl (decide_eq_false (by omega)) ?_  -- 20 := binOp ('lss',) 3 ('tmp', 19) ('const', ('int', ('i64',), 1)) 3
    refine R.pickF rfl ?_  -- 21 := pick ('tmp', 16) ('const', ('bool', ('true',))) ('tmp', 20)
    refine R.move ?_  -- 22 := move ('tmp', 21)
    refine R.gT rfl rfl ?_
    refine R.fld fa24_0 rfl ?_  -- 23 := fieldAddr 24 ('tmp', 1) 0
    refine R.gT rfl rfl ?_
    refine R.loadB t22 hB1 rfl rfl rfl trivial ?_  -- 24 := load 22 ('tmp', 23)
    refine R.gT rfl rfl ?_
    refine R.len Try.underlying22 hm.row rfl ?_  -- 25 := call {'callee': ('builtin', ('len',)), 'args': [('tmp', 24)], 'argTypes': [22]}
    refine R.gT rfl rfl ?_
    refine R.gtr (b := true) rfl rfl (decide_eq_true (by omega)) ?_  -- 26 := binOp ('gtr',) 3 ('tmp', 25) ('const', ('int', ('i64',), 30)) 3
    refine R.pickF rfl ?_  -- 27 := pick ('tmp', 22) ('const', ('bool', ('true',))) ('tmp', 26)
    refine R.nil ?_
    refine E.condT rfl ?_  -- cond t27
    refine E.seq ?_
    refine E.regionP rfl ?_  -- region 2
    refine R.assign ?_  -- 2 := assign ('const', ('bool', ('false',)))
    refine R.nil ?_
    refine E.ret ?_
    refine ret1 (.bool false) rfl rfl ⟨_, rfl, hE, ?_⟩  -- return 3 path 3
    rw [rightB_false.2]
    rintro ⟨h1, h2, h3, h4, _⟩
    omega
  · refine E.regionP rfl ?_  -- region 1
    refine R.fld fa24_1 rfl ?_  -- 8 := fieldAddr 24 ('tmp', 1) 1
    refine R.loadB t3 hB1 rfl rfl rfl trivial ?_  -- 9 := load 3 ('tmp', 8)
    refine R.lss (b := false) rfl rfl (decide_eq_false (by omega)) ?_  -- 10 := binOp ('lss',) 3 ('tmp', 9) ('const', ('int', ('i64',), 1)) 3
    refine R.move ?_  -- 11 := move ('tmp', 10)
    refine R.gT rfl rfl ?_
    refine R.fld fa24_1 rfl ?_  -- 12 := fieldAddr 24 ('tmp', 1) 1
    refine R.gT rfl rfl ?_
    refine R.loadB t3 hB1 rfl rfl rfl trivial ?_  -- 13 := load 3 ('tmp', 12)
    refine R.gT rfl rfl ?_
    refine R.gtr (b := false) rfl rfl (decide_eq_false (by omega)) ?_  -- 14 := binOp ('gtr',) 3 ('tmp', 13) ('const', ('int', ('i64',), 6)) 3
    refine R.pickF rfl ?_  -- 15 := pick ('tmp', 11) ('const', ('bool', ('true',))) ('tmp', 14)
    refine R.move ?_  -- 16 := move ('tmp', 15)
    refine R.gT rfl rfl ?_
    refine R.fld fa24_0 rfl ?_  -- 17 := fieldAddr 24 ('tmp', 1) 0
    refine R.gT rfl rfl ?_
    refine R.loadB t22 hB1 rfl rfl rfl trivial ?_  -- 18 := load 22 ('tmp', 17)
    refine R.gT rfl rfl ?_
    refine R.len Try.underlying22 hm.row rfl ?_  -- 19 := call {'callee': ('builtin', ('len',)), 'args': [('tmp', 18)], 'argTypes': [22]}
    refine R.gT rfl rfl ?_
    refine R.lss (b := false) rfl rfl (decide_eq_false (by omega)) ?_  -- 20 := binOp ('lss',) 3 ('tmp', 19) ('const', ('int', ('i64',), 1)) 3
    refine R.pickF rfl ?_  -- 21 := pick ('tmp', 16) ('const', ('bool', ('true',))) ('tmp', 20)
    refine R.move ?_  -- 22 := move ('tmp', 21)
    refine R.gT rfl rfl ?_
    refine R.fld fa24_0 rfl ?_  -- 23 := fieldAddr 24 ('tmp', 1) 0
    refine R.gT rfl rfl ?_
    refine R.loadB t22 hB1 rfl rfl rfl trivial ?_  -- 24 := load 22 ('tmp', 23)
    refine R.gT rfl rfl ?_
    refine R.len Try.underlying22 hm.row rfl ?_  -- 25 := call {'callee': ('builtin', ('len',)), 'args': [('tmp', 24)], 'argTypes': [22]}
    refine R.gT rfl rfl ?_
    refine R.gtr (b := false) rfl rfl (decide_eq_false (by omega)) ?_  -- 26 := binOp ('gtr',) 3 ('tmp', 25) ('const', ('int', ('i64',), 30)) 3
    refine R.pickF rfl ?_  -- 27 := pick ('tmp', 22) ('const', ('bool', ('true',))) ('tmp', 26)
    refine R.nil ?_
    refine E.condF rfl ?_  -- cond t27
    refine E.skip ?_
    refine E.seq ?_
    refine E.regionP rfl ?_  -- region 3
    refine R.makeMap nofun ?_  -- 28 := makeMap 97 ('none',)
    intro r28 w28 hr28 hx28 hM28
    replace hr28 := Nat.le_trans hE.size hr28
    replace hB1 := hB1.ext hx28
    replace hE := hE.ext hx28
    refine R.assign ?_  -- 3 := assign ('tmp', 28)
    refine R.nil ?_
    refine E.seq ?_
    refine E.seq ?_
    refine E.regionP rfl ?_  -- region 4
    refine R.fld fa24_0 rfl ?_  -- 29 := fieldAddr 24 ('tmp', 1) 0
    refine R.loadB t22 hB1 rfl rfl rfl trivial ?_  -- 30 := load 22 ('tmp', 29)
    refine R.len Try.underlying22 hm.row rfl ?_  -- 31 := call {'callee': ('builtin', ('len',)), 'args': [('tmp', 30)], 'argTypes': [22]}
    refine R.move ?_  -- 32 := move ('const', ('int', ('i64',), 0))
    refine R.nil ?_
    refine E.block ?_  -- block 0
    refine E.loop (fun n e wr => ∃ i : Nat, ∃ M : List (Int × Int), n = xss.length - i ∧ i ≤ xss.length ∧ Ext w wr ∧ Blk wr b1 24 #[v, .int .i64 h] ∧ MapI wr r28 M ∧ (∀ xs ∈ xss.take i, (xs.length : Int) ≤ h) ∧ Met (xss.take i).flatten M ∧ Has e [(1, .pointer (some ⟨b1, 0, none⟩)), (3, .map (some r28)), (30, v), (31, .int .i64 xss.length), (32, .int .i64 i)]) (xss.length) ?_ ?_
    · exact ⟨0, [], rfl, Nat.zero_le _, hE, hB1, hM28, by simp, Met.nil, rfl, rfl, rfl, rfl, rfl, trivial⟩
    · rintro n e wr ⟨i, M, rfl, hi, hE, hB1, hM, hs, hK, hH⟩
      obtain ⟨e, rfl⟩ := hH.ex
      clear hH
      refine E.seq ?_
      refine E.regionP rfl ?_  -- region 5
      refine R.lss rfl rfl rfl ?_  -- 33 := binOp ('lss',) 3 ('tmp', 32) ('tmp', 31) 3
      refine R.nil ?_
      refine E.seq ?_
      refine E.cond rfl (fun hc33 => ?_) (fun hc33 => ?_)  -- cond t33
      · replace hc33 := dT hc33
        refine E.skip ?_
        refine E.seq ?_
        refine E.block ?_  -- block 1
        refine E.seq ?_
        refine E.regionP rfl ?_  -- region 6
        refine R.ix Try.underlying22 t35 (by decide) hm.row rfl rfl (by omega) ?_  -- 34 := indexAddr 22 ('tmp', 30) ('tmp', 32)
        obtain ⟨u35, hu35, hr35⟩ := hm.get i (by omega)
        refine R.ld t35 (hm.row.ext hE) rfl hu35 rfl (fun _ _ => trivial) ?_  -- 35 := load 35 ('tmp', 34)
        refine R.assign ?_  -- 5 := assign ('tmp', 35)
        refine R.nil ?_
        refine E.seq ?_
        refine E.seq ?_
        refine E.regionP rfl ?_  -- region 7
        refine R.move ?_  -- 36 := move ('tmp', 5)
        refine R.len Try.underlying35 hr35 rfl ?_  -- 37 := call {'callee': ('builtin', ('len',)), 'args': [('tmp', 36)], 'argTypes': [35]}
        refine R.fld fa24_1 rfl ?_  -- 38 := fieldAddr 24 ('tmp', 1) 1
        refine R.loadB t3 hB1 rfl rfl rfl trivial ?_  -- 39 := load 3 ('tmp', 38)
        refine R.gtr rfl rfl rfl ?_  -- 40 := binOp ('gtr',) 3 ('tmp', 37) ('tmp', 39) 3
        refine R.nil ?_
        refine E.cond rfl (fun hc40 => ?_) (fun hc40 => ?_)  -- cond t40
        · replace hc40 := dT hc40
          refine E.seq ?_
          refine E.regionP rfl ?_  -- region 8
          refine R.assign ?_  -- 2 := assign ('const', ('bool', ('false',)))
          refine R.nil ?_
          refine E.ret ?_
          refine ret1 (.bool false) rfl rfl ⟨_, rfl, hE, ?_⟩  -- return 4 path 4TT
          rw [rightB_false.2]
          rintro ⟨_, _, _, _, h5, _⟩
          have := h5 xss[i] (List.getElem_mem _)
          omega
        · replace hc40 := dF hc40
          refine E.skip ?_
          refine E.seq ?_
          refine E.regionP rfl ?_  -- region 9
          refine R.move ?_  -- 41 := move ('tmp', 5)
          refine R.len Try.underlying35 hr35 rfl ?_  -- 42 := call {'callee': ('builtin', ('len',)), 'args': [('tmp', 41)], 'argTypes': [35]}
          refine R.move ?_  -- 43 := move ('const', ('int', ('i64',), 0))
          refine R.nil ?_
          refine E.block ?_  -- block 2
          refine E.loop (fun n e wr => ∃ j : Nat, ∃ M : List (Int × Int), n = xss[i].length - j ∧ j ≤ xss[i].length ∧ Ext w wr ∧ Blk wr b1 24 #[v, .int .i64 h] ∧ MapI wr r28 M ∧ Met ((xss.take i).flatten ++ xss[i].take j) M ∧ Has e [(1, .pointer (some ⟨b1, 0, none⟩)), (3, .map (some r28)), (30, v), (31, .int .i64 xss.length), (32, .int .i64 i), (41, u35), (42, .int .i64 xss[i].length), (43, .int .i64 j)]) (xss[i].length) ?_ ?_
          · exact ⟨0, M, rfl, Nat.zero_le _, hE, hB1, hM, by simpa using hK, rfl, rfl, rfl, rfl, rfl, rfl, rfl, rfl, trivial⟩
          · rintro n e wr ⟨j, M, rfl, hj, hE, hB1, hM, hK, hH⟩
            obtain ⟨e, rfl⟩ := hH.ex
            clear hH
            have hr := hr28
            have hxl := hx xss[i] (List.getElem_mem _)
            refine E.seq ?_
            refine E.regionP rfl ?_  -- region 10
            refine R.lss rfl rfl rfl ?_  -- 44 := binOp ('lss',) 3 ('tmp', 43) ('tmp', 42) 3
            refine R.nil ?_
            refine E.seq ?_
            refine E.cond rfl (fun hc44 => ?_) (fun hc44 => ?_)  -- cond t44
            · replace hc44 := dT hc44
              refine E.skip ?_
              refine E.seq ?_
              refine E.block ?_  -- block 3
              refine E.seq ?_
              refine E.regionP rfl ?_  -- region 11
              refine R.ix Try.underlying35 t3 (by decide) hr35 rfl rfl (by omega) ?_  -- 45 := indexAddr 35 ('tmp', 41) ('tmp', 43)
              refine R.ld t3 (hr35.ext hE) rfl (int_at (by omega)) rfl (fun _ _ => trivial) ?_  -- 46 := load 3 ('tmp', 45)
              refine R.assign ?_  -- 7 := assign ('tmp', 46)
              refine R.nil ?_
              refine E.seq ?_
              refine E.regionP rfl ?_  -- region 12
              refine R.move ?_  -- 47 := move ('tmp', 3)
              refine R.move ?_  -- 48 := move ('tmp', 7)
              have hg := hK.getD (xss[i][j])  -- 49 := lookup 97 ('tmp', 47) ('tmp', 48) ('false',)
              refine R.look Try.underlying97 Try.underlying3 t3 hM rfl rfl trivial ?_
              refine R.add rfl rfl (by rw [hg]; split <;> omega) (by rw [hg]; split <;> omega) ?_  -- 50 := binOp ('add',) 3 ('tmp', 49) ('const', ('int', ('i64',), 1)) 3
              refine R.mapSet Try.underlying97 Try.underlying3 hM rfl rfl rfl nofun ?_  -- None := mapUpdate 97 ('tmp', 47) ('tmp', 48) ('tmp', 50)
              intro w50 hU50 hs50 hM50
              replace hB1 := hB1.up hU50 (fun e => hM.ne hB1 e.symm)
              replace hE := hE.own hU50 hr
              refine R.nil ?_
              refine E.seq ?_
              rcases (show xss[i][j] < 1 ∨ (1 ≤ xss[i][j] ∧ 999999 < xss[i][j]) ∨ (1 ≤ xss[i][j] ∧ xss[i][j] ≤ 999999) by omega) with hq2 | hq2 | hq2
              rotate_left 2
              by_cases hin : xss[i][j] ∈ (xss.take i).flatten ++ xss[i].take j
              rotate_left 2
              · refine E.regionP rfl ?_  -- region 13
                refine R.move ?_  -- 51 := move ('tmp', 7)
                refine R.lss (b := true) rfl rfl (decide_eq_true hq2) ?_  -- 52 := binOp ('lss',) 3 ('tmp', 51) ('const', ('int', ('i64',), 1)) 3
                refine R.move ?_  -- 53 := move ('tmp', 52)
                refine R.gF rfl rfl rfl ?_  -- 54 := move ('tmp', 7)
                refine R.gF rfl rfl rfl ?_  -- 55 := binOp ('gtr',) 3 ('tmp', 54) ('const', ('int', ('i64',), 999999)) 3
                refine R.pickT rfl ?_  -- 56 := pick ('tmp', 53) ('const', ('bool', ('true',))) ('tmp', 55)
                refine R.move ?_  -- 57 := move ('tmp', 56)
                refine R.gF rfl rfl rfl ?_  -- 58 := move ('tmp', 3)
                refine R.gF rfl rfl rfl ?_  -- 59 := move ('tmp', 7)
                refine R.gF rfl rfl rfl ?_  -- 60 := lookup 97 ('tmp', 58) ('tmp', 59) ('false',)
                refine R.gF rfl rfl rfl ?_  -- 61 := binOp ('gtr',) 3 ('tmp', 60) ('const', ('int', ('i64',), 1)) 3
                refine R.pickT rfl ?_  -- 62 := pick ('tmp', 57) ('const', ('bool', ('true',))) ('tmp', 61)
                refine R.nil ?_
                refine E.condT rfl ?_  -- cond t62
                refine E.seq ?_
                refine E.regionP rfl ?_  -- region 14
                refine R.assign ?_  -- 2 := assign ('const', ('bool', ('false',)))
                refine R.nil ?_
                refine E.ret ?_
                refine ret1 (.bool false) rfl rfl ⟨_, rfl, hE, ?_⟩  -- return 5 path 4TFT0
                rw [rightB_false.2]
                obtain ⟨rr, hrr⟩ := flatten_prefix (xss := xss) (i := i) (j := j + 1) (by omega)
                refine not_right_of_prefix hrr (fun hh => ?_)
                rw [List.take_succ_eq_append_getElem (by omega), ← List.append_assoc] at hh
                have := hh.1 xss[i][j] (List.mem_append_right _ (List.mem_singleton.2 rfl))
                omega
              · refine E.regionP rfl ?_  -- region 13
                refine R.move ?_  -- 51 := move ('tmp', 7)
                refine R.lss (b := false) rfl rfl (decide_eq_false (by omega)) ?_  -- 52 := binOp ('lss',) 3 ('tmp', 51) ('const', ('int', ('i64',), 1)) 3
                refine R.move ?_  -- 53 := move ('tmp', 52)
                refine R.gT rfl rfl ?_
                refine R.move ?_  -- 54 := move ('tmp', 7)
                refine R.gT rfl rfl ?_
                refine R.gtr (b := true) rfl rfl (decide_eq_true (by omega)) ?_  -- 55 := binOp ('gtr',) 3 ('tmp', 54) ('const', ('int', ('i64',), 999999)) 3
                refine R.pickF rfl ?_  -- 56 := pick ('tmp', 53) ('const', ('bool', ('true',))) ('tmp', 55)
                refine R.move ?_  -- 57 := move ('tmp', 56)
                refine R.gF rfl rfl rfl ?_  -- 58 := move ('tmp', 3)
                refine R.gF rfl rfl rfl ?_  -- 59 := move ('tmp', 7)
                refine R.gF rfl rfl rfl ?_  -- 60 := lookup 97 ('tmp', 58) ('tmp', 59) ('false',)
                refine R.gF rfl rfl rfl ?_  -- 61 := binOp ('gtr',) 3 ('tmp', 60) ('const', ('int', ('i64',), 1)) 3
                refine R.pickT rfl ?_  -- 62 := pick ('tmp', 57) ('const', ('bool', ('true',))) ('tmp', 61)
                refine R.nil ?_
                refine E.condT rfl ?_  -- cond t62
                refine E.seq ?_
                refine E.regionP rfl ?_  -- region 14
                refine R.assign ?_  -- 2 := assign ('const', ('bool', ('false',)))
                refine R.nil ?_
                refine E.ret ?_
                refine ret1 (.bool false) rfl rfl ⟨_, rfl, hE, ?_⟩  -- return 6 path 4TFT1
                rw [rightB_false.2]
                obtain ⟨rr, hrr⟩ := flatten_prefix (xss := xss) (i := i) (j := j + 1) (by omega)
                refine not_right_of_prefix hrr (fun hh => ?_)
                rw [List.take_succ_eq_append_getElem (by omega), ← List.append_assoc] at hh
                have := hh.1 xss[i][j] (List.mem_append_right _ (List.mem_singleton.2 rfl))
                omega
              · refine E.regionP rfl ?_  -- region 13
                refine R.move ?_  -- 51 := move ('tmp', 7)
                refine R.lss (b := false) rfl rfl (decide_eq_false (by omega)) ?_  -- 52 := binOp ('lss',) 3 ('tmp', 51) ('const', ('int', ('i64',), 1)) 3
                refine R.move ?_  -- 53 := move ('tmp', 52)
                refine R.gT rfl rfl ?_
                refine R.move ?_  -- 54 := move ('tmp', 7)
                refine R.gT rfl rfl ?_
                refine R.gtr (b := false) rfl rfl (decide_eq_false (by omega)) ?_  -- 55 := binOp ('gtr',) 3 ('tmp', 54) ('const', ('int', ('i64',), 999999)) 3
                refine R.pickF rfl ?_  -- 56 := pick ('tmp', 53) ('const', ('bool', ('true',))) ('tmp', 55)
                refine R.move ?_  -- 57 := move ('tmp', 56)
                refine R.gT rfl rfl ?_
                refine R.move ?_  -- 58 := move ('tmp', 3)
                refine R.gT rfl rfl ?_
                refine R.move ?_  -- 59 := move ('tmp', 7)
                refine R.gT rfl rfl ?_
                refine R.look Try.underlying97 Try.underlying3 t3 hM50 rfl rfl trivial ?_  -- 60 := lookup 97 ('tmp', 58) ('tmp', 59) ('false',)
                refine R.gT rfl rfl ?_
                refine R.gtr (b := true) rfl rfl (decide_eq_true (by rw [mget_mset, if_pos rfl, hg, if_pos hin]; decide)) ?_  -- 61 := binOp ('gtr',) 3 ('tmp', 60) ('const', ('int', ('i64',), 1)) 3
                refine R.pickF rfl ?_  -- 62 := pick ('tmp', 57) ('const', ('bool', ('true',))) ('tmp', 61)
                refine R.nil ?_
                refine E.condT rfl ?_  -- cond t62
                refine E.seq ?_
                refine E.regionP rfl ?_  -- region 14
                refine R.assign ?_  -- 2 := assign ('const', ('bool', ('false',)))
                refine R.nil ?_
                refine E.ret ?_
                refine ret1 (.bool false) rfl rfl ⟨_, rfl, hE, ?_⟩  -- return 7 path 4TFT2
                rw [rightB_false.2]
                obtain ⟨rr, hrr⟩ := flatten_prefix (xss := xss) (i := i) (j := j + 1) (by omega)
                refine not_right_of_prefix hrr (fun hh => ?_)
                rw [List.take_succ_eq_append_getElem (by omega), ← List.append_assoc] at hh
                have := (List.nodup_append.1 hh.2).2.2 _ hin _ (List.mem_singleton.2 rfl)
                exact this rfl
              · refine E.regionP rfl ?_  -- region 13
                refine R.move ?_  -- 51 := move ('tmp', 7)
                refine R.lss (b := false) rfl rfl (decide_eq_false (by omega)) ?_  -- 52 := binOp ('lss',) 3 ('tmp', 51) ('const', ('int', ('i64',), 1)) 3
                refine R.move ?_  -- 53 := move ('tmp', 52)
                refine R.gT rfl rfl ?_
                refine R.move ?_  -- 54 := move ('tmp', 7)
                refine R.gT rfl rfl ?_
                refine R.gtr (b := false) rfl rfl (decide_eq_false (by omega)) ?_  -- 55 := binOp ('gtr',) 3 ('tmp', 54) ('const', ('int', ('i64',), 999999)) 3
                refine R.pickF rfl ?_  -- 56 := pick ('tmp', 53) ('const', ('bool', ('true',))) ('tmp', 55)
                refine R.move ?_  -- 57 := move ('tmp', 56)
                refine R.gT rfl rfl ?_
                refine R.move ?_  -- 58 := move ('tmp', 3)
                refine R.gT rfl rfl ?_
                refine R.move ?_  -- 59 := move ('tmp', 7)
                refine R.gT rfl rfl ?_
                refine R.look Try.underlying97 Try.underlying3 t3 hM50 rfl rfl trivial ?_  -- 60 := lookup 97 ('tmp', 58) ('tmp', 59) ('false',)
                refine R.gT rfl rfl ?_
                refine R.gtr (b := false) rfl rfl (decide_eq_false (by rw [mget_mset, if_pos rfl, hg, if_neg hin]; decide)) ?_  -- 61 := binOp ('gtr',) 3 ('tmp', 60) ('const', ('int', ('i64',), 1)) 3
                refine R.pickF rfl ?_  -- 62 := pick ('tmp', 57) ('const', ('bool', ('true',))) ('tmp', 61)
                refine R.nil ?_
                refine E.condF rfl ?_  -- cond t62
                refine E.skip ?_
                refine E.regionP rfl ?_  -- region 15
                refine R.addN (n := 1) rfl rfl (by omega) ?_  -- 63 := binOp ('add',) 3 ('tmp', 43) ('const', ('int', ('i64',), 1)) 3
                refine R.move ?_  -- 43 := move ('tmp', 63)
                refine R.nil ?_
                refine ⟨xss[i].length - (j + 1), by omega, j + 1, _, rfl, by omega, hE, hB1, hM50, ?_, rfl, rfl, rfl, rfl, rfl, rfl, rfl, rfl, trivial⟩  -- round end 0 path 4TFT3
                rw [List.take_succ_eq_append_getElem (by omega), ← List.append_assoc]
                exact hK.snoc (by omega) (by omega) hin (by rw [hg, if_neg hin]; rfl)
            · replace hc44 := dF hc44
              refine E.exit ?_  -- exit 2
              refine E.regionP rfl ?_  -- region 16
              refine R.addN (n := 1) rfl rfl (by omega) ?_  -- 64 := binOp ('add',) 3 ('tmp', 32) ('const', ('int', ('i64',), 1)) 3
              refine R.move ?_  -- 32 := move ('tmp', 64)
              refine R.nil ?_
              refine ⟨xss.length - (i + 1), by omega, i + 1, M, rfl, by omega, hE, hB1, hM, ?_, ?_, rfl, rfl, rfl, rfl, rfl, trivial⟩  -- round end 1 path 4TFF
              · intro xs hxs
                rw [List.take_succ_eq_append_getElem (by omega)] at hxs
                rcases List.mem_append.1 hxs with hxs | hxs
                · exact hs xs hxs
                · simp at hxs; subst hxs; omega
              · rw [flatten_take_succ (by omega)]
                have hjl : j = xss[i].length := by omega
                rwa [hjl, List.take_length] at hK
      · replace hc33 := dF hc33
        refine E.exit ?_  -- exit 0
        refine E.seq ?_
        refine E.regionP rfl ?_  -- region 17
        refine R.assign ?_  -- 2 := assign ('const', ('bool', ('true',)))
        refine R.nil ?_
        refine E.ret ?_
        refine ret1 (.bool true) rfl rfl ⟨_, rfl, hE, ?_⟩  -- return 8 path 4F
        obtain rfl : i = xss.length := by omega
        rw [List.take_length] at hK hs
        rw [rightB_true.2]
        exact ⟨by omega, by omega, by omega, by omega, hs, hK.range, hK.nodup⟩

end Go.Proofs.Ytfdmndkoiheebaa
