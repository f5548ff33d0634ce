/- Comparing yards -/
import Derived.Test.YtfdmndkoiheebaaA1
namespace Go.Proofs.Ytfdmndkoiheebaa
open Go Go.RowKit

theorem sameWaters (w : World) {v1 v2 : Value} {us1 us2 : List Value} {xss yss : List (List Int)} (h1 : Mat w v1 us1 xss) (h2 : Mat w v2 us2 yss) (hl1 : xss.length < 1000000000) (hl2 : yss.length < 1000000000)
    (hx : ∀ xs ∈ xss, xs.length < 1000000000) (hy : ∀ ys ∈ yss, ys.length < 1000000000) :
    Calls Try.prog 65 #[v1, v2] w (Ret fun v w' => Ext w w' ∧ v = .bool (decide (xss = yss))) := by
  refine calls_E (args := [v1, v2]) 27 Try.func65 rfl rfl (by simp) ?_
  have hE : Ext w w := Upd.refl w
  refine E.seq ?_
  refine E.regionP rfl ?_  -- region 0
  refine R.assign ?_  -- 4 := assign ('const', ('bool', ('false',)))
  refine R.nil ?_
  refine E.seq ?_
  refine E.seq ?_
  refine E.regionP rfl ?_  -- region 1
  refine R.move ?_  -- 6 := move ('tmp', 0)
  refine R.len Try.underlying22 h1.row rfl ?_  -- 7 := call {'callee': ('builtin', ('len',)), 'args': [('tmp', 6)], 'argTypes': [22]}
  refine R.move ?_  -- 8 := move ('tmp', 1)
  refine R.len Try.underlying22 h2.row rfl ?_  -- 9 := call {'callee': ('builtin', ('len',)), 'args': [('tmp', 8)], 'argTypes': [22]}
  refine R.neq rfl rfl rfl ?_  -- 10 := binOp ('neq',) 3 ('tmp', 7) ('tmp', 9) 3
  refine R.nil ?_
  refine E.cond rfl (fun hc10 => ?_) (fun hc10 => ?_)  -- cond t10
  · replace hc10 := nT hc10
    refine E.seq ?_
    refine E.regionP rfl ?_  -- region 2
    refine R.assign ?_  -- 4 := assign ('const', ('bool', ('false',)))
    refine R.nil ?_
    refine E.ret ?_
    refine ret1 (.bool false) rfl rfl ⟨_, rfl, hE, ?_⟩  -- return 0 path T
    have : xss ≠ yss := fun h => hc10 (by rw [h])
    simp [this]
  · replace hc10 := nF hc10
    refine E.skip ?_
    refine E.seq ?_
    refine E.seq ?_
    refine E.regionP rfl ?_  -- region 3
    refine R.assign ?_  -- 5 := assign ('const', ('int', ('i64',), 0))
    refine R.nil ?_
    refine E.block ?_  -- block 0
    refine E.loop (fun n e wr => ∃ k : Nat, n = xss.length - k ∧ k ≤ xss.length ∧ xss.take k = yss.take k ∧ Ext w wr ∧ Has e [(0, v1), (1, v2), (5, .int .i64 k)]) (xss.length) ?_ ?_
    · exact ⟨0, rfl, Nat.zero_le _, rfl, hE, rfl, rfl, rfl, trivial⟩
    · rintro n e wr ⟨k, rfl, hk, htk, hE, hH⟩
      obtain ⟨e, rfl⟩ := hH.ex
      clear hH
      refine E.seq ?_
      refine E.seq ?_
      refine E.regionP rfl ?_  -- region 4
      refine R.move ?_  -- 11 := move ('tmp', 5)
      refine R.move ?_  -- 12 := move ('tmp', 0)
      refine R.len Try.underlying22 h1.row rfl ?_  -- 13 := call {'callee': ('builtin', ('len',)), 'args': [('tmp', 12)], 'argTypes': [22]}
      refine R.lss rfl rfl rfl ?_  -- 14 := binOp ('lss',) 3 ('tmp', 11) ('tmp', 13) 3
      refine R.nil ?_
      refine E.cond rfl (fun hc14 => ?_) (fun hc14 => ?_)  -- cond t14
      · replace hc14 := dT hc14
        refine E.skip ?_
        refine E.seq ?_
        refine E.block ?_  -- block 1
        refine E.seq ?_
        refine E.regionW (fun _ b => b < wr.heap.size) [] mixed rfl (by kernel_rfl) ?_  -- region 6
        intro w1 hx1 hh1
        replace hE := hE.ext hx1
        have hEs : Ext w1 w1 := Upd.refl _
        have hS0 := hx1.size
        have hSs : ∀ b, b < w1.heap.size → b < wr.heap.size := fun b hb => by rw [hh1] at hb; exact hb
        have hSa : ∀ b, b < w.heap.size → b < wr.heap.size := fun b hb => by have := hE.size; rw [hh1] at this; omega
        refine R.move ?_  -- 17 := move ('tmp', 0)
        refine R.move ?_  -- 18 := move ('tmp', 5)
        refine R.ix Try.underlying22 t35 (by decide) h1.row rfl rfl (by omega) ?_  -- 19 := indexAddr 22 ('tmp', 17) ('tmp', 18)
        obtain ⟨u20, hu20, hr20⟩ := h1.get k (by omega)
        refine R.ldE t35 h1.row hE rfl hu20 rfl hSa ?_  -- 20 := load 35 ('tmp', 19)
        refine R.move ?_  -- 21 := move ('tmp', 1)
        refine R.move ?_  -- 22 := move ('tmp', 5)
        refine R.ix Try.underlying22 t35 (by decide) h2.row rfl rfl (by omega) ?_  -- 23 := indexAddr 22 ('tmp', 21) ('tmp', 22)
        obtain ⟨u24, hu24, hr24⟩ := h2.get k (by omega)
        refine R.ldE t35 h2.row hE rfl hu24 rfl hSa ?_  -- 24 := load 35 ('tmp', 23)
        refine R.callE2 ent56 (sameInts _ (hr20.ext hE) (hr24.ext hE) (hx _ (List.getElem_mem _)) (hy _ (List.getElem_mem _))) rfl rfl (fun _ _ hb => Nat.lt_of_lt_of_le hb (Nat.le_trans hS0 hEs.size)) ?_  -- 25 := call {'callee': ('value', ('func', 56)), 'args': [('tmp', 20), ('tmp', 24)], 'argTypes': [35, 35]}
        rintro v25 w2 hx2 rfl
        replace hE := hE.ext hx2
        replace hEs := hEs.ext hx2
        refine R.not rfl ?_  -- 26 := unOp ('not',) 4 ('tmp', 25)
        refine R.nil ?_
        refine E.cond rfl (fun hc26 => ?_) (fun hc26 => ?_)  -- cond t26
        · refine E.seq ?_
          refine E.regionP rfl ?_  -- region 7
          refine R.assign ?_  -- 4 := assign ('const', ('bool', ('false',)))
          refine R.nil ?_
          refine E.ret ?_
          refine ret1 (.bool false) rfl rfl ⟨_, rfl, hE, ?_⟩  -- return 1 path FTT
          have : xss ≠ yss := fun h => (nT hc26) (by subst h; rfl)
          simp [this]
        · refine E.skip ?_
          refine E.regionP rfl ?_  -- region 5
          refine R.move ?_  -- 15 := move ('tmp', 5)
          refine R.addN (n := 1) rfl rfl (by omega) ?_  -- 16 := binOp ('add',) 3 ('tmp', 15) ('const', ('int', ('i64',), 1)) 3
          refine R.assign ?_  -- 5 := assign ('tmp', 16)
          refine R.nil ?_
          refine ⟨xss.length - (k + 1), by omega, k + 1, rfl, by omega, ?_, hE, rfl, rfl, rfl, trivial⟩  -- round end 0 path FTF
          rw [List.take_succ_eq_append_getElem (by omega), List.take_succ_eq_append_getElem (by omega), htk, nF hc26]
      · replace hc14 := dF hc14
        refine E.exit ?_  -- exit 0
        refine E.seq ?_
        refine E.regionP rfl ?_  -- region 8
        refine R.assign ?_  -- 4 := assign ('const', ('bool', ('true',)))
        refine R.nil ?_
        refine E.ret ?_
        refine ret1 (.bool true) rfl rfl ⟨_, rfl, hE, ?_⟩  -- return 2 path FF
        obtain rfl : k = xss.length := by omega
        have hlen : xss.length = yss.length := by omega
        rw [List.take_length, hlen, List.take_length] at htk
        simp [htk]

theorem same (w : World) {v1 v2 : Value} {k1 k2 : Int} {us1 us2 : List Value} {xss yss : List (List Int)} (h1 : Mat w v1 us1 xss) (h2 : Mat w v2 us2 yss) (hl1 : xss.length < 1000000000) (hl2 : yss.length < 1000000000)
    (hx : ∀ xs ∈ xss, xs.length < 1000000000) (hy : ∀ ys ∈ yss, ys.length < 1000000000) :
    Calls Try.prog 28 #[.agg #[v1, .int .i64 k1], .agg #[v2, .int .i64 k2]] w (Ret fun v w' => Ext w w' ∧ v = .bool (decide (k1 = k2 ∧ xss = yss))) := by
  by_cases hk : k1 = k2
  · refine calls_E (args := [.agg #[v1, .int .i64 k1], .agg #[v2, .int .i64 k2]]) 17 Try.func28 rfl rfl (by simp) ?_
    have hE : Ext w w := Upd.refl w
    refine E.seq ?_
    refine E.regionP rfl ?_  -- region 0
    refine R.box rfl nofun ?_  -- 2 := box 24 ('tmp', 0)
    intro b2 w1 hb2 hx1 hB2
    replace hb2 := Nat.le_trans hE.size hb2
    replace hE := hE.ext hx1
    replace hB2 : Blk _ b2 24 #[_, _] := hB2
    refine R.box rfl nofun ?_  -- 3 := box 24 ('tmp', 1)
    intro b3 w2 hb3 hx2 hB3
    have ne2_3 : b2 ≠ b3 := by have := hB2.lt; omega
    replace hb3 := Nat.le_trans hE.size hb3
    replace hB2 := hB2.ext hx2
    replace hE := hE.ext hx2
    replace hB3 : Blk _ b3 24 #[_, _] := hB3
    refine R.assign ?_  -- 4 := assign ('const', ('bool', ('false',)))
    refine R.nil ?_
    refine E.seq ?_
    refine E.regionP rfl ?_  -- region 1
    refine R.fld fa24_1 rfl ?_  -- 5 := fieldAddr 24 ('tmp', 2) 1
    refine R.loadB t3 hB2 rfl rfl rfl trivial ?_  -- 6 := load 3 ('tmp', 5)
    refine R.fld fa24_1 rfl ?_  -- 7 := fieldAddr 24 ('tmp', 3) 1
    refine R.loadB t3 hB3 rfl rfl rfl trivial ?_  -- 8 := load 3 ('tmp', 7)
    refine R.eql (b := true) rfl rfl (decide_eq_true hk) ?_  -- 9 := binOp ('eql',) 3 ('tmp', 6) ('tmp', 8) 3
    refine R.move ?_  -- 10 := move ('tmp', 9)
    refine R.gT rfl rfl ?_
    refine R.fld fa24_0 rfl ?_  -- 11 := fieldAddr 24 ('tmp', 2) 0
    refine R.gT rfl rfl ?_
    refine R.loadB t22 hB2 rfl rfl rfl trivial ?_  -- 12 := load 22 ('tmp', 11)
    refine R.gT rfl rfl ?_
    refine R.fld fa24_0 rfl ?_  -- 13 := fieldAddr 24 ('tmp', 3) 0
    refine R.gT rfl rfl ?_
    refine R.loadB t22 hB3 rfl rfl rfl trivial ?_  -- 14 := load 22 ('tmp', 13)
    refine R.gT rfl rfl ?_
    refine R.callE2 ent65 (sameWaters _ (h1.ext hE) (h2.ext hE) hl1 hl2 hx hy) rfl rfl nofun ?_  -- 15 := call {'callee': ('value', ('func', 65)), 'args': [('tmp', 12), ('tmp', 14)], 'argTypes': [22, 22]}
    rintro v15 w3 hx3 rfl
    replace hB2 := hB2.ext hx3
    replace hB3 := hB3.ext hx3
    replace hE := hE.ext hx3
    refine R.pickT rfl ?_  -- 16 := pick ('tmp', 10) ('tmp', 15) ('const', ('bool', ('false',)))
    refine R.assign ?_  -- 4 := assign ('tmp', 16)
    refine R.nil ?_
    refine E.ret ?_
    refine ret1 (.bool (decide (xss = yss))) rfl rfl ⟨_, rfl, hE, ?_⟩  -- return 0 path 
    simp [hk]
  · refine calls_E (args := [.agg #[v1, .int .i64 k1], .agg #[v2, .int .i64 k2]]) 17 Try.func28 rfl rfl (by simp) ?_
    have hE : Ext w w := Upd.refl w
    refine E.seq ?_
    refine E.regionP rfl ?_  -- region 0
    refine R.box rfl nofun ?_  -- 2 := box 24 ('tmp', 0)
    intro b2 w1 hb2 hx1 hB2
    replace hb2 := Nat.le_trans hE.size hb2
    replace hE := hE.ext hx1
    replace hB2 : Blk _ b2 24 #[_, _] := hB2
    refine R.box rfl nofun ?_  -- 3 := box 24 ('tmp', 1)
    intro b3 w2 hb3 hx2 hB3
    have ne2_3 : b2 ≠ b3 := by have := hB2.lt; omega
    replace hb3 := Nat.le_trans hE.size hb3
    replace hB2 := hB2.ext hx2
    replace hE := hE.ext hx2
    replace hB3 : Blk _ b3 24 #[_, _] := hB3
    refine R.assign ?_  -- 4 := assign ('const', ('bool', ('false',)))
    refine R.nil ?_
    refine E.seq ?_
    refine E.regionP rfl ?_  -- region 1
    refine R.fld fa24_1 rfl ?_  -- 5 := fieldAddr 24 ('tmp', 2) 1
    refine R.loadB t3 hB2 rfl rfl rfl trivial ?_  -- 6 := load 3 ('tmp', 5)
    refine R.fld fa24_1 rfl ?_  -- 7 := fieldAddr 24 ('tmp', 3) 1
    refine R.loadB t3 hB3 rfl rfl rfl trivial ?_  -- 8 := load 3 ('tmp', 7)
    refine R.eql (b := false) rfl rfl (decide_eq_false hk) ?_  -- 9 := binOp ('eql',) 3 ('tmp', 6) ('tmp', 8) 3
    refine R.move ?_  -- 10 := move ('tmp', 9)
    refine R.gF rfl rfl rfl ?_  -- 11 := fieldAddr 24 ('tmp', 2) 0
    refine R.gF rfl rfl rfl ?_  -- 12 := load 22 ('tmp', 11)
    refine R.gF rfl rfl rfl ?_  -- 13 := fieldAddr 24 ('tmp', 3) 0
    refine R.gF rfl rfl rfl ?_  -- 14 := load 22 ('tmp', 13)
    refine R.gF rfl rfl rfl ?_  -- 15 := call {'callee': ('value', ('func', 65)), 'args': [('tmp', 12), ('tmp', 14)], 'argTypes': [22, 22]}
    refine R.pickF rfl ?_  -- 16 := pick ('tmp', 10) ('tmp', 15) ('const', ('bool', ('false',)))
    refine R.assign ?_  -- 4 := assign ('tmp', 16)
    refine R.nil ?_
    refine E.ret ?_
    refine ret1 (.bool false) rfl rfl ⟨_, rfl, hE, ?_⟩  -- return 0 path 
    simp [hk]

theorem few (w : World) {v : Value} {k : Int} {us : List Value} {xss : List (List Int)} (h : Mat w v us xss) (hl : xss.length ≤ 9223372036854775807) :
    Calls Try.prog 17 #[.agg #[v, .int .i64 k]] w (Ret fun r w' => Ext w w' ∧ r = .bool (decide ((∀ xs ∈ xss, xs.length ≤ 10) ∧ xss.length ≤ 32))) := by
  refine calls_E (args := [.agg #[v, .int .i64 k]]) 22 Try.func17 rfl rfl (by simp) ?_
  have hE : Ext w w := Upd.refl w
  refine E.seq ?_
  refine E.regionP rfl ?_  -- region 0
  refine R.box rfl nofun ?_  -- 1 := box 24 ('tmp', 0)
  intro b1 w1 hb1 hx1 hB1
  replace hb1 := Nat.le_trans hE.size hb1
  replace hE := hE.ext hx1
  replace hB1 : Blk _ b1 24 #[_, _] := hB1
  refine R.assign ?_  -- 2 := assign ('const', ('bool', ('false',)))
  refine R.nil ?_
  refine E.seq ?_
  refine E.seq ?_
  refine E.regionP rfl ?_  -- region 1
  refine R.assign ?_  -- 3 := assign ('const', ('int', ('i64',), 0))
  refine R.nil ?_
  refine E.block ?_  -- block 0
  refine E.loop (fun n e wr => ∃ i : Nat, n = xss.length - i ∧ i ≤ xss.length ∧ (∀ xs ∈ xss.take i, xs.length ≤ 10) ∧ Ext w wr ∧ Blk wr b1 24 #[v, .int .i64 k] ∧ Has e [(1, .pointer (some ⟨b1, 0, none⟩)), (3, .int .i64 i)]) (xss.length) ?_ ?_
  · exact ⟨0, rfl, Nat.zero_le _, by simp, hE, hB1, rfl, rfl, trivial⟩
  · rintro n e wr ⟨i, rfl, hi, hall, hE, hB1, hH⟩
    obtain ⟨e, rfl⟩ := hH.ex
    clear hH
    refine E.seq ?_
    refine E.seq ?_
    refine E.regionP rfl ?_  -- region 2
    refine R.move ?_  -- 4 := move ('tmp', 3)
    refine R.fld fa24_0 rfl ?_  -- 5 := fieldAddr 24 ('tmp', 1) 0
    refine R.loadB t22 hB1 rfl rfl rfl trivial ?_  -- 6 := load 22 ('tmp', 5)
    refine R.len Try.underlying22 h.row rfl ?_  -- 7 := call {'callee': ('builtin', ('len',)), 'args': [('tmp', 6)], 'argTypes': [22]}
    refine R.lss rfl rfl rfl ?_  -- 8 := binOp ('lss',) 3 ('tmp', 4) ('tmp', 7) 3
    refine R.nil ?_
    refine E.cond rfl (fun hc8 => ?_) (fun hc8 => ?_)  -- cond t8
    · replace hc8 := dT hc8
      refine E.skip ?_
      refine E.seq ?_
      refine E.block ?_  -- block 1
      refine E.seq ?_
      refine E.regionP rfl ?_  -- region 4
      refine R.fld fa24_0 rfl ?_  -- 11 := fieldAddr 24 ('tmp', 1) 0
      refine R.loadB t22 hB1 rfl rfl rfl trivial ?_  -- 12 := load 22 ('tmp', 11)
      refine R.move ?_  -- 13 := move ('tmp', 3)
      refine R.ix Try.underlying22 t35 (by decide) h.row rfl rfl (by omega) ?_  -- 14 := indexAddr 22 ('tmp', 12) ('tmp', 13)
      obtain ⟨u15, hu15, hr15⟩ := h.get i (by omega)
      refine R.ld t35 (h.row.ext hE) rfl hu15 rfl (fun _ _ => trivial) ?_  -- 15 := load 35 ('tmp', 14)
      refine R.len Try.underlying35 hr15 rfl ?_  -- 16 := call {'callee': ('builtin', ('len',)), 'args': [('tmp', 15)], 'argTypes': [35]}
      refine R.gtr rfl rfl rfl ?_  -- 17 := binOp ('gtr',) 3 ('tmp', 16) ('const', ('int', ('i64',), 10)) 3
      refine R.nil ?_
      refine E.cond rfl (fun hc17 => ?_) (fun hc17 => ?_)  -- cond t17
      · replace hc17 := dT hc17
        refine E.seq ?_
        refine E.regionP rfl ?_  -- region 5
        refine R.assign ?_  -- 2 := assign ('const', ('bool', ('false',)))
        refine R.nil ?_
        refine E.ret ?_
        refine ret1 (.bool false) rfl rfl ⟨_, rfl, hE, ?_⟩  -- return 0 path TT
        have : ¬ ((∀ xs ∈ xss, xs.length ≤ 10) ∧ xss.length ≤ 32) := fun hh => by
          have := hh.1 xss[i] (List.getElem_mem _)
          omega
        simp [this]
      · replace hc17 := dF hc17
        refine E.skip ?_
        refine E.regionP rfl ?_  -- region 3
        refine R.move ?_  -- 9 := move ('tmp', 3)
        refine R.addN (n := 1) rfl rfl (by omega) ?_  -- 10 := binOp ('add',) 3 ('tmp', 9) ('const', ('int', ('i64',), 1)) 3
        refine R.assign ?_  -- 3 := assign ('tmp', 10)
        refine R.nil ?_
        refine ⟨xss.length - (i + 1), by omega, i + 1, rfl, by omega, ?_, hE, hB1, rfl, rfl, trivial⟩  -- round end 0 path TF
        intro xs hxs
        rw [List.take_succ_eq_append_getElem (by omega)] at hxs
        rcases List.mem_append.1 hxs with hxs | hxs
        · exact hall xs hxs
        · simp at hxs; subst hxs; omega
    · replace hc8 := dF hc8
      refine E.exit ?_  -- exit 0
      refine E.seq ?_
      refine E.regionP rfl ?_  -- region 6
      refine R.fld fa24_0 rfl ?_  -- 18 := fieldAddr 24 ('tmp', 1) 0
      refine R.loadB t22 hB1 rfl rfl rfl trivial ?_  -- 19 := load 22 ('tmp', 18)
      refine R.len Try.underlying22 h.row rfl ?_  -- 20 := call {'callee': ('builtin', ('len',)), 'args': [('tmp', 19)], 'argTypes': [22]}
      refine R.leq rfl rfl rfl ?_  -- 21 := binOp ('leq',) 3 ('tmp', 20) ('const', ('int', ('i64',), 32)) 3
      refine R.assign ?_  -- 2 := assign ('tmp', 21)
      refine R.nil ?_
      refine E.ret ?_
      refine ret1 (.bool (decide ((xss.length : Int) ≤ 32))) rfl rfl ⟨_, rfl, hE, ?_⟩  -- return 1 path F
      obtain rfl : i = xss.length := by omega
      rw [List.take_length] at hall
      have e1 : ((∀ xs ∈ xss, xs.length ≤ 10) ∧ xss.length ≤ 32) ↔ ((xss.length : Int) ≤ 32) := ⟨fun hh => by omega, fun hh => ⟨hall, by omega⟩⟩
      simp only [e1]

end Go.Proofs.Ytfdmndkoiheebaa
