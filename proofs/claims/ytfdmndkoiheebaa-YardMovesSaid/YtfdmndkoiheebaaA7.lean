/- Lent rows of rows are kept -/
import Derived.Test.YtfdmndkoiheebaaA6
namespace Go.Proofs.Ytfdmndkoiheebaa
open Go Go.RowKit


theorem cut0 (a : Option Addr) (n c r : Nat) : cut 1 (.slice a n c) 0 r = .slice a r c := by
  have e : (if c = 0 then a else a.map (·.add (0 * 1))) = a := by
    split
    · rfl
    · cases a <;> simp [Addr.add]
  simp only [cut, e, Nat.sub_zero]

theorem keptWaters (w : World) {v1 v2 : Value} {us2 : List Value} {xss : List (List Int)} (h1 : LentM w v1 xss) (h2 : Mat w v2 us2 xss) (hl : xss.length < 1000000) (hx : ∀ xs ∈ xss, xs.length < 1000000) :
    Calls Try.prog 69 #[v1, v2] w (Ret fun r w' => Ext w w' ∧ r = .bool true) := by
  obtain ⟨us1, h1r⟩ := h1.mat
  obtain ⟨v0, us, ms, hS, hv, hR, hM⟩ := h1
  obtain ⟨a0, c0, rfl, hc0, _⟩ := id hS
  rw [cut0] at hv
  have hF : Row w 1 (cut 1 v1 0 (xss.length + 12)) (xss.length + 12) (us ++ ms) := by rw [hv, cut0]; exact hS.row
  have hul := hR.1
  refine calls_E (args := [v1, v2]) 58 Try.func69 rfl rfl (by simp) ?_
  have hE : Ext w w := Upd.refl w
  refine E.seq ?_
  refine E.regionP rfl ?_  -- region 0
  refine R.assign ?_  -- 4 := assign ('const', ('bool', ('false',)))
  refine R.nil ?_
  refine E.seq ?_
  refine E.seq ?_
  refine E.regionP rfl ?_  -- region 1
  refine R.move ?_  -- 7 := move ('tmp', 0)
  refine R.len Try.underlying22 h1r.row rfl ?_  -- 8 := call {'callee': ('builtin', ('len',)), 'args': [('tmp', 7)], 'argTypes': [22]}
  refine R.move ?_  -- 9 := move ('tmp', 1)
  refine R.len Try.underlying22 h2.row rfl ?_  -- 10 := call {'callee': ('builtin', ('len',)), 'args': [('tmp', 9)], 'argTypes': [22]}
  refine R.neq (b := false) rfl rfl (by simp) ?_  -- 11 := binOp ('neq',) 3 ('tmp', 8) ('tmp', 10) 3
  refine R.nil ?_
  refine E.condF rfl ?_  -- cond t11
  refine E.skip ?_
  refine E.seq ?_
  refine E.regionP rfl ?_  -- region 3
  refine R.move ?_  -- 12 := move ('tmp', 0)
  refine R.move ?_  -- 13 := move ('tmp', 1)
  refine R.len Try.underlying22 h2.row rfl ?_  -- 14 := call {'callee': ('builtin', ('len',)), 'args': [('tmp', 13)], 'argTypes': [22]}
  refine R.addN (n := 12) rfl rfl (by omega) ?_  -- 15 := binOp ('add',) 3 ('tmp', 14) ('const', ('int', ('i64',), 12)) 3
  refine R.slc (l := 0) (r := xss.length + 12) Try.underlying22 t35 rfl hv rfl ⟨_, rfl⟩ (Nat.zero_le _) hc0 ?_  -- 16 := slice 22 ('tmp', 12) ('none',) ('some', ('tmp', 15)) ('none',)
  refine R.assign ?_  -- 5 := assign ('tmp', 16)
  refine R.nil ?_
  refine E.seq ?_
  refine E.seq ?_
  refine E.regionP rfl ?_  -- region 4
  refine R.assign ?_  -- 6 := assign ('const', ('int', ('i64',), 0))
  refine R.nil ?_
  refine E.block ?_  -- block 0
  refine E.loop (fun n e wr => ∃ i : Nat, n = xss.length + 12 - i ∧ i ≤ xss.length + 12 ∧ Ext w wr ∧ Has e [(1, v2), (5, cut 1 v1 0 (xss.length + 12)), (6, .int .i64 i)]) (xss.length + 12) ?_ ?_
  · exact ⟨0, rfl, Nat.zero_le _, hE, rfl, rfl, rfl, trivial⟩
  · rintro n e wr ⟨i, rfl, hi, hE, hH⟩
    obtain ⟨e, rfl⟩ := hH.ex
    clear hH
    refine E.seq ?_
    refine E.seq ?_
    refine E.regionP rfl ?_  -- region 5
    refine R.move ?_  -- 17 := move ('tmp', 6)
    refine R.move ?_  -- 18 := move ('tmp', 5)
    refine R.len Try.underlying22 hF rfl ?_  -- 19 := call {'callee': ('builtin', ('len',)), 'args': [('tmp', 18)], 'argTypes': [22]}
    refine R.lss rfl rfl rfl ?_  -- 20 := binOp ('lss',) 3 ('tmp', 17) ('tmp', 19) 3
    refine R.nil ?_
    refine E.cond rfl (fun hc20 => ?_) (fun hc20 => ?_)  -- cond t20
    · replace hc20 := dT hc20
      refine E.skip ?_
      refine E.seq ?_
      refine E.block ?_  -- block 1
      refine E.seq ?_
      by_cases hlt : i < xss.length
      · refine E.regionW (fun _ b => b < wr.heap.size) [] mixed rfl (by kernel_rfl) ?_  -- region 7
        intro w1 hx1 hh1
        replace hE := hE.ext hx1
        have hEs : Ext w1 w1 := Upd.refl _
        have hS0 := hx1.size
        have hSs : ∀ b, b < w1.heap.size → b < wr.heap.size := fun b hb => by rw [hh1] at hb; exact hb
        have hSa : ∀ b, b < w.heap.size → b < wr.heap.size := fun b hb => by have := hE.size; rw [hh1] at this; omega
        refine R.move ?_  -- 23 := move ('tmp', 6)
        refine R.move ?_  -- 24 := move ('tmp', 1)
        refine R.len Try.underlying22 h2.row rfl ?_  -- 25 := call {'callee': ('builtin', ('len',)), 'args': [('tmp', 24)], 'argTypes': [22]}
        refine R.lss (b := true) rfl rfl (decide_eq_true (by omega)) ?_  -- 26 := binOp ('lss',) 3 ('tmp', 23) ('tmp', 25) 3
        refine R.move ?_  -- 27 := move ('tmp', 26)
        refine R.gT rfl rfl ?_
        refine R.move ?_  -- 28 := move ('tmp', 5)
        refine R.gT rfl rfl ?_
        refine R.move ?_  -- 29 := move ('tmp', 6)
        refine R.gT rfl rfl ?_
        refine R.ix Try.underlying22 t35 (by decide) hF rfl rfl (by omega) ?_  -- 30 := indexAddr 22 ('tmp', 28) ('tmp', 29)
        refine R.gT rfl rfl ?_
        obtain ⟨u31, hu31, hL31⟩ := hR.2 i hlt  -- 31 := load 35 ('tmp', 30)
        refine R.ldE t35 hF hE rfl (by rw [List.getElem?_append_left (by omega)]; exact hu31) rfl hSa ?_
        refine R.gT rfl rfl ?_
        refine R.move ?_  -- 32 := move ('tmp', 1)
        refine R.gT rfl rfl ?_
        refine R.move ?_  -- 33 := move ('tmp', 6)
        refine R.gT rfl rfl ?_
        refine R.ix Try.underlying22 t35 (by decide) h2.row rfl rfl (by omega) ?_  -- 34 := indexAddr 22 ('tmp', 32) ('tmp', 33)
        refine R.gT rfl rfl ?_
        obtain ⟨u35, hu35, hr35⟩ := h2.get i (by omega)
        refine R.ldE t35 h2.row hE rfl hu35 rfl hSa ?_  -- 35 := load 35 ('tmp', 34)
        refine R.gT rfl rfl ?_
        refine R.callE2 ent83 (keptInts _ (hL31.ext hE) (hr35.ext hE) (hx _ (List.getElem_mem _))) rfl rfl (fun _ _ hb => Nat.lt_of_lt_of_le hb (Nat.le_trans hS0 hEs.size)) ?_  -- 36 := call {'callee': ('value', ('func', 83)), 'args': [('tmp', 31), ('tmp', 35)], 'argTypes': [35, 35]}
        rintro v36 w2 hx2 rfl
        replace hE := hE.ext hx2
        replace hEs := hEs.ext hx2
        refine R.gT rfl rfl ?_
        refine R.not rfl ?_  -- 37 := unOp ('not',) 4 ('tmp', 36)
        refine R.pickT rfl ?_  -- 38 := pick ('tmp', 27) ('tmp', 37) ('const', ('bool', ('false',)))
        refine R.move ?_  -- 39 := move ('tmp', 38)
        refine R.gT rfl rfl ?_
        refine R.move ?_  -- 40 := move ('tmp', 6)
        refine R.gT rfl rfl ?_
        refine R.move ?_  -- 41 := move ('tmp', 1)
        refine R.gT rfl rfl ?_
        refine R.len Try.underlying22 h2.row rfl ?_  -- 42 := call {'callee': ('builtin', ('len',)), 'args': [('tmp', 41)], 'argTypes': [22]}
        refine R.gT rfl rfl ?_
        refine R.geq (b := false) rfl rfl (decide_eq_false (by omega)) ?_  -- 43 := binOp ('geq',) 3 ('tmp', 40) ('tmp', 42) 3
        refine R.gT rfl rfl ?_
        refine R.move ?_  -- 44 := move ('tmp', 43)
        refine R.gF rfl rfl rfl ?_  -- 45 := move ('tmp', 5)
        refine R.gF rfl rfl rfl ?_  -- 46 := move ('tmp', 6)
        refine R.gF rfl rfl rfl ?_  -- 47 := indexAddr 22 ('tmp', 45) ('tmp', 46)
        refine R.gF rfl rfl rfl ?_  -- 48 := load 35 ('tmp', 47)
        refine R.gF rfl rfl rfl ?_  -- 49 := move ('tmp', 6)
        refine R.gF rfl rfl rfl ?_  -- 50 := move ('tmp', 1)
        refine R.gF rfl rfl rfl ?_  -- 51 := call {'callee': ('builtin', ('len',)), 'args': [('tmp', 50)], 'argTypes': [22]}
        refine R.gF rfl rfl rfl ?_  -- 52 := binOp ('sub',) 3 ('tmp', 49) ('tmp', 51) 3
        refine R.gF rfl rfl rfl ?_  -- 53 := call {'callee': ('value', ('func', 91)), 'args': [('const', ('int', ('i64',), 1)), ('tmp', 52)], 'argTypes': [3, 3]}
        refine R.gF rfl rfl rfl ?_  -- 54 := call {'callee': ('value', ('func', 56)), 'args': [('tmp', 48), ('tmp', 53)], 'argTypes': [35, 35]}
        refine R.gF rfl rfl rfl ?_  -- 55 := unOp ('not',) 4 ('tmp', 54)
        refine R.gT rfl rfl ?_
        refine R.pickF rfl ?_  -- 56 := pick ('tmp', 44) ('tmp', 55) ('const', ('bool', ('false',)))
        refine R.pickF rfl ?_  -- 57 := pick ('tmp', 39) ('const', ('bool', ('true',))) ('tmp', 56)
        refine R.nil ?_
        refine E.condF rfl ?_  -- cond t57
        refine E.skip ?_
        refine E.regionP rfl ?_  -- region 6
        refine R.move ?_  -- 21 := move ('tmp', 6)
        refine R.addN (n := 1) rfl rfl (by omega) ?_  -- 22 := binOp ('add',) 3 ('tmp', 21) ('const', ('int', ('i64',), 1)) 3
        refine R.assign ?_  -- 6 := assign ('tmp', 22)
        refine R.nil ?_
        exact ⟨xss.length + 12 - (i + 1), by omega, i + 1, rfl, by omega, hE, rfl, rfl, rfl, trivial⟩  -- round end 0 path T0
      · refine E.regionW (fun _ b => b < wr.heap.size) [] mixed rfl (by kernel_rfl) ?_  -- region 7
        intro w3 hx3 hh3
        replace hE := hE.ext hx3
        have hEs : Ext w3 w3 := Upd.refl _
        have hS0 := hx3.size
        have hSs : ∀ b, b < w3.heap.size → b < wr.heap.size := fun b hb => by rw [hh3] at hb; exact hb
        have hSa : ∀ b, b < w.heap.size → b < wr.heap.size := fun b hb => by have := hE.size; rw [hh3] at this; omega
        refine R.move ?_  -- 23 := move ('tmp', 6)
        refine R.move ?_  -- 24 := move ('tmp', 1)
        refine R.len Try.underlying22 h2.row rfl ?_  -- 25 := call {'callee': ('builtin', ('len',)), 'args': [('tmp', 24)], 'argTypes': [22]}
        refine R.lss (b := false) rfl rfl (decide_eq_false (by omega)) ?_  -- 26 := binOp ('lss',) 3 ('tmp', 23) ('tmp', 25) 3
        refine R.move ?_  -- 27 := move ('tmp', 26)
        refine R.gF rfl rfl rfl ?_  -- 28 := move ('tmp', 5)
        refine R.gF rfl rfl rfl ?_  -- 29 := move ('tmp', 6)
        refine R.gF rfl rfl rfl ?_  -- 30 := indexAddr 22 ('tmp', 28) ('tmp', 29)
        refine R.gF rfl rfl rfl ?_  -- 31 := load 35 ('tmp', 30)
        refine R.gF rfl rfl rfl ?_  -- 32 := move ('tmp', 1)
        refine R.gF rfl rfl rfl ?_  -- 33 := move ('tmp', 6)
        refine R.gF rfl rfl rfl ?_  -- 34 := indexAddr 22 ('tmp', 32) ('tmp', 33)
        refine R.gF rfl rfl rfl ?_  -- 35 := load 35 ('tmp', 34)
        refine R.gF rfl rfl rfl ?_  -- 36 := call {'callee': ('value', ('func', 83)), 'args': [('tmp', 31), ('tmp', 35)], 'argTypes': [35, 35]}
        refine R.gF rfl rfl rfl ?_  -- 37 := unOp ('not',) 4 ('tmp', 36)
        refine R.pickF rfl ?_  -- 38 := pick ('tmp', 27) ('tmp', 37) ('const', ('bool', ('false',)))
        refine R.move ?_  -- 39 := move ('tmp', 38)
        refine R.gT rfl rfl ?_
        refine R.move ?_  -- 40 := move ('tmp', 6)
        refine R.gT rfl rfl ?_
        refine R.move ?_  -- 41 := move ('tmp', 1)
        refine R.gT rfl rfl ?_
        refine R.len Try.underlying22 h2.row rfl ?_  -- 42 := call {'callee': ('builtin', ('len',)), 'args': [('tmp', 41)], 'argTypes': [22]}
        refine R.gT rfl rfl ?_
        refine R.geq (b := true) rfl rfl (decide_eq_true (by omega)) ?_  -- 43 := binOp ('geq',) 3 ('tmp', 40) ('tmp', 42) 3
        refine R.gT rfl rfl ?_
        refine R.move ?_  -- 44 := move ('tmp', 43)
        refine R.gT rfl rfl ?_
        refine R.move ?_  -- 45 := move ('tmp', 5)
        refine R.gT rfl rfl ?_
        refine R.move ?_  -- 46 := move ('tmp', 6)
        refine R.gT rfl rfl ?_
        refine R.ix Try.underlying22 t35 (by decide) hF rfl rfl (by omega) ?_  -- 47 := indexAddr 22 ('tmp', 45) ('tmp', 46)
        refine R.gT rfl rfl ?_
        obtain ⟨u48, hu48, hm48⟩ := hM.2 (i - xss.length) (by omega)  -- 48 := load 35 ('tmp', 47)
        refine R.ldE t35 hF hE rfl (by rw [List.getElem?_append_right (by omega), hul]; exact hu48) rfl hSa ?_
        refine R.gT rfl rfl ?_
        refine R.move ?_  -- 49 := move ('tmp', 6)
        refine R.gT rfl rfl ?_
        refine R.move ?_  -- 50 := move ('tmp', 1)
        refine R.gT rfl rfl ?_
        refine R.len Try.underlying22 h2.row rfl ?_  -- 51 := call {'callee': ('builtin', ('len',)), 'args': [('tmp', 50)], 'argTypes': [22]}
        refine R.gT rfl rfl ?_
        refine R.subN rfl rfl (by omega) (by omega) ?_  -- 52 := binOp ('sub',) 3 ('tmp', 49) ('tmp', 51) 3
        refine R.gT rfl rfl ?_
        refine R.callE2 ent91 (markWater_ _ (k := 1) (i := i - xss.length) (by decide) (by omega)) rfl rfl (fun _ _ hb => Nat.lt_of_lt_of_le hb (Nat.le_trans hS0 hEs.size)) ?_  -- 53 := call {'callee': ('value', ('func', 91)), 'args': [('const', ('int', ('i64',), 1)), ('tmp', 52)], 'argTypes': [3, 3]}
        rintro v53 w4 hx4 ⟨hS53, hf53⟩
        replace hE := hE.ext hx4
        replace hEs := hEs.ext hx4
        refine R.gT rfl rfl ?_
        refine R.callE2 ent56 (sameInts _ (hm48.ext hE).row hS53.row (by simp) (by simp)) rfl rfl (fun _ _ hb => Nat.lt_of_lt_of_le hb (Nat.le_trans hS0 hEs.size)) ?_  -- 54 := call {'callee': ('value', ('func', 56)), 'args': [('tmp', 48), ('tmp', 53)], 'argTypes': [35, 35]}
        rintro v54 w5 hx5 rfl
        simp only [decide_true]
        replace hS53 := hS53.ext hx5
        replace hE := hE.ext hx5
        replace hEs := hEs.ext hx5
        refine R.gT rfl rfl ?_
        refine R.not rfl ?_  -- 55 := unOp ('not',) 4 ('tmp', 54)
        refine R.gT rfl rfl ?_
        refine R.pickT rfl ?_  -- 56 := pick ('tmp', 44) ('tmp', 55) ('const', ('bool', ('false',)))
        refine R.pickF rfl ?_  -- 57 := pick ('tmp', 39) ('const', ('bool', ('true',))) ('tmp', 56)
        refine R.nil ?_
        refine E.condF rfl ?_  -- cond t57
        refine E.skip ?_
        refine E.regionP rfl ?_  -- region 6
        refine R.move ?_  -- 21 := move ('tmp', 6)
        refine R.addN (n := 1) rfl rfl (by omega) ?_  -- 22 := binOp ('add',) 3 ('tmp', 21) ('const', ('int', ('i64',), 1)) 3
        refine R.assign ?_  -- 6 := assign ('tmp', 22)
        refine R.nil ?_
        exact ⟨xss.length + 12 - (i + 1), by omega, i + 1, rfl, by omega, hE, rfl, rfl, rfl, trivial⟩  -- round end 1 path T1
    · replace hc20 := dF hc20
      refine E.exit ?_  -- exit 0
      refine E.seq ?_
      refine E.regionP rfl ?_  -- region 9
      refine R.assign ?_  -- 4 := assign ('const', ('bool', ('true',)))
      refine R.nil ?_
      refine E.ret ?_
      exact ret1 (.bool true) rfl rfl ⟨_, rfl, hE, rfl⟩  -- return 0 path F

theorem own (w : World) {v : Value} {k : Int} {us : List Value} {xss : List (List Int)} (h : Mat w v us xss) (hl : xss.length < 1000000) (hx : ∀ xs ∈ xss, xs.length < 1000000) :
    Calls Try.prog 30 #[.agg #[v, .int .i64 k]] w (Ret fun r w' => Ext w w' ∧ ∃ v', r = .agg #[v', .int .i64 k] ∧ LentM w' v' xss ∧ Fresh w v') := by
  refine calls_E (args := [.agg #[v, .int .i64 k]]) 8 Try.func30 rfl rfl (by simp) ?_
  have hE : Ext w w := Upd.refl w
  refine E.seq ?_
  refine E.regionP rfl ?_  -- region 0
  refine R.box rfl nofun ?_  -- 1 := box 24 ('tmp', 0)
  intro b1 w1 hb1 hx1 hB1
  replace hb1 := Nat.le_trans hE.size hb1
  replace hE := hE.ext hx1
  replace hB1 : Blk _ b1 24 #[v, .int .i64 k] := hB1
  refine R.alloc t24 nofun ?_  -- 2 := alloc 24
  intro b2 w2 hb2 hx2 hB2
  have ne1_2 : b1 ≠ b2 := by have := hB1.lt; omega
  replace hb2 := Nat.le_trans hE.size hb2
  replace hB1 := hB1.ext hx2
  replace hE := hE.ext hx2
  replace hB2 : Blk _ b2 24 #[.slice none 0 0, .int .i64 0] := hB2
  refine R.nil ?_
  refine E.seq ?_
  refine E.regionP rfl ?_  -- region 1
  refine R.fld fa24_0 rfl ?_  -- 3 := fieldAddr 24 ('tmp', 1) 0
  refine R.loadB t22 hB1 rfl rfl rfl trivial ?_  -- 4 := load 22 ('tmp', 3)
  refine R.callE1 ent66 (lentWaters _ (h.ext hE) hl hx) rfl nofun ?_  -- 5 := call {'callee': ('value', ('func', 66)), 'args': [('tmp', 4)], 'argTypes': [22]}
  rintro v5 w3 hx3 ⟨hL5, hf5⟩
  replace hf5 := hf5.mono hE.size
  replace hB1 := hB1.ext hx3
  replace hB2 := hB2.ext hx3
  replace hE := hE.ext hx3
  refine R.fld fa24_0 rfl ?_  -- 6 := fieldAddr 24 ('tmp', 1) 0
  refine R.store t22 hB1 rfl rfl (hL5.one) (by simp) nofun ?_  -- None := store 22 ('tmp', 6) ('tmp', 5)
  intro w4 hU4 hs4 hN4
  replace hL5 := hL5.upT hU4 hB1 (by decide)
  replace hB2 := hB2.up hU4 (fun h => ne1_2 h.symm)
  replace hE := hE.own hU4 hb1
  replace hB1 : Blk _ b1 24 #[v5, .int .i64 k] := hN4
  clear hN4
  refine R.nil ?_
  refine E.seq ?_
  refine E.regionP rfl ?_  -- region 2
  refine R.loadA t24 hB1 rfl rfl rfl trivial ?_  -- 7 := load 24 ('tmp', 1)
  refine R.storeA t24 hB2 rfl rfl rfl rfl (ones2 hL5.one rfl) nofun ?_  -- None := store 24 ('tmp', 2) ('tmp', 7)
  intro w5 hU5 hs5 hN5
  replace hL5 := hL5.upT hU5 hB2 (by decide)
  replace hB1 := hB1.up hU5 (fun h => ne1_2 h)
  replace hE := hE.own hU5 hb2
  replace hB2 : Blk _ b2 24 #[v5, .int .i64 k] := hN5
  clear hN5
  refine R.nil ?_
  refine E.ret ?_
  exact retA t24 hB2 rfl rfl rfl ⟨_, rfl, hE, _, rfl, hL5, hf5⟩  -- return 0 path 

theorem kept (w : World) {v1 v2 : Value} {k : Int} {us2 : List Value} {xss : List (List Int)} (h1 : LentM w v1 xss) (h2 : Mat w v2 us2 xss) (hl : xss.length < 1000000) (hx : ∀ xs ∈ xss, xs.length < 1000000) :
    Calls Try.prog 33 #[.agg #[v1, .int .i64 k], .agg #[v2, .int .i64 k]] w (Ret fun r w' => Ext w w' ∧ r = .bool true) := by
  refine calls_E (args := [.agg #[v1, .int .i64 k], .agg #[v2, .int .i64 k]]) 17 Try.func33 rfl rfl (by simp) ?_
  have hE : Ext w w := Upd.refl w
  refine E.seq ?_
  refine E.regionP rfl ?_  -- region 0
  refine R.box rfl nofun ?_  -- 2 := box 24 ('tmp', 0)
  intro b2 w1 hb2 hx1 hB2
  replace hb2 := Nat.le_trans hE.size hb2
  replace hE := hE.ext hx1
  replace hB2 : Blk _ b2 24 #[v1, .int .i64 k] := hB2
  refine R.box rfl nofun ?_  -- 3 := box 24 ('tmp', 1)
  intro b3 w2 hb3 hx2 hB3
  have ne2_3 : b2 ≠ b3 := by have := hB2.lt; omega
  replace hb3 := Nat.le_trans hE.size hb3
  replace hB2 := hB2.ext hx2
  replace hE := hE.ext hx2
  replace hB3 : Blk _ b3 24 #[v2, .int .i64 k] := hB3
  refine R.assign ?_  -- 4 := assign ('const', ('bool', ('false',)))
  refine R.nil ?_
  refine E.seq ?_
  refine E.regionP rfl ?_  -- region 1
  refine R.fld fa24_1 rfl ?_  -- 5 := fieldAddr 24 ('tmp', 2) 1
  refine R.loadB t3 hB2 rfl rfl rfl trivial ?_  -- 6 := load 3 ('tmp', 5)
  refine R.fld fa24_1 rfl ?_  -- 7 := fieldAddr 24 ('tmp', 3) 1
  refine R.loadB t3 hB3 rfl rfl rfl trivial ?_  -- 8 := load 3 ('tmp', 7)
  refine R.eql (b := true) rfl rfl (decide_eq_true rfl) ?_  -- 9 := binOp ('eql',) 3 ('tmp', 6) ('tmp', 8) 3
  refine R.move ?_  -- 10 := move ('tmp', 9)
  refine R.gT rfl rfl ?_
  refine R.fld fa24_0 rfl ?_  -- 11 := fieldAddr 24 ('tmp', 2) 0
  refine R.gT rfl rfl ?_
  refine R.loadB t22 hB2 rfl rfl rfl trivial ?_  -- 12 := load 22 ('tmp', 11)
  refine R.gT rfl rfl ?_
  refine R.fld fa24_0 rfl ?_  -- 13 := fieldAddr 24 ('tmp', 3) 0
  refine R.gT rfl rfl ?_
  refine R.loadB t22 hB3 rfl rfl rfl trivial ?_  -- 14 := load 22 ('tmp', 13)
  refine R.gT rfl rfl ?_
  refine R.callE2 ent69 (keptWaters _ (h1.ext hE) (h2.ext hE) hl hx) rfl rfl nofun ?_  -- 15 := call {'callee': ('value', ('func', 69)), 'args': [('tmp', 12), ('tmp', 14)], 'argTypes': [22, 22]}
  rintro v15 w3 hx3 rfl
  replace hB2 := hB2.ext hx3
  replace hB3 := hB3.ext hx3
  replace hE := hE.ext hx3
  refine R.pickT rfl ?_  -- 16 := pick ('tmp', 10) ('tmp', 15) ('const', ('bool', ('false',)))
  refine R.assign ?_  -- 4 := assign ('tmp', 16)
  refine R.nil ?_
  refine E.ret ?_
  exact ret1 (.bool true) rfl rfl ⟨_, rfl, hE, rfl⟩  -- return 0 path 

end Go.Proofs.Ytfdmndkoiheebaa
