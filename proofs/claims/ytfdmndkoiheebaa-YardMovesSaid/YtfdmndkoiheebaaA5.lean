/- Lent rows of rows -/
import Derived.Test.YtfdmndkoiheebaaA4
namespace Go.Proofs.Ytfdmndkoiheebaa
open Go Go.RowKit

theorem lentWaters (w : World) {v : Value} {us : List Value} {xss : List (List Int)} (h : Mat w v us xss) (hl : xss.length < 1000000) (hx : ∀ xs ∈ xss, xs.length < 1000000) :
    Calls Try.prog 66 #[v] w (Ret fun r w' => Ext w w' ∧ LentM w' r xss ∧ Fresh w r) := by
  refine calls_E (args := [v]) 39 Try.func66 rfl rfl (by simp) ?_
  have hE : Ext w w := Upd.refl w
  refine E.seq ?_
  refine E.regionP rfl ?_  -- region 0
  refine R.assign ?_  -- 2 := assign ('const', ('slice', ('none',), 0, 0))
  refine R.nil ?_
  refine E.seq ?_
  refine E.regionP rfl ?_  -- region 1
  refine R.move ?_  -- 7 := move ('tmp', 0)
  refine R.len Try.underlying22 h.row rfl ?_  -- 8 := call {'callee': ('builtin', ('len',)), 'args': [('tmp', 7)], 'argTypes': [22]}
  refine R.addN (n := 12) rfl rfl (by omega) ?_  -- 9 := binOp ('add',) 3 ('tmp', 8) ('const', ('int', ('i64',), 12)) 3
  refine R.make (n := 0) (c := xss.length + 12) Try.underlying22 t35 rfl rfl rfl (by omega) (by omega) (by omega) nofun ?_  -- 10 := makeSlice 22 ('const', ('int', ('i64',), 0)) ('tmp', 9)
  intro b10 w10 hb10 hx10 hB10 hS10
  replace hE := hE.ext hx10
  have hf10 : Fresh w (.slice (some ⟨b10, 0, none⟩) 0 (xss.length + 12)) := fun b hb => by simp [vblk] at hb; omega
  refine R.assign ?_  -- 3 := assign ('tmp', 10)
  refine R.nil ?_
  refine E.seq ?_
  refine E.seq ?_
  refine E.regionP rfl ?_  -- region 2
  refine R.assign ?_  -- 4 := assign ('const', ('int', ('i64',), 0))
  refine R.nil ?_
  refine E.block ?_  -- block 0
  refine E.loop (fun n e wr => ∃ k : Nat, ∃ vv : Value, ∃ ws : List Value, n = xss.length - k ∧ k ≤ xss.length ∧ Ext w wr ∧ Sl wr 35 1 vv k ws ∧ Fresh w vv ∧ LentRows wr ws (xss.take k) ∧ Has e [(0, v), (3, vv), (4, .int .i64 k)]) (xss.length) ?_ ?_
  · exact ⟨0, _, [], rfl, Nat.zero_le _, hE, hS10, hf10, ⟨by simp, fun i hi => by simp at hi⟩, rfl, rfl, rfl, trivial⟩
  · rintro n e wr ⟨k, vv, ws, rfl, hk, hE, hS, hf, hR, hH⟩
    obtain ⟨e, rfl⟩ := hH.ex
    clear hH
    refine E.seq ?_
    refine E.seq ?_
    refine E.regionP rfl ?_  -- region 3
    refine R.move ?_  -- 11 := move ('tmp', 4)
    refine R.move ?_  -- 12 := move ('tmp', 0)
    refine R.len Try.underlying22 h.row rfl ?_  -- 13 := call {'callee': ('builtin', ('len',)), 'args': [('tmp', 12)], 'argTypes': [22]}
    refine R.lss rfl rfl rfl ?_  -- 14 := binOp ('lss',) 3 ('tmp', 11) ('tmp', 13) 3
    refine R.nil ?_
    refine E.cond rfl (fun hc14 => ?_) (fun hc14 => ?_)  -- cond t14
    · replace hc14 := dT hc14
      refine E.skip ?_
      refine E.seq ?_
      refine E.block ?_  -- block 1
      refine E.seq ?_
      refine E.regionP rfl ?_  -- region 5
      refine R.move ?_  -- 17 := move ('tmp', 0)
      refine R.move ?_  -- 18 := move ('tmp', 4)
      refine R.ix Try.underlying22 t35 (by decide) h.row rfl rfl (by omega) ?_  -- 19 := indexAddr 22 ('tmp', 17) ('tmp', 18)
      obtain ⟨u20, hu20, hr20⟩ := h.get k (by omega)
      refine R.ld t35 (h.row.ext hE) rfl hu20 rfl (fun _ _ => trivial) ?_  -- 20 := load 35 ('tmp', 19)
      refine R.callE1 ent81 (lentInts _ (hr20.ext hE) (hx _ (List.getElem_mem _))) rfl nofun ?_  -- 21 := call {'callee': ('value', ('func', 81)), 'args': [('tmp', 20)], 'argTypes': [35]}
      rintro v21 w1 hx1 ⟨hL21, hf21⟩
      replace hS := hS.ext hx1
      replace hR := hR.ext hx1
      replace hE := hE.ext hx1
      refine R.assign ?_  -- 5 := assign ('tmp', 21)
      refine R.nil ?_
      refine E.regionP rfl ?_  -- region 6
      refine R.move ?_  -- 22 := move ('tmp', 3)
      refine R.move ?_  -- 23 := move ('tmp', 5)
      refine R.buildSlice [v21] Try.underlying22 t35 rfl rfl (by simp [cells_one hL21.ints.one]) (by simp) nofun ?_  -- 24 := buildSlice 22 1 [('tup', 0, ('tmp', 23))]
      intro b24 w2 hb24 hx2 hB24 hS24
      replace hb24 := Nat.le_trans hE.size hb24
      replace hS := hS.ext hx2
      replace hR := hR.ext hx2
      replace hL21 := hL21.ext hx2
      replace hE := hE.ext hx2
      refine R.append Try.underlying22 Try.underlying22 t35 (by decide) rfl hS hS24.row (by simp [cellsOf, cells_one hL21.ints.one, hL21.ints.one]) rfl rfl (by simp; omega) (by simp; omega) nofun ?_  -- 25 := call {'callee': ('builtin', ('append',)), 'args': [('tmp', 22), ('tmp', 24)], 'argTypes': [22, 22]}
      intro v25 w25 hU25 hS25 hd25
      have hf25 := Fresh.app hE hf hd25
      replace hE := hE.app hU25 hf
      replace hR := hR.upS hU25 hS
      replace hL21 := hL21.upS hU25 hS (by decide)
      refine R.assign ?_  -- 3 := assign ('tmp', 25)
      refine R.nil ?_
      refine E.regionP rfl ?_  -- region 4
      refine R.move ?_  -- 15 := move ('tmp', 4)
      refine R.addN (n := 1) rfl rfl (by omega) ?_  -- 16 := binOp ('add',) 3 ('tmp', 15) ('const', ('int', ('i64',), 1)) 3
      refine R.assign ?_  -- 4 := assign ('tmp', 16)
      refine R.nil ?_
      refine ⟨xss.length - (k + 1), by omega, k + 1, v25, ws ++ [v21], rfl, by omega, hE, ?_, hf25, hR.snoc (by omega) hL21, rfl, rfl, rfl, trivial⟩  -- round end 0 path T
      simpa [cellsOf, cells_one hL21.ints.one] using hS25
    · replace hc14 := dF hc14
      refine E.exit ?_  -- exit 0
      refine E.seq ?_
      refine E.seq ?_
      refine E.regionP rfl ?_  -- region 7
      refine R.assign ?_  -- 6 := assign ('const', ('int', ('i64',), 0))
      refine R.nil ?_
      refine E.block ?_  -- block 2
      refine E.loop (fun n e wr => ∃ j : Nat, ∃ vv : Value, ∃ ms : List Value, n = 12 - j ∧ j ≤ 12 ∧ Ext w wr ∧ Sl wr 35 1 vv (xss.length + j) (ws ++ ms) ∧ Fresh w vv ∧ LentRows wr ws xss ∧ MarkRows wr ms j ∧ Has e [(0, v), (3, vv), (6, .int .i64 j)]) (12) ?_ ?_
      · obtain rfl : k = xss.length := by omega
        rw [List.take_length] at hR
        exact ⟨0, vv, [], rfl, Nat.zero_le _, hE, by simpa using hS, hf, hR, ⟨rfl, fun i hi => by omega⟩, rfl, rfl, rfl, trivial⟩
      · rintro n e wr ⟨j, vv, ms, rfl, hj, hE, hS, hf, hR, hM, hH⟩
        obtain ⟨e, rfl⟩ := hH.ex
        clear hH
        refine E.seq ?_
        refine E.seq ?_
        refine E.regionP rfl ?_  -- region 8
        refine R.move ?_  -- 26 := move ('tmp', 6)
        refine R.lss rfl rfl rfl ?_  -- 27 := binOp ('lss',) 3 ('tmp', 26) ('const', ('int', ('i64',), 12)) 3
        refine R.nil ?_
        refine E.cond rfl (fun hc27 => ?_) (fun hc27 => ?_)  -- cond t27
        · replace hc27 := dT hc27
          refine E.skip ?_
          refine E.seq ?_
          refine E.block ?_  -- block 3
          refine E.regionP rfl ?_  -- region 10
          refine R.move ?_  -- 30 := move ('tmp', 3)
          refine R.move ?_  -- 31 := move ('tmp', 6)
          refine R.callE2 ent91 (markWater_ _ (k := 1) (by decide) (by omega)) rfl rfl nofun ?_  -- 32 := call {'callee': ('value', ('func', 91)), 'args': [('const', ('int', ('i64',), 1)), ('tmp', 31)], 'argTypes': [3, 3]}
          rintro v32 w3 hx3 ⟨hS32, hf32⟩
          replace hS := hS.ext hx3
          replace hR := hR.ext hx3
          replace hM := hM.ext hx3
          replace hE := hE.ext hx3
          refine R.buildSlice [v32] Try.underlying22 t35 rfl rfl (by simp [cells_one hS32.row.one]) (by simp) nofun ?_  -- 33 := buildSlice 22 1 [('tup', 0, ('tmp', 32))]
          intro b33 w4 hb33 hx4 hB33 hS33
          replace hb33 := Nat.le_trans hE.size hb33
          replace hS := hS.ext hx4
          replace hR := hR.ext hx4
          replace hM := hM.ext hx4
          replace hS32 := hS32.ext hx4
          replace hE := hE.ext hx4
          refine R.append Try.underlying22 Try.underlying22 t35 (by decide) rfl hS hS33.row (by simp [cellsOf, cells_one hS32.row.one, hS32.row.one]) rfl rfl (by simp; omega) (by simp; omega) nofun ?_  -- 34 := call {'callee': ('builtin', ('append',)), 'args': [('tmp', 30), ('tmp', 33)], 'argTypes': [22, 22]}
          intro v34 w34 hU34 hS34 hd34
          have hf34 := Fresh.app hE hf hd34
          replace hE := hE.app hU34 hf
          replace hR := hR.upS hU34 hS
          replace hM := hM.upS hU34 hS
          replace hS32 := hS32.upS hU34 hS (by decide)
          refine R.assign ?_  -- 3 := assign ('tmp', 34)
          refine R.nil ?_
          refine E.regionP rfl ?_  -- region 9
          refine R.move ?_  -- 28 := move ('tmp', 6)
          refine R.addN (n := 1) rfl rfl (by omega) ?_  -- 29 := binOp ('add',) 3 ('tmp', 28) ('const', ('int', ('i64',), 1)) 3
          refine R.assign ?_  -- 6 := assign ('tmp', 29)
          refine R.nil ?_
          refine ⟨12 - (j + 1), by omega, j + 1, v34, ms ++ [v32], rfl, by omega, hE, ?_, hf34, hR, hM.snoc hS32, rfl, rfl, rfl, trivial⟩  -- round end 1 path FT
          simpa [cellsOf, cells_one hS32.row.one, Nat.add_assoc] using hS34
        · replace hc27 := dF hc27
          refine E.exit ?_  -- exit 2
          refine E.seq ?_
          refine E.regionP rfl ?_  -- region 11
          refine R.move ?_  -- 35 := move ('tmp', 3)
          refine R.move ?_  -- 36 := move ('tmp', 0)
          refine R.len Try.underlying22 h.row rfl ?_  -- 37 := call {'callee': ('builtin', ('len',)), 'args': [('tmp', 36)], 'argTypes': [22]}
          obtain ⟨a0, c0, hv0, hc0, _⟩ := id hS  -- 38 := slice 22 ('tmp', 35) ('none',) ('some', ('tmp', 37)) ('none',)
          refine R.slc (l := 0) (r := xss.length) Try.underlying22 t35 rfl hv0 rfl ⟨_, rfl⟩ (Nat.zero_le _) (by omega) ?_
          refine R.assign ?_  -- 2 := assign ('tmp', 38)
          refine R.nil ?_
          refine E.ret ?_
          obtain rfl : j = 12 := by omega  -- return 0 path FF
          exact ret1 (cut 1 vv 0 xss.length) rfl rfl ⟨_, rfl, hE, ⟨vv, ws, ms, hS, rfl, hR, hM⟩, fun b hb => hf b (vblk_cut hb)⟩

end Go.Proofs.Ytfdmndkoiheebaa
