/- YardMoves -/
import Derived.Test.YtfdmndkoiheebaaYard4
namespace Go.Proofs.Ytfdmndkoiheebaa
open Go Go.RowKit

set_option maxHeartbeats 6400000 in
theorem yardMoves (w : World) {vl vm : Value} {st ht : Nat} {ls : List Nat} {ms : List (Int × Int)} (hl : U8s w vl ls) (hll : ls.length ≤ 9223372036854775807) (hls : ∀ x ∈ ls, x < 256) (hms : Moves w vm ms) (hml : ms.length ≤ 9223372036854775807) :
    Calls Try.prog 8 #[.int .u8 st, .int .u8 ht, vl, vm] w (Ret fun r w' => Ext w w' ∧ r = .bool true) := by
  have hn1 : 1 + st % 6 ≤ 6 := by omega
  have hH1 : 1 + ht % 6 ≤ 6 := by omega
  obtain ⟨H, hHd⟩ : ∃ H, 1 + ht % 6 = H := ⟨_, rfl⟩
  obtain ⟨n0, hnd⟩ : ∃ n, 1 + st % 6 = n := ⟨_, rfl⟩
  rw [hHd] at hH1
  rw [hnd] at hn1
  refine calls_E (args := [.int .u8 st, .int .u8 ht, vl, vm]) 188 Try.func8 rfl rfl (by simp) ?_
  have hE : Ext w w := Upd.refl w
  refine E.seq ?_
  refine E.regionP rfl ?_  -- region 0
  refine R.assign ?_  -- 8 := assign ('const', ('bool', ('false',)))
  refine R.nil ?_
  refine E.seq ?_
  refine E.seq ?_
  refine E.regionP rfl ?_  -- region 1
  refine R.callE0 ent19 (awake _)  nofun ?_  -- 29 := call {'callee': ('value', ('func', 19)), 'args': [], 'argTypes': []}
  rintro v29 w1 hx1 rfl
  replace hE := hE.ext hx1
  refine R.not rfl ?_  -- 30 := unOp ('not',) 4 ('tmp', 29)
  refine R.nil ?_
  refine E.condF rfl ?_  -- cond t30
  refine E.skip ?_
  refine E.seq ?_
  refine E.regionP rfl ?_  -- region 3
  refine R.move ?_  -- 31 := move ('tmp', 0)
  refine R.move ?_  -- 32 := move ('tmp', 1)
  refine R.move ?_  -- 33 := move ('tmp', 2)
  refine R.callE3 ent22 (madeE _ (hl.ext hE) hll hls hnd hHd) rfl rfl rfl nofun ?_  -- 34 := call {'callee': ('value', ('func', 22)), 'args': [('tmp', 31), ('tmp', 32), ('tmp', 33)], 'argTypes': [5, 5, 33]}
  rintro v34 w2 hx2 ⟨u34, us34, xss, rfl, hM34, hP34⟩
  have hz34 := hE.size
  replace hE := hE.ext hx2
  have hY := hM34.mo
  clear hM34
  have hR : RightP xss (H : Int) := hP34.right (by omega) (by omega) (by omega) (by omega) (by omega)
  have hlen := hP34.len
  refine R.alloc t24 nofun ?_  -- 9 := alloc 24
  intro b9 w3 hb9 hx3 hB9
  replace hb9 := Nat.le_trans hE.size hb9
  replace hY := hY.ext hx3
  replace hE := hE.ext hx3
  replace hB9 : Blk _ b9 24 #[.slice none 0 0, .int .i64 0] := hB9
  refine R.storeA t24 hB9 rfl rfl rfl rfl (ones2 hY.outer.one rfl) nofun ?_  -- None := store 24 ('tmp', 9) ('tmp', 34)
  intro w4 hU4 hs4 hN4
  replace hY := hY.upT hU4 hB9 (by decide)
  replace hE := hE.own hU4 hb9
  replace hB9 : Blk _ b9 24 #[u34, .int .i64 H] := hN4
  clear hN4
  refine R.nil ?_
  refine E.seq ?_
  refine E.seq ?_
  refine E.regionP rfl ?_  -- region 4
  refine R.loadA t24 hB9 rfl rfl rfl trivial ?_  -- 35 := load 24 ('tmp', 9)
  refine R.callE1 ent27 (rightP _ ⟨_, hY.mat⟩ hR.l6 hR.x6 hR.b) rfl nofun ?_  -- 36 := call {'callee': ('value', ('func', 27)), 'args': [('tmp', 35)], 'argTypes': [24]}
  rintro v36 w5 hx5 rfl
  replace hY := hY.ext hx5
  replace hB9 := hB9.ext hx5
  replace hE := hE.ext hx5
  refine R.not rfl ?_  -- 37 := unOp ('not',) 4 ('tmp', 36)
  refine R.nil ?_
  refine E.condF rfl ?_  -- cond t37
  refine E.skip ?_
  refine E.seq ?_
  refine E.regionP rfl ?_  -- region 6
  refine R.loadA t24 hB9 rfl rfl rfl trivial ?_  -- 39 := load 24 ('tmp', 9)
  refine R.callE1 ent29 (roomP _ ⟨_, hY.mat⟩ hR.l6 hR.x6 hR.room) rfl nofun ?_  -- 40 := call {'callee': ('value', ('func', 29)), 'args': [('tmp', 39)], 'argTypes': [24]}
  rintro v40 w6 hx6 rfl
  replace hY := hY.ext hx6
  replace hB9 := hB9.ext hx6
  replace hE := hE.ext hx6
  refine R.move ?_  -- 38 := move ('tmp', 40)
  refine R.extract rfl rfl ?_  -- 41 := extract ('tmp', 38) 0
  refine R.extract rfl rfl ?_  -- 42 := extract ('tmp', 38) 1
  refine R.assign ?_  -- 10 := assign ('tmp', 41)
  refine R.assign ?_  -- 11 := assign ('tmp', 42)
  refine R.nil ?_
  refine E.seq ?_
  refine E.regionP rfl ?_  -- region 7
  refine R.loadA t24 hB9 rfl rfl rfl trivial ?_  -- 43 := load 24 ('tmp', 9)
  refine R.alloc t24 nofun ?_  -- 12 := alloc 24
  intro b12 w7 hb12 hx7 hB12
  have ne9_12 : b9 ≠ b12 := by have := hB9.lt; omega
  replace hb12 := Nat.le_trans hE.size hb12
  replace hY := hY.ext hx7
  replace hB9 := hB9.ext hx7
  replace hE := hE.ext hx7
  replace hB12 : Blk _ b12 24 #[.slice none 0 0, .int .i64 0] := hB12
  refine R.storeA t24 hB12 rfl rfl rfl rfl (ones2 hY.outer.one rfl) nofun ?_  -- None := store 24 ('tmp', 12) ('tmp', 43)
  intro w8 hU8 hs8 hN8
  replace hY := hY.upT hU8 hB12 (by decide)
  replace hB9 := hB9.up hU8 (fun h => ne9_12 h)
  replace hE := hE.own hU8 hb12
  replace hB12 : Blk _ b12 24 #[u34, .int .i64 H] := hN8
  clear hN8
  refine R.nil ?_
  refine E.seq ?_
  refine E.regionP rfl ?_  -- region 8
  refine R.assign ?_  -- 13 := assign ('const', ('slice', ('none',), 0, 0))
  refine R.assign ?_  -- 14 := assign ('const', ('slice', ('none',), 0, 0))
  refine R.nil ?_
  refine E.seq ?_
  refine E.seq ?_
  refine E.forget [(3, vm), (9, .pointer (some ⟨b9, 0, none⟩)), (10, .int .i64 (xss.length * H - xss.flatten.length : Nat)), (11, .int .i64 0), (12, .pointer (some ⟨b12, 0, none⟩)), (13, .slice none 0 0), (14, .slice none 0 0)] ⟨rfl, rfl, rfl, rfl, rfl, rfl, rfl, trivial⟩ (fun e => ?_)
  refine E.regionP rfl ?_  -- region 9
  refine R.assign ?_  -- 15 := assign ('const', ('int', ('i64',), 0))
  refine R.nil ?_
  refine E.block ?_  -- block 0
  refine E.loop (fun n e wr => ∃ (i : Nat) (ov dv bv : Value) (us1 : List Value) (nw : List (List Int)) (ds bs : List (Int × Int)), n = 60 - i ∧ i ≤ 60 ∧ i ≤ ms.length ∧ ds.length ≤ i ∧ MvP xss H nw ds bs ∧ Ext w wr ∧ MO wr u34 us34 xss ∧ MO wr ov us1 nw ∧ Sl wr 30 2 dv ds.length (movesC ds) ∧ Sl wr 30 2 bv bs.length (movesC bs) ∧ Fresh w dv ∧ Fresh w bv ∧ (∀ b, vblk dv = some b → vblk bv ≠ some b) ∧ Blk wr b9 24 #[u34, .int .i64 H] ∧ Blk wr b12 24 #[ov, .int .i64 H] ∧ Has e [(3, vm), (9, .pointer (some ⟨b9, 0, none⟩)), (10, .int .i64 (xss.length * H - xss.flatten.length : Nat)), (11, .int .i64 0), (12, .pointer (some ⟨b12, 0, none⟩)), (13, dv), (14, bv), (15, .int .i64 (i : Nat))]) (60) ?_ ?_
  · exact ⟨0, _, _, _, _, _, [], [], rfl, by omega, by omega, by simp, MvP.start hR, hE, hY, hY, Sl.nil _ _ _, Sl.nil _ _ _, Fresh.nil _, Fresh.nil _, by simp [vblk], hB9, hB12, rfl, rfl, rfl, rfl, rfl, rfl, rfl, rfl, trivial⟩
  · rintro n e wr ⟨i, ov, dv, bv, us1, nw, ds, bs, rfl, hi, him, hdl, hV, hE, hY, hN, hD, hK, hfd, hfb, hsep, hB9, hB12, hH⟩
    obtain ⟨e, rfl⟩ := hH.ex
    clear hH
    have hbl := hV.same
    refine E.seq ?_
    refine E.seq ?_
    rcases (show ms.length ≤ i ∨ (i < ms.length ∧ 60 ≤ i) ∨ (i < ms.length ∧ i < 60) by omega) with hil | ⟨hil, hi60⟩ | ⟨hil, hi60⟩
    · have hpl := hV.playR hR (by omega)
      have hroomN := hV.right.room
      rw [hV.len, hV.perm.length_eq] at hroomN
      refine E.regionP rfl ?_  -- region 10
      refine R.move ?_  -- 44 := move ('tmp', 15)
      refine R.move ?_  -- 45 := move ('tmp', 3)
      refine R.len Try.underlying48 hms rfl ?_  -- 46 := call {'callee': ('builtin', ('len',)), 'args': [('tmp', 45)], 'argTypes': [48]}
      refine R.lss (b := false) rfl rfl (decide_eq_false (by omega)) ?_  -- 47 := binOp ('lss',) 3 ('tmp', 44) ('tmp', 46) 3
      refine R.move ?_  -- 48 := move ('tmp', 47)
      refine R.gF rfl rfl rfl ?_  -- 49 := move ('tmp', 15)
      refine R.gF rfl rfl rfl ?_  -- 50 := binOp ('lss',) 3 ('tmp', 49) ('const', ('int', ('i64',), 60)) 3
      refine R.pickF rfl ?_  -- 51 := pick ('tmp', 48) ('tmp', 50) ('const', ('bool', ('false',)))
      refine R.nil ?_
      refine E.condF rfl ?_  -- cond t51
      refine E.exit ?_  -- exit 0
      refine E.seq ?_
      refine E.forget [(9, .pointer (some ⟨b9, 0, none⟩)), (10, .int .i64 (xss.length * H - xss.flatten.length : Nat)), (11, .int .i64 0), (12, .pointer (some ⟨b12, 0, none⟩)), (13, dv), (14, bv)] ⟨rfl, rfl, rfl, rfl, rfl, rfl, trivial⟩ (fun e => ?_)
      refine E.regionP rfl ?_  -- region 20
      refine R.loadA t24 hB9 rfl rfl rfl trivial ?_  -- 132 := load 24 ('tmp', 9)
      refine R.move ?_  -- 133 := move ('tmp', 13)
      refine R.callE2 ent31 (yPlayM _ hY.mat hD.row (by omega) hR.l6 hR.x6 hpl.1) rfl rfl nofun ?_  -- 134 := call {'callee': ('value', ('func', 31)), 'args': [('tmp', 132), ('tmp', 133)], 'argTypes': [24, 48]}
      rintro v134 w9 hx9 ⟨u134, us134, rfl, hX134⟩
      replace hY := hY.ext hx9
      replace hN := hN.ext hx9
      replace hD := hD.ext hx9
      replace hK := hK.ext hx9
      replace hB9 := hB9.ext hx9
      replace hB12 := hB12.ext hx9
      replace hE := hE.ext hx9
      refine R.move ?_  -- 131 := move ('tmp', 134)
      refine R.extract rfl rfl ?_  -- 135 := extract ('tmp', 131) 0
      refine R.extract rfl rfl ?_  -- 136 := extract ('tmp', 131) 1
      refine R.extract rfl rfl ?_  -- 137 := extract ('tmp', 131) 2
      refine R.alloc t24 nofun ?_  -- 21 := alloc 24
      intro b21 w10 hb21 hx10 hB21
      have ne9_21 : b9 ≠ b21 := by have := hB9.lt; omega
      have ne12_21 : b12 ≠ b21 := by have := hB12.lt; omega
      replace hb21 := Nat.le_trans hE.size hb21
      replace hY := hY.ext hx10
      replace hN := hN.ext hx10
      replace hD := hD.ext hx10
      replace hK := hK.ext hx10
      replace hX134 := hX134.ext hx10
      replace hB9 := hB9.ext hx10
      replace hB12 := hB12.ext hx10
      replace hE := hE.ext hx10
      replace hB21 : Blk _ b21 24 #[.slice none 0 0, .int .i64 0] := hB21
      refine R.storeA t24 hB21 rfl rfl rfl rfl (ones2 hX134.outer.one rfl) nofun ?_  -- None := store 24 ('tmp', 21) ('tmp', 135)
      intro w11 hU11 hs11 hN11
      replace hY := hY.upT hU11 hB21 (by decide)
      replace hN := hN.upT hU11 hB21 (by decide)
      replace hD := hD.upT hU11 hB21 (by decide)
      replace hK := hK.upT hU11 hB21 (by decide)
      replace hX134 := hX134.upT hU11 hB21 (by decide)
      replace hB9 := hB9.up hU11 (fun h => ne9_21 h)
      replace hB12 := hB12.up hU11 (fun h => ne12_21 h)
      replace hE := hE.own hU11 hb21
      replace hB21 : Blk _ b21 24 #[u134, .int .i64 H] := hN11
      clear hN11
      refine R.assign ?_  -- 22 := assign ('tmp', 136)
      refine R.assign ?_  -- 23 := assign ('tmp', 137)
      refine R.nil ?_
      refine E.seq ?_
      refine E.regionP rfl ?_  -- region 21
      refine R.loadA t24 hB12 rfl rfl rfl trivial ?_  -- 139 := load 24 ('tmp', 12)
      refine R.callE1 ent29 (roomP _ ⟨_, hN.mat⟩ hV.right.l6 hV.right.x6 hroomN) rfl nofun ?_  -- 140 := call {'callee': ('value', ('func', 29)), 'args': [('tmp', 139)], 'argTypes': [24]}
      rintro v140 w12 hx12 rfl
      replace hY := hY.ext hx12
      replace hN := hN.ext hx12
      replace hD := hD.ext hx12
      replace hK := hK.ext hx12
      replace hX134 := hX134.ext hx12
      replace hB9 := hB9.ext hx12
      replace hB12 := hB12.ext hx12
      replace hB21 := hB21.ext hx12
      replace hE := hE.ext hx12
      refine R.move ?_  -- 138 := move ('tmp', 140)
      refine R.extract rfl rfl ?_  -- 141 := extract ('tmp', 138) 0
      refine R.extract rfl rfl ?_  -- 142 := extract ('tmp', 138) 1
      refine R.assign ?_  -- 24 := assign ('tmp', 141)
      refine R.assign ?_  -- 25 := assign ('tmp', 142)
      refine R.nil ?_
      refine E.seq ?_
      refine E.regionP rfl ?_  -- region 22
      refine R.loadA t24 hB12 rfl rfl rfl trivial ?_  -- 144 := load 24 ('tmp', 12)
      refine R.move ?_  -- 145 := move ('tmp', 14)
      refine R.callE2 ent31 (yPlayM _ hN.mat hK.row (by have := hV.same; omega) hV.right.l6 hV.right.x6 hpl.2) rfl rfl nofun ?_  -- 146 := call {'callee': ('value', ('func', 31)), 'args': [('tmp', 144), ('tmp', 145)], 'argTypes': [24, 48]}
      rintro v146 w13 hx13 ⟨u146, us146, rfl, hX146⟩
      replace hY := hY.ext hx13
      replace hN := hN.ext hx13
      replace hD := hD.ext hx13
      replace hK := hK.ext hx13
      replace hX134 := hX134.ext hx13
      replace hB9 := hB9.ext hx13
      replace hB12 := hB12.ext hx13
      replace hB21 := hB21.ext hx13
      replace hE := hE.ext hx13
      refine R.move ?_  -- 143 := move ('tmp', 146)
      refine R.extract rfl rfl ?_  -- 147 := extract ('tmp', 143) 0
      refine R.extract rfl rfl ?_  -- 148 := extract ('tmp', 143) 1
      refine R.extract rfl rfl ?_  -- 149 := extract ('tmp', 143) 2
      refine R.alloc t24 nofun ?_  -- 26 := alloc 24
      intro b26 w14 hb26 hx14 hB26
      have ne9_26 : b9 ≠ b26 := by have := hB9.lt; omega
      have ne12_26 : b12 ≠ b26 := by have := hB12.lt; omega
      have ne21_26 : b21 ≠ b26 := by have := hB21.lt; omega
      replace hb26 := Nat.le_trans hE.size hb26
      replace hY := hY.ext hx14
      replace hN := hN.ext hx14
      replace hD := hD.ext hx14
      replace hK := hK.ext hx14
      replace hX134 := hX134.ext hx14
      replace hX146 := hX146.ext hx14
      replace hB9 := hB9.ext hx14
      replace hB12 := hB12.ext hx14
      replace hB21 := hB21.ext hx14
      replace hE := hE.ext hx14
      replace hB26 : Blk _ b26 24 #[.slice none 0 0, .int .i64 0] := hB26
      refine R.storeA t24 hB26 rfl rfl rfl rfl (ones2 hX146.outer.one rfl) nofun ?_  -- None := store 24 ('tmp', 26) ('tmp', 147)
      intro w15 hU15 hs15 hN15
      replace hY := hY.upT hU15 hB26 (by decide)
      replace hN := hN.upT hU15 hB26 (by decide)
      replace hD := hD.upT hU15 hB26 (by decide)
      replace hK := hK.upT hU15 hB26 (by decide)
      replace hX134 := hX134.upT hU15 hB26 (by decide)
      replace hX146 := hX146.upT hU15 hB26 (by decide)
      replace hB9 := hB9.up hU15 (fun h => ne9_26 h)
      replace hB12 := hB12.up hU15 (fun h => ne12_26 h)
      replace hB21 := hB21.up hU15 (fun h => ne21_26 h)
      replace hE := hE.own hU15 hb26
      replace hB26 : Blk _ b26 24 #[u146, .int .i64 H] := hN15
      clear hN15
      refine R.assign ?_  -- 27 := assign ('tmp', 148)
      refine R.assign ?_  -- 28 := assign ('tmp', 149)
      refine R.nil ?_
      refine E.seq ?_
      refine E.forget [(9, .pointer (some ⟨b9, 0, none⟩)), (10, .int .i64 (xss.length * H - xss.flatten.length : Nat)), (11, .int .i64 0), (12, .pointer (some ⟨b12, 0, none⟩)), (21, .pointer (some ⟨b21, 0, none⟩)), (23, .int .i64 0), (24, .int .i64 (xss.length * H - xss.flatten.length : Nat)), (25, .int .i64 0), (26, .pointer (some ⟨b26, 0, none⟩)), (28, .int .i64 0)] ⟨rfl, rfl, rfl, rfl, rfl, rfl, rfl, rfl, rfl, rfl, trivial⟩ (fun e => ?_)
      refine E.regionP rfl ?_  -- region 23
      refine R.move ?_  -- 150 := move ('tmp', 11)
      refine R.eql (b := true) rfl rfl (by simp) ?_  -- 151 := binOp ('eql',) 38 ('tmp', 150) ('const', ('int', ('i64',), 0)) 38
      refine R.move ?_  -- 152 := move ('tmp', 151)
      refine R.gT rfl rfl ?_
      refine R.move ?_  -- 153 := move ('tmp', 23)
      refine R.gT rfl rfl ?_
      refine R.eql (b := true) rfl rfl (by simp) ?_  -- 154 := binOp ('eql',) 38 ('tmp', 153) ('const', ('int', ('i64',), 0)) 38
      refine R.pickT rfl ?_  -- 155 := pick ('tmp', 152) ('tmp', 154) ('const', ('bool', ('false',)))
      refine R.move ?_  -- 156 := move ('tmp', 155)
      refine R.gT rfl rfl ?_
      refine R.move ?_  -- 157 := move ('tmp', 25)
      refine R.gT rfl rfl ?_
      refine R.eql (b := true) rfl rfl (by simp) ?_  -- 158 := binOp ('eql',) 38 ('tmp', 157) ('const', ('int', ('i64',), 0)) 38
      refine R.pickT rfl ?_  -- 159 := pick ('tmp', 156) ('tmp', 158) ('const', ('bool', ('false',)))
      refine R.move ?_  -- 160 := move ('tmp', 159)
      refine R.gT rfl rfl ?_
      refine R.move ?_  -- 161 := move ('tmp', 28)
      refine R.gT rfl rfl ?_
      refine R.eql (b := true) rfl rfl (by simp) ?_  -- 162 := binOp ('eql',) 38 ('tmp', 161) ('const', ('int', ('i64',), 0)) 38
      refine R.pickT rfl ?_  -- 163 := pick ('tmp', 160) ('tmp', 162) ('const', ('bool', ('false',)))
      refine R.move ?_  -- 164 := move ('tmp', 163)
      refine R.gT rfl rfl ?_
      refine R.loadA t24 hB12 rfl rfl rfl trivial ?_  -- 165 := load 24 ('tmp', 12)
      refine R.gT rfl rfl ?_
      refine R.callE1 ent27 (rightP _ ⟨_, hN.mat⟩ hV.right.l6 hV.right.x6 hV.right.b) rfl nofun ?_  -- 166 := call {'callee': ('value', ('func', 27)), 'args': [('tmp', 165)], 'argTypes': [24]}
      rintro v166 w16 hx16 rfl
      replace hY := hY.ext hx16
      replace hN := hN.ext hx16
      replace hD := hD.ext hx16
      replace hK := hK.ext hx16
      replace hX134 := hX134.ext hx16
      replace hX146 := hX146.ext hx16
      replace hB9 := hB9.ext hx16
      replace hB12 := hB12.ext hx16
      replace hB21 := hB21.ext hx16
      replace hB26 := hB26.ext hx16
      replace hE := hE.ext hx16
      refine R.pickT rfl ?_  -- 167 := pick ('tmp', 164) ('tmp', 166) ('const', ('bool', ('false',)))
      refine R.move ?_  -- 168 := move ('tmp', 167)
      refine R.gT rfl rfl ?_
      refine R.loadA t24 hB21 rfl rfl rfl trivial ?_  -- 169 := load 24 ('tmp', 21)
      refine R.gT rfl rfl ?_
      refine R.loadA t24 hB12 rfl rfl rfl trivial ?_  -- 170 := load 24 ('tmp', 12)
      refine R.gT rfl rfl ?_
      refine R.callE2 ent28 (same1 _ ⟨_, hX134.mat⟩ hN.mat hV.right.l9 hV.right.x9) rfl rfl nofun ?_  -- 171 := call {'callee': ('value', ('func', 28)), 'args': [('tmp', 169), ('tmp', 170)], 'argTypes': [24, 24]}
      rintro v171 w17 hx17 rfl
      replace hY := hY.ext hx17
      replace hN := hN.ext hx17
      replace hD := hD.ext hx17
      replace hK := hK.ext hx17
      replace hX134 := hX134.ext hx17
      replace hX146 := hX146.ext hx17
      replace hB9 := hB9.ext hx17
      replace hB12 := hB12.ext hx17
      replace hB21 := hB21.ext hx17
      replace hB26 := hB26.ext hx17
      replace hE := hE.ext hx17
      refine R.pickT rfl ?_  -- 172 := pick ('tmp', 168) ('tmp', 171) ('const', ('bool', ('false',)))
      refine R.move ?_  -- 173 := move ('tmp', 172)
      refine R.gT rfl rfl ?_
      refine R.move ?_  -- 174 := move ('tmp', 24)
      refine R.gT rfl rfl ?_
      refine R.move ?_  -- 175 := move ('tmp', 10)
      refine R.gT rfl rfl ?_
      refine R.eql (b := true) rfl rfl (by simp) ?_  -- 176 := binOp ('eql',) 3 ('tmp', 174) ('tmp', 175) 3
      refine R.pickT rfl ?_  -- 177 := pick ('tmp', 173) ('tmp', 176) ('const', ('bool', ('false',)))
      refine R.move ?_  -- 178 := move ('tmp', 177)
      refine R.gT rfl rfl ?_
      refine R.loadA t24 hB12 rfl rfl rfl trivial ?_  -- 179 := load 24 ('tmp', 12)
      refine R.gT rfl rfl ?_
      refine R.loadA t24 hB9 rfl rfl rfl trivial ?_  -- 180 := load 24 ('tmp', 9)
      refine R.gT rfl rfl ?_
      refine R.callE2 ent37 (alike _ hN.mat hY.mat hV.right hR hV.perm) rfl rfl nofun ?_  -- 181 := call {'callee': ('value', ('func', 37)), 'args': [('tmp', 179), ('tmp', 180)], 'argTypes': [24, 24]}
      rintro v181 w18 hx18 rfl
      replace hY := hY.ext hx18
      replace hN := hN.ext hx18
      replace hD := hD.ext hx18
      replace hK := hK.ext hx18
      replace hX134 := hX134.ext hx18
      replace hX146 := hX146.ext hx18
      replace hB9 := hB9.ext hx18
      replace hB12 := hB12.ext hx18
      replace hB21 := hB21.ext hx18
      replace hB26 := hB26.ext hx18
      replace hE := hE.ext hx18
      refine R.pickT rfl ?_  -- 182 := pick ('tmp', 178) ('tmp', 181) ('const', ('bool', ('false',)))
      refine R.move ?_  -- 183 := move ('tmp', 182)
      refine R.gT rfl rfl ?_
      refine R.loadA t24 hB26 rfl rfl rfl trivial ?_  -- 184 := load 24 ('tmp', 26)
      refine R.gT rfl rfl ?_
      refine R.loadA t24 hB9 rfl rfl rfl trivial ?_  -- 185 := load 24 ('tmp', 9)
      refine R.gT rfl rfl ?_
      refine R.callE2 ent28 (same1 _ ⟨_, hX146.mat⟩ hY.mat hR.l9 hR.x9) rfl rfl nofun ?_  -- 186 := call {'callee': ('value', ('func', 28)), 'args': [('tmp', 184), ('tmp', 185)], 'argTypes': [24, 24]}
      rintro v186 w19 hx19 rfl
      replace hY := hY.ext hx19
      replace hN := hN.ext hx19
      replace hD := hD.ext hx19
      replace hK := hK.ext hx19
      replace hX134 := hX134.ext hx19
      replace hX146 := hX146.ext hx19
      replace hB9 := hB9.ext hx19
      replace hB12 := hB12.ext hx19
      replace hB21 := hB21.ext hx19
      replace hB26 := hB26.ext hx19
      replace hE := hE.ext hx19
      refine R.pickT rfl ?_  -- 187 := pick ('tmp', 183) ('tmp', 186) ('const', ('bool', ('false',)))
      refine R.assign ?_  -- 8 := assign ('tmp', 187)
      refine R.nil ?_
      refine E.ret ?_
      exact ret1 (.bool true) rfl rfl ⟨_, rfl, hE, rfl⟩  -- return 0 path 0
    · have hpl := hV.playR hR (by omega)
      have hroomN := hV.right.room
      rw [hV.len, hV.perm.length_eq] at hroomN
      refine E.regionP rfl ?_  -- region 10
      refine R.move ?_  -- 44 := move ('tmp', 15)
      refine R.move ?_  -- 45 := move ('tmp', 3)
      refine R.len Try.underlying48 hms rfl ?_  -- 46 := call {'callee': ('builtin', ('len',)), 'args': [('tmp', 45)], 'argTypes': [48]}
      refine R.lss (b := true) rfl rfl (decide_eq_true (by omega)) ?_  -- 47 := binOp ('lss',) 3 ('tmp', 44) ('tmp', 46) 3
      refine R.move ?_  -- 48 := move ('tmp', 47)
      refine R.gT rfl rfl ?_
      refine R.move ?_  -- 49 := move ('tmp', 15)
      refine R.gT rfl rfl ?_
      refine R.lss (b := false) rfl rfl (decide_eq_false (by omega)) ?_  -- 50 := binOp ('lss',) 3 ('tmp', 49) ('const', ('int', ('i64',), 60)) 3
      refine R.pickT rfl ?_  -- 51 := pick ('tmp', 48) ('tmp', 50) ('const', ('bool', ('false',)))
      refine R.nil ?_
      refine E.condF rfl ?_  -- cond t51
      refine E.exit ?_  -- exit 0
      refine E.seq ?_
      refine E.forget [(9, .pointer (some ⟨b9, 0, none⟩)), (10, .int .i64 (xss.length * H - xss.flatten.length : Nat)), (11, .int .i64 0), (12, .pointer (some ⟨b12, 0, none⟩)), (13, dv), (14, bv)] ⟨rfl, rfl, rfl, rfl, rfl, rfl, trivial⟩ (fun e => ?_)
      refine E.regionP rfl ?_  -- region 20
      refine R.loadA t24 hB9 rfl rfl rfl trivial ?_  -- 132 := load 24 ('tmp', 9)
      refine R.move ?_  -- 133 := move ('tmp', 13)
      refine R.callE2 ent31 (yPlayM _ hY.mat hD.row (by omega) hR.l6 hR.x6 hpl.1) rfl rfl nofun ?_  -- 134 := call {'callee': ('value', ('func', 31)), 'args': [('tmp', 132), ('tmp', 133)], 'argTypes': [24, 48]}
      rintro v134 w20 hx20 ⟨u134, us134, rfl, hX134⟩
      replace hY := hY.ext hx20
      replace hN := hN.ext hx20
      replace hD := hD.ext hx20
      replace hK := hK.ext hx20
      replace hB9 := hB9.ext hx20
      replace hB12 := hB12.ext hx20
      replace hE := hE.ext hx20
      refine R.move ?_  -- 131 := move ('tmp', 134)
      refine R.extract rfl rfl ?_  -- 135 := extract ('tmp', 131) 0
      refine R.extract rfl rfl ?_  -- 136 := extract ('tmp', 131) 1
      refine R.extract rfl rfl ?_  -- 137 := extract ('tmp', 131) 2
      refine R.alloc t24 nofun ?_  -- 21 := alloc 24
      intro b21 w21 hb21 hx21 hB21
      have ne9_21 : b9 ≠ b21 := by have := hB9.lt; omega
      have ne12_21 : b12 ≠ b21 := by have := hB12.lt; omega
      replace hb21 := Nat.le_trans hE.size hb21
      replace hY := hY.ext hx21
      replace hN := hN.ext hx21
      replace hD := hD.ext hx21
      replace hK := hK.ext hx21
      replace hX134 := hX134.ext hx21
      replace hB9 := hB9.ext hx21
      replace hB12 := hB12.ext hx21
      replace hE := hE.ext hx21
      replace hB21 : Blk _ b21 24 #[.slice none 0 0, .int .i64 0] := hB21
      refine R.storeA t24 hB21 rfl rfl rfl rfl (ones2 hX134.outer.one rfl) nofun ?_  -- None := store 24 ('tmp', 21) ('tmp', 135)
      intro w22 hU22 hs22 hN22
      replace hY := hY.upT hU22 hB21 (by decide)
      replace hN := hN.upT hU22 hB21 (by decide)
      replace hD := hD.upT hU22 hB21 (by decide)
      replace hK := hK.upT hU22 hB21 (by decide)
      replace hX134 := hX134.upT hU22 hB21 (by decide)
      replace hB9 := hB9.up hU22 (fun h => ne9_21 h)
      replace hB12 := hB12.up hU22 (fun h => ne12_21 h)
      replace hE := hE.own hU22 hb21
      replace hB21 : Blk _ b21 24 #[u134, .int .i64 H] := hN22
      clear hN22
      refine R.assign ?_  -- 22 := assign ('tmp', 136)
      refine R.assign ?_  -- 23 := assign ('tmp', 137)
      refine R.nil ?_
      refine E.seq ?_
      refine E.regionP rfl ?_  -- region 21
      refine R.loadA t24 hB12 rfl rfl rfl trivial ?_  -- 139 := load 24 ('tmp', 12)
      refine R.callE1 ent29 (roomP _ ⟨_, hN.mat⟩ hV.right.l6 hV.right.x6 hroomN) rfl nofun ?_  -- 140 := call {'callee': ('value', ('func', 29)), 'args': [('tmp', 139)], 'argTypes': [24]}
      rintro v140 w23 hx23 rfl
      replace hY := hY.ext hx23
      replace hN := hN.ext hx23
      replace hD := hD.ext hx23
      replace hK := hK.ext hx23
      replace hX134 := hX134.ext hx23
      replace hB9 := hB9.ext hx23
      replace hB12 := hB12.ext hx23
      replace hB21 := hB21.ext hx23
      replace hE := hE.ext hx23
      refine R.move ?_  -- 138 := move ('tmp', 140)
      refine R.extract rfl rfl ?_  -- 141 := extract ('tmp', 138) 0
      refine R.extract rfl rfl ?_  -- 142 := extract ('tmp', 138) 1
      refine R.assign ?_  -- 24 := assign ('tmp', 141)
      refine R.assign ?_  -- 25 := assign ('tmp', 142)
      refine R.nil ?_
      refine E.seq ?_
      refine E.regionP rfl ?_  -- region 22
      refine R.loadA t24 hB12 rfl rfl rfl trivial ?_  -- 144 := load 24 ('tmp', 12)
      refine R.move ?_  -- 145 := move ('tmp', 14)
      refine R.callE2 ent31 (yPlayM _ hN.mat hK.row (by have := hV.same; omega) hV.right.l6 hV.right.x6 hpl.2) rfl rfl nofun ?_  -- 146 := call {'callee': ('value', ('func', 31)), 'args': [('tmp', 144), ('tmp', 145)], 'argTypes': [24, 48]}
      rintro v146 w24 hx24 ⟨u146, us146, rfl, hX146⟩
      replace hY := hY.ext hx24
      replace hN := hN.ext hx24
      replace hD := hD.ext hx24
      replace hK := hK.ext hx24
      replace hX134 := hX134.ext hx24
      replace hB9 := hB9.ext hx24
      replace hB12 := hB12.ext hx24
      replace hB21 := hB21.ext hx24
      replace hE := hE.ext hx24
      refine R.move ?_  -- 143 := move ('tmp', 146)
      refine R.extract rfl rfl ?_  -- 147 := extract ('tmp', 143) 0
      refine R.extract rfl rfl ?_  -- 148 := extract ('tmp', 143) 1
      refine R.extract rfl rfl ?_  -- 149 := extract ('tmp', 143) 2
      refine R.alloc t24 nofun ?_  -- 26 := alloc 24
      intro b26 w25 hb26 hx25 hB26
      have ne9_26 : b9 ≠ b26 := by have := hB9.lt; omega
      have ne12_26 : b12 ≠ b26 := by have := hB12.lt; omega
      have ne21_26 : b21 ≠ b26 := by have := hB21.lt; omega
      replace hb26 := Nat.le_trans hE.size hb26
      replace hY := hY.ext hx25
      replace hN := hN.ext hx25
      replace hD := hD.ext hx25
      replace hK := hK.ext hx25
      replace hX134 := hX134.ext hx25
      replace hX146 := hX146.ext hx25
      replace hB9 := hB9.ext hx25
      replace hB12 := hB12.ext hx25
      replace hB21 := hB21.ext hx25
      replace hE := hE.ext hx25
      replace hB26 : Blk _ b26 24 #[.slice none 0 0, .int .i64 0] := hB26
      refine R.storeA t24 hB26 rfl rfl rfl rfl (ones2 hX146.outer.one rfl) nofun ?_  -- None := store 24 ('tmp', 26) ('tmp', 147)
      intro w26 hU26 hs26 hN26
      replace hY := hY.upT hU26 hB26 (by decide)
      replace hN := hN.upT hU26 hB26 (by decide)
      replace hD := hD.upT hU26 hB26 (by decide)
      replace hK := hK.upT hU26 hB26 (by decide)
      replace hX134 := hX134.upT hU26 hB26 (by decide)
      replace hX146 := hX146.upT hU26 hB26 (by decide)
      replace hB9 := hB9.up hU26 (fun h => ne9_26 h)
      replace hB12 := hB12.up hU26 (fun h => ne12_26 h)
      replace hB21 := hB21.up hU26 (fun h => ne21_26 h)
      replace hE := hE.own hU26 hb26
      replace hB26 : Blk _ b26 24 #[u146, .int .i64 H] := hN26
      clear hN26
      refine R.assign ?_  -- 27 := assign ('tmp', 148)
      refine R.assign ?_  -- 28 := assign ('tmp', 149)
      refine R.nil ?_
      refine E.seq ?_
      refine E.forget [(9, .pointer (some ⟨b9, 0, none⟩)), (10, .int .i64 (xss.length * H - xss.flatten.length : Nat)), (11, .int .i64 0), (12, .pointer (some ⟨b12, 0, none⟩)), (21, .pointer (some ⟨b21, 0, none⟩)), (23, .int .i64 0), (24, .int .i64 (xss.length * H - xss.flatten.length : Nat)), (25, .int .i64 0), (26, .pointer (some ⟨b26, 0, none⟩)), (28, .int .i64 0)] ⟨rfl, rfl, rfl, rfl, rfl, rfl, rfl, rfl, rfl, rfl, trivial⟩ (fun e => ?_)
      refine E.regionP rfl ?_  -- region 23
      refine R.move ?_  -- 150 := move ('tmp', 11)
      refine R.eql (b := true) rfl rfl (by simp) ?_  -- 151 := binOp ('eql',) 38 ('tmp', 150) ('const', ('int', ('i64',), 0)) 38
      refine R.move ?_  -- 152 := move ('tmp', 151)
      refine R.gT rfl rfl ?_
      refine R.move ?_  -- 153 := move ('tmp', 23)
      refine R.gT rfl rfl ?_
      refine R.eql (b := true) rfl rfl (by simp) ?_  -- 154 := binOp ('eql',) 38 ('tmp', 153) ('const', ('int', ('i64',), 0)) 38
      refine R.pickT rfl ?_  -- 155 := pick ('tmp', 152) ('tmp', 154) ('const', ('bool', ('false',)))
      refine R.move ?_  -- 156 := move ('tmp', 155)
      refine R.gT rfl rfl ?_
      refine R.move ?_  -- 157 := move ('tmp', 25)
      refine R.gT rfl rfl ?_
      refine R.eql (b := true) rfl rfl (by simp) ?_  -- 158 := binOp ('eql',) 38 ('tmp', 157) ('const', ('int', ('i64',), 0)) 38
      refine R.pickT rfl ?_  -- 159 := pick ('tmp', 156) ('tmp', 158) ('const', ('bool', ('false',)))
      refine R.move ?_  -- 160 := move ('tmp', 159)
      refine R.gT rfl rfl ?_
      refine R.move ?_  -- 161 := move ('tmp', 28)
      refine R.gT rfl rfl ?_
      refine R.eql (b := true) rfl rfl (by simp) ?_  -- 162 := binOp ('eql',) 38 ('tmp', 161) ('const', ('int', ('i64',), 0)) 38
      refine R.pickT rfl ?_  -- 163 := pick ('tmp', 160) ('tmp', 162) ('const', ('bool', ('false',)))
      refine R.move ?_  -- 164 := move ('tmp', 163)
      refine R.gT rfl rfl ?_
      refine R.loadA t24 hB12 rfl rfl rfl trivial ?_  -- 165 := load 24 ('tmp', 12)
      refine R.gT rfl rfl ?_
      refine R.callE1 ent27 (rightP _ ⟨_, hN.mat⟩ hV.right.l6 hV.right.x6 hV.right.b) rfl nofun ?_  -- 166 := call {'callee': ('value', ('func', 27)), 'args': [('tmp', 165)], 'argTypes': [24]}
      rintro v166 w27 hx27 rfl
      replace hY := hY.ext hx27
      replace hN := hN.ext hx27
      replace hD := hD.ext hx27
      replace hK := hK.ext hx27
      replace hX134 := hX134.ext hx27
      replace hX146 := hX146.ext hx27
      replace hB9 := hB9.ext hx27
      replace hB12 := hB12.ext hx27
      replace hB21 := hB21.ext hx27
      replace hB26 := hB26.ext hx27
      replace hE := hE.ext hx27
      refine R.pickT rfl ?_  -- 167 := pick ('tmp', 164) ('tmp', 166) ('const', ('bool', ('false',)))
      refine R.move ?_  -- 168 := move ('tmp', 167)
      refine R.gT rfl rfl ?_
      refine R.loadA t24 hB21 rfl rfl rfl trivial ?_  -- 169 := load 24 ('tmp', 21)
      refine R.gT rfl rfl ?_
      refine R.loadA t24 hB12 rfl rfl rfl trivial ?_  -- 170 := load 24 ('tmp', 12)
      refine R.gT rfl rfl ?_
      refine R.callE2 ent28 (same1 _ ⟨_, hX134.mat⟩ hN.mat hV.right.l9 hV.right.x9) rfl rfl nofun ?_  -- 171 := call {'callee': ('value', ('func', 28)), 'args': [('tmp', 169), ('tmp', 170)], 'argTypes': [24, 24]}
      rintro v171 w28 hx28 rfl
      replace hY := hY.ext hx28
      replace hN := hN.ext hx28
      replace hD := hD.ext hx28
      replace hK := hK.ext hx28
      replace hX134 := hX134.ext hx28
      replace hX146 := hX146.ext hx28
      replace hB9 := hB9.ext hx28
      replace hB12 := hB12.ext hx28
      replace hB21 := hB21.ext hx28
      replace hB26 := hB26.ext hx28
      replace hE := hE.ext hx28
      refine R.pickT rfl ?_  -- 172 := pick ('tmp', 168) ('tmp', 171) ('const', ('bool', ('false',)))
      refine R.move ?_  -- 173 := move ('tmp', 172)
      refine R.gT rfl rfl ?_
      refine R.move ?_  -- 174 := move ('tmp', 24)
      refine R.gT rfl rfl ?_
      refine R.move ?_  -- 175 := move ('tmp', 10)
      refine R.gT rfl rfl ?_
      refine R.eql (b := true) rfl rfl (by simp) ?_  -- 176 := binOp ('eql',) 3 ('tmp', 174) ('tmp', 175) 3
      refine R.pickT rfl ?_  -- 177 := pick ('tmp', 173) ('tmp', 176) ('const', ('bool', ('false',)))
      refine R.move ?_  -- 178 := move ('tmp', 177)
      refine R.gT rfl rfl ?_
      refine R.loadA t24 hB12 rfl rfl rfl trivial ?_  -- 179 := load 24 ('tmp', 12)
      refine R.gT rfl rfl ?_
      refine R.loadA t24 hB9 rfl rfl rfl trivial ?_  -- 180 := load 24 ('tmp', 9)
      refine R.gT rfl rfl ?_
      refine R.callE2 ent37 (alike _ hN.mat hY.mat hV.right hR hV.perm) rfl rfl nofun ?_  -- 181 := call {'callee': ('value', ('func', 37)), 'args': [('tmp', 179), ('tmp', 180)], 'argTypes': [24, 24]}
      rintro v181 w29 hx29 rfl
      replace hY := hY.ext hx29
      replace hN := hN.ext hx29
      replace hD := hD.ext hx29
      replace hK := hK.ext hx29
      replace hX134 := hX134.ext hx29
      replace hX146 := hX146.ext hx29
      replace hB9 := hB9.ext hx29
      replace hB12 := hB12.ext hx29
      replace hB21 := hB21.ext hx29
      replace hB26 := hB26.ext hx29
      replace hE := hE.ext hx29
      refine R.pickT rfl ?_  -- 182 := pick ('tmp', 178) ('tmp', 181) ('const', ('bool', ('false',)))
      refine R.move ?_  -- 183 := move ('tmp', 182)
      refine R.gT rfl rfl ?_
      refine R.loadA t24 hB26 rfl rfl rfl trivial ?_  -- 184 := load 24 ('tmp', 26)
      refine R.gT rfl rfl ?_
      refine R.loadA t24 hB9 rfl rfl rfl trivial ?_  -- 185 := load 24 ('tmp', 9)
      refine R.gT rfl rfl ?_
      refine R.callE2 ent28 (same1 _ ⟨_, hX146.mat⟩ hY.mat hR.l9 hR.x9) rfl rfl nofun ?_  -- 186 := call {'callee': ('value', ('func', 28)), 'args': [('tmp', 184), ('tmp', 185)], 'argTypes': [24, 24]}
      rintro v186 w30 hx30 rfl
      replace hY := hY.ext hx30
      replace hN := hN.ext hx30
      replace hD := hD.ext hx30
      replace hK := hK.ext hx30
      replace hX134 := hX134.ext hx30
      replace hX146 := hX146.ext hx30
      replace hB9 := hB9.ext hx30
      replace hB12 := hB12.ext hx30
      replace hB21 := hB21.ext hx30
      replace hB26 := hB26.ext hx30
      replace hE := hE.ext hx30
      refine R.pickT rfl ?_  -- 187 := pick ('tmp', 183) ('tmp', 186) ('const', ('bool', ('false',)))
      refine R.assign ?_  -- 8 := assign ('tmp', 187)
      refine R.nil ?_
      refine E.ret ?_
      exact ret1 (.bool true) rfl rfl ⟨_, rfl, hE, rfl⟩  -- return 1 path 1
    · refine E.regionP rfl ?_  -- region 10
      refine R.move ?_  -- 44 := move ('tmp', 15)
      refine R.move ?_  -- 45 := move ('tmp', 3)
      refine R.len Try.underlying48 hms rfl ?_  -- 46 := call {'callee': ('builtin', ('len',)), 'args': [('tmp', 45)], 'argTypes': [48]}
      refine R.lss (b := true) rfl rfl (decide_eq_true (by omega)) ?_  -- 47 := binOp ('lss',) 3 ('tmp', 44) ('tmp', 46) 3
      refine R.move ?_  -- 48 := move ('tmp', 47)
      refine R.gT rfl rfl ?_
      refine R.move ?_  -- 49 := move ('tmp', 15)
      refine R.gT rfl rfl ?_
      refine R.lss (b := true) rfl rfl (decide_eq_true (by omega)) ?_  -- 50 := binOp ('lss',) 3 ('tmp', 49) ('const', ('int', ('i64',), 60)) 3
      refine R.pickT rfl ?_  -- 51 := pick ('tmp', 48) ('tmp', 50) ('const', ('bool', ('false',)))
      refine R.nil ?_
      refine E.condT rfl ?_  -- cond t51
      refine E.skip ?_
      refine E.seq ?_
      refine E.block ?_  -- block 1
      refine E.seq ?_
      refine E.forget [(3, vm), (9, .pointer (some ⟨b9, 0, none⟩)), (10, .int .i64 (xss.length * H - xss.flatten.length : Nat)), (11, .int .i64 0), (12, .pointer (some ⟨b12, 0, none⟩)), (13, dv), (14, bv), (15, .int .i64 (i : Nat))] ⟨rfl, rfl, rfl, rfl, rfl, rfl, rfl, rfl, trivial⟩ (fun e => ?_)
      have hW0 := hE.size
      refine E.regionF (fun c x => x < wr.heap.size ∧ (c = false → True)) [] [] mixed rfl (by kernel_rfl) (fun _ _ h => h.1) ?_  -- region 12
      intro w31 hx31 hh31
      replace hY := hY.ext hx31
      replace hN := hN.ext hx31
      replace hD := hD.ext hx31
      replace hK := hK.ext hx31
      replace hB9 := hB9.ext hx31
      replace hB12 := hB12.ext hx31
      replace hE := hE.ext hx31
      have hEs : Ext w31 w31 := Upd.refl _
      have hS0 := hx31.size
      have hSB : ∀ b, b < w31.heap.size → b < wr.heap.size ∧ (true = false → (fun x => True) b) := fun b hb => ⟨by rw [hh31] at hb; exact hb, nofun⟩
      have hSA : ∀ b, b < w31.heap.size → (fun x => True) b → b < wr.heap.size ∧ (false = false → (fun x => True) b) := fun b hb h => ⟨by rw [hh31] at hb; exact hb, fun _ => h⟩
      have hSO : ∀ b, b < w.heap.size → b < wr.heap.size ∧ (false = false → (fun x => True) b) := fun b hb => hSA b (Nat.lt_of_lt_of_le hb hE.size) (trivial)
      have hYs := hY
      have hNs := hN
      have hDs := hD
      have hKs := hK
      have hB9s := hB9
      have hB12s := hB12
      refine G.q rfl (Nat.le_of_ble_eq_true rfl) ?_
      refine R.move ?_  -- 54 := move ('tmp', 3)
      refine R.nil ?_
      refine G.q rfl (Nat.le_of_ble_eq_true rfl) ?_
      refine R.move ?_  -- 55 := move ('tmp', 15)
      refine R.nil ?_
      refine G.q rfl (Nat.le_of_ble_eq_true rfl) ?_
      refine R.ix Try.underlying48 t30 (by decide) hms rfl rfl (by omega) ?_  -- 56 := indexAddr 48 ('tmp', 54) ('tmp', 55)
      refine R.nil ?_
      refine G.q rfl (Nat.le_of_ble_eq_true rfl) ?_
      refine R.fldE fa30_0 hms (by rw [movesC_len]; omega) rfl ?_  -- 57 := fieldAddr 30 ('tmp', 56) 0
      refine R.nil ?_
      refine G.q rfl (Nat.le_of_ble_eq_true rfl) ?_
      refine R.ldF t3 hms hE rfl (movesC_get hil).1 rfl hSO ?_  -- 58 := load 3 ('tmp', 57)
      refine R.nil ?_
      refine G.q rfl (Nat.le_of_ble_eq_true rfl) ?_
      refine R.fld fa24_0 rfl ?_  -- 59 := fieldAddr 24 ('tmp', 9) 0
      refine R.nil ?_
      refine G.q rfl (Nat.le_of_ble_eq_true rfl) ?_
      refine R.loadB t22 hB9 rfl rfl rfl (hSA b9 hB9s.lt (trivial)) ?_  -- 60 := load 22 ('tmp', 59)
      refine R.nil ?_
      refine G.q rfl (Nat.le_of_ble_eq_true rfl) ?_
      refine R.len Try.underlying22 hY.outer.row rfl ?_  -- 61 := call {'callee': ('builtin', ('len',)), 'args': [('tmp', 60)], 'argTypes': [22]}
      refine R.nil ?_
      refine G.q rfl (Nat.le_of_ble_eq_true rfl) ?_
      refine R.addN (m := xss.length) (n := 1) rfl rfl (by omega) ?_  -- 62 := binOp ('add',) 3 ('tmp', 61) ('const', ('int', ('i64',), 1)) 3
      refine R.nil ?_
      refine G.l rfl rfl (.inr rfl) (Nat.le_of_ble_eq_true rfl) ?_
      intro w32 hx32
      replace hY := hY.ext hx32
      replace hN := hN.ext hx32
      replace hD := hD.ext hx32
      replace hK := hK.ext hx32
      replace hB9 := hB9.ext hx32
      replace hB12 := hB12.ext hx32
      replace hE := hE.ext hx32
      replace hEs := hEs.ext hx32
      refine R.callE2 ent21 (pick _ (a := ms[i].1) (n := ((xss.length + 1 : Nat) : Int)) (by omega)) rfl rfl (fun _ _ hb => G.S1_lt (fun _ _ h => h.1) (Nat.le_trans hS0 hEs.size) hb) ?_  -- 63 := call {'callee': ('value', ('func', 21)), 'args': [('tmp', 58), ('tmp', 62)], 'argTypes': [3, 3]}
      rintro v63 w33 hx33 rfl
      replace hY := hY.ext hx33
      replace hN := hN.ext hx33
      replace hD := hD.ext hx33
      replace hK := hK.ext hx33
      replace hB9 := hB9.ext hx33
      replace hB12 := hB12.ext hx33
      replace hE := hE.ext hx33
      replace hEs := hEs.ext hx33
      refine R.nil ⟨hx33.size, ?_⟩
      intro K32 hK32 hN32
      refine G.q rfl (Nat.le_of_ble_eq_true rfl) ?_
      refine R.move ?_  -- 64 := move ('tmp', 3)
      refine R.nil ?_
      refine G.q rfl (Nat.le_of_ble_eq_true rfl) ?_
      refine R.move ?_  -- 65 := move ('tmp', 15)
      refine R.nil ?_
      refine G.q rfl (Nat.le_of_ble_eq_true rfl) ?_
      refine R.ix Try.underlying48 t30 (by decide) hms rfl rfl (by omega) ?_  -- 66 := indexAddr 48 ('tmp', 64) ('tmp', 65)
      refine R.nil ?_
      refine G.q rfl (Nat.le_of_ble_eq_true rfl) ?_
      refine R.fldE fa30_1 hms (by rw [movesC_len]; omega) rfl ?_  -- 67 := fieldAddr 30 ('tmp', 66) 1
      refine R.nil ?_
      refine G.q rfl (Nat.le_of_ble_eq_true rfl) ?_
      refine R.ldF t3 hms hE rfl (movesC_get hil).2 rfl hSO ?_  -- 68 := load 3 ('tmp', 67)
      refine R.nil ?_
      refine G.q rfl (Nat.le_of_ble_eq_true rfl) ?_
      refine R.fld fa24_0 rfl ?_  -- 69 := fieldAddr 24 ('tmp', 9) 0
      refine R.nil ?_
      refine G.q rfl (Nat.le_of_ble_eq_true rfl) ?_
      refine R.loadB t22 hB9 rfl rfl rfl (hSA b9 hB9s.lt (trivial)) ?_  -- 70 := load 22 ('tmp', 69)
      refine R.nil ?_
      refine G.q rfl (Nat.le_of_ble_eq_true rfl) ?_
      refine R.len Try.underlying22 hY.outer.row rfl ?_  -- 71 := call {'callee': ('builtin', ('len',)), 'args': [('tmp', 70)], 'argTypes': [22]}
      refine R.nil ?_
      refine G.q rfl (Nat.le_of_ble_eq_true rfl) ?_
      refine R.addN (m := xss.length) (n := 1) rfl rfl (by omega) ?_  -- 72 := binOp ('add',) 3 ('tmp', 71) ('const', ('int', ('i64',), 1)) 3
      refine R.nil ?_
      refine G.l rfl rfl (.inr rfl) (Nat.le_of_ble_eq_true rfl) ?_
      intro w34 hx34
      replace hY := hY.ext hx34
      replace hN := hN.ext hx34
      replace hD := hD.ext hx34
      replace hK := hK.ext hx34
      replace hB9 := hB9.ext hx34
      replace hB12 := hB12.ext hx34
      replace hE := hE.ext hx34
      replace hEs := hEs.ext hx34
      refine R.callE2 ent21 (pick _ (a := ms[i].2) (n := ((xss.length + 1 : Nat) : Int)) (by omega)) rfl rfl (fun _ _ hb => G.S1_lt (fun _ _ h => h.1) (Nat.le_trans hS0 hEs.size) hb) ?_  -- 73 := call {'callee': ('value', ('func', 21)), 'args': [('tmp', 68), ('tmp', 72)], 'argTypes': [3, 3]}
      rintro v73 w35 hx35 rfl
      replace hY := hY.ext hx35
      replace hN := hN.ext hx35
      replace hD := hD.ext hx35
      replace hK := hK.ext hx35
      replace hB9 := hB9.ext hx35
      replace hB12 := hB12.ext hx35
      replace hE := hE.ext hx35
      replace hEs := hEs.ext hx35
      refine R.nil ⟨hx35.size, ?_⟩
      intro K34 hK34 hN34
      refine G.q rfl (Nat.le_of_ble_eq_true rfl) ?_
      refine R.build build30 rfl ?_  -- 74 := build 30 [('tup', 0, ('tmp', 63)), ('tup', 1, ('tmp', 73))]
      refine R.nil ?_
      refine G.alloc t30 ?_  -- 16 := alloc 30
      intro w36 b16 K36 hx36 hb16 hn16 hK36 hk16 hB16
      have hn016 := hb16
      replace hb16 := Nat.le_trans hW0 hb16
      replace hY := hY.ext hx36
      replace hN := hN.ext hx36
      replace hD := hD.ext hx36
      replace hK := hK.ext hx36
      replace hB9 := hB9.ext hx36
      replace hB12 := hB12.ext hx36
      replace hE := hE.ext hx36
      replace hEs := hEs.ext hx36
      replace hB16 : Blk _ b16 30 #[.int .i64 0, .int .i64 0] := hB16
      refine G.l rfl rfl (.inr rfl) (Nat.le_of_ble_eq_true rfl) ?_
      intro w37 hx37
      replace hY := hY.ext hx37
      replace hN := hN.ext hx37
      replace hD := hD.ext hx37
      replace hK := hK.ext hx37
      replace hB9 := hB9.ext hx37
      replace hB12 := hB12.ext hx37
      replace hB16 := hB16.ext hx37
      replace hE := hE.ext hx37
      replace hEs := hEs.ext hx37
      have hne16 : vblk dv ≠ some b16 := fun e => by have h1 := hDs.blk_lt e; rw [hh31] at h1; omega  -- None := store 30 ('tmp', 16) ('tmp', 74)
      have hne16b : vblk bv ≠ some b16 := fun e => by have h1 := hKs.blk_lt e; rw [hh31] at h1; omega
      refine R.storeA t30 hB16 rfl rfl rfl rfl (ones2 rfl rfl) (fun _ h => G.S1_new (fun _ _ h => h.1) hn016 hk16 h) ?_
      intro w90 hU90 hs90 hN90
      replace hY := hY.upT hU90 hB16 (by decide)
      replace hN := hN.upT hU90 hB16 (by decide)
      replace hD := hD.up hU90 (fun b e h => hne16 (h ▸ e))
      replace hK := hK.up hU90 (fun b e h => hne16b (h ▸ e))
      replace hB9 := hB9.upT hU90 hB16 (by decide)
      replace hB12 := hB12.upT hU90 hB16 (by decide)
      replace hE := hE.own hU90 hb16
      replace hB16 : Blk _ b16 30 #[.int .i64 (pickL ms[i].1 ((xss.length + 1 : Nat) : Int)), .int .i64 (pickL ms[i].2 ((xss.length + 1 : Nat) : Int))] := hN90
      refine R.nil ⟨hU90.size, ?_⟩
      intro K37 hK37 hN37
      replace hk16 := hK37 _ hk16
      obtain ⟨p, hp⟩ : ∃ p, pickL ms[i].1 ((xss.length + 1 : Nat) : Int) = p := ⟨_, rfl⟩
      obtain ⟨q, hq⟩ : ∃ q, pickL ms[i].2 ((xss.length + 1 : Nat) : Int) = q := ⟨_, rfl⟩
      rw [hp, hq] at hB16
      refine G.nil ?_
      refine E.seq ?_
      rcases Decidable.em ((shiftL nw H p q).2 = 0) with hs | hs
      · have hXn := shiftL_ok hs
        obtain ⟨a, b, ha, hb, hla, rfl, rfl, hab, hbn, hnx⟩ := hXn
        have hxa := hV.right.x6 _ (List.getElem_mem ha)
        have hxb := hV.right.x6 _ (List.getElem_mem hb)
        have hlb : b < (shiftL nw H a b).1.length := by rw [shiftL_len]; exact hb
        have hrb : (shiftL nw H a b).1[b] = nw[b] ++ [nw[a][nw[a].length - 1]] := by simp only [hnx]; rw [List.getElem_set_ne hab, List.getElem_set_self]
        refine E.forget [(3, vm), (9, .pointer (some ⟨b9, 0, none⟩)), (10, .int .i64 (xss.length * H - xss.flatten.length : Nat)), (11, .int .i64 0), (12, .pointer (some ⟨b12, 0, none⟩)), (13, dv), (14, bv), (15, .int .i64 (i : Nat)), (16, .pointer (some ⟨b16, 0, none⟩))] ⟨rfl, rfl, rfl, rfl, rfl, rfl, rfl, rfl, rfl, trivial⟩ (fun e => ?_)
        refine E.regionP rfl ?_  -- region 13
        refine R.loadA t24 hB12 rfl rfl rfl trivial ?_  -- 76 := load 24 ('tmp', 12)
        refine R.loadA t30 hB16 rfl rfl rfl trivial ?_  -- 77 := load 30 ('tmp', 16)
        refine R.callE2 ent36 (yShiftM _ hN.mat hV.right.l6 hV.right.x6 (hV.right.shiftR_ok hs)) rfl rfl nofun ?_  -- 78 := call {'callee': ('value', ('func', 36)), 'args': [('tmp', 76), ('tmp', 77)], 'argTypes': [24, 30]}
        rintro v78 w38 hx38 ⟨u78, us78, rfl, hX78⟩
        replace hY := hY.ext hx38
        replace hN := hN.ext hx38
        replace hD := hD.ext hx38
        replace hK := hK.ext hx38
        replace hB9 := hB9.ext hx38
        replace hB12 := hB12.ext hx38
        replace hB16 := hB16.ext hx38
        replace hE := hE.ext hx38
        refine R.move ?_  -- 75 := move ('tmp', 78)
        refine R.extract rfl rfl ?_  -- 79 := extract ('tmp', 75) 0
        refine R.extract rfl rfl ?_  -- 80 := extract ('tmp', 75) 1
        refine R.alloc t24 nofun ?_  -- 17 := alloc 24
        intro b17 w39 hb17 hx39 hB17
        have ne9_17 : b9 ≠ b17 := by have := hB9.lt; omega
        have ne12_17 : b12 ≠ b17 := by have := hB12.lt; omega
        replace hb17 := Nat.le_trans hE.size hb17
        replace hY := hY.ext hx39
        replace hN := hN.ext hx39
        replace hD := hD.ext hx39
        replace hK := hK.ext hx39
        replace hX78 := hX78.ext hx39
        replace hB9 := hB9.ext hx39
        replace hB12 := hB12.ext hx39
        replace hB16 := hB16.ext hx39
        replace hE := hE.ext hx39
        replace hB17 : Blk _ b17 24 #[.slice none 0 0, .int .i64 0] := hB17
        refine R.storeA t24 hB17 rfl rfl rfl rfl (ones2 hX78.outer.one rfl) nofun ?_  -- None := store 24 ('tmp', 17) ('tmp', 79)
        intro w40 hU40 hs40 hN40
        replace hY := hY.upT hU40 hB17 (by decide)
        replace hN := hN.upT hU40 hB17 (by decide)
        replace hD := hD.upT hU40 hB17 (by decide)
        replace hK := hK.upT hU40 hB17 (by decide)
        replace hX78 := hX78.upT hU40 hB17 (by decide)
        replace hB9 := hB9.up hU40 (fun h => ne9_17 h)
        replace hB12 := hB12.up hU40 (fun h => ne12_17 h)
        replace hB16 := hB16.upT hU40 hB17 (by decide)
        replace hE := hE.own hU40 hb17
        replace hB17 : Blk _ b17 24 #[u78, .int .i64 H] := hN40
        clear hN40
        refine R.assign ?_  -- 18 := assign ('tmp', 80)
        refine R.nil ?_
        refine E.seq ?_
        refine E.seq ?_
        refine E.regionP rfl ?_  -- region 14
        refine R.move ?_  -- 81 := move ('tmp', 18)
        refine R.neq (b := false) rfl rfl (by simp) ?_  -- 82 := binOp ('neq',) 38 ('tmp', 81) ('const', ('int', ('i64',), 0)) 38
        refine R.nil ?_
        refine E.condF rfl ?_  -- cond t82
        refine E.skip ?_
        refine E.seq ?_
        refine E.forget [(3, vm), (9, .pointer (some ⟨b9, 0, none⟩)), (10, .int .i64 (xss.length * H - xss.flatten.length : Nat)), (11, .int .i64 0), (12, .pointer (some ⟨b12, 0, none⟩)), (13, dv), (14, bv), (15, .int .i64 (i : Nat)), (16, .pointer (some ⟨b16, 0, none⟩)), (17, .pointer (some ⟨b17, 0, none⟩))] ⟨rfl, rfl, rfl, rfl, rfl, rfl, rfl, rfl, rfl, rfl, trivial⟩ (fun e => ?_)
        refine E.regionW allS [] mixed rfl (by kernel_rfl) ?_  -- region 15
        intro w41 hx41 hh41
        replace hY := hY.ext hx41
        replace hN := hN.ext hx41
        replace hD := hD.ext hx41
        replace hK := hK.ext hx41
        replace hX78 := hX78.ext hx41
        replace hB9 := hB9.ext hx41
        replace hB12 := hB12.ext hx41
        replace hB16 := hB16.ext hx41
        replace hB17 := hB17.ext hx41
        replace hE := hE.ext hx41
        refine R.fld fa24_0 rfl ?_  -- 83 := fieldAddr 24 ('tmp', 12) 0
        refine R.loadB t22 hB12 rfl rfl rfl trivial ?_  -- 84 := load 22 ('tmp', 83)
        refine R.fld fa30_0 rfl ?_  -- 85 := fieldAddr 30 ('tmp', 16) 0
        refine R.loadB t3 hB16 rfl rfl rfl trivial ?_  -- 86 := load 3 ('tmp', 85)
        refine R.ix Try.underlying22 t35 (by decide) hN.outer.row rfl rfl ha ?_  -- 87 := indexAddr 22 ('tmp', 84) ('tmp', 86)
        obtain ⟨u88, hu88, hr88⟩ := hN.elems a ha  -- 88 := load 35 ('tmp', 87)
        refine R.ld t35 hN.outer.row rfl hu88 rfl (fun _ _ => trivial) ?_
        refine R.fld fa24_0 rfl ?_  -- 89 := fieldAddr 24 ('tmp', 17) 0
        refine R.loadB t22 hB17 rfl rfl rfl trivial ?_  -- 90 := load 22 ('tmp', 89)
        refine R.fld fa30_1 rfl ?_  -- 91 := fieldAddr 30 ('tmp', 16) 1
        refine R.loadB t3 hB16 rfl rfl rfl trivial ?_  -- 92 := load 3 ('tmp', 91)
        refine R.ix Try.underlying22 t35 (by decide) hX78.outer.row rfl rfl hlb ?_  -- 93 := indexAddr 22 ('tmp', 90) ('tmp', 92)
        obtain ⟨u94, hu94, hr94⟩ := hX78.elems b hlb  -- 94 := load 35 ('tmp', 93)
        rw [hrb] at hr94
        refine R.ld t35 hX78.outer.row rfl hu94 rfl (fun _ _ => trivial) ?_
        refine R.assign ?_  -- 19 := assign ('tmp', 88)
        refine R.assign ?_  -- 20 := assign ('tmp', 94)
        refine R.nil ?_
        refine E.seq ?_
        refine E.seq ?_
        refine E.forget [(3, vm), (9, .pointer (some ⟨b9, 0, none⟩)), (10, .int .i64 (xss.length * H - xss.flatten.length : Nat)), (11, .int .i64 0), (12, .pointer (some ⟨b12, 0, none⟩)), (13, dv), (14, bv), (15, .int .i64 (i : Nat)), (16, .pointer (some ⟨b16, 0, none⟩)), (17, .pointer (some ⟨b17, 0, none⟩)), (19, u88), (20, u94)] ⟨rfl, rfl, rfl, rfl, rfl, rfl, rfl, rfl, rfl, rfl, rfl, rfl, trivial⟩ (fun e => ?_)
        refine E.regionW allS [] mixed rfl (by kernel_rfl) ?_  -- region 16
        intro w42 hx42 hh42
        replace hY := hY.ext hx42
        replace hN := hN.ext hx42
        replace hD := hD.ext hx42
        replace hK := hK.ext hx42
        replace hX78 := hX78.ext hx42
        replace hr88 := hr88.ext hx42
        replace hr94 := hr94.ext hx42
        replace hB9 := hB9.ext hx42
        replace hB12 := hB12.ext hx42
        replace hB16 := hB16.ext hx42
        replace hB17 := hB17.ext hx42
        replace hE := hE.ext hx42
        refine R.move ?_  -- 95 := move ('tmp', 19)
        refine R.len Try.underlying35 hr88.row rfl ?_  -- 96 := call {'callee': ('builtin', ('len',)), 'args': [('tmp', 95)], 'argTypes': [35]}
        refine R.eql (b := false) rfl rfl (decide_eq_false (by omega)) ?_  -- 97 := binOp ('eql',) 3 ('tmp', 96) ('const', ('int', ('i64',), 0)) 3
        refine R.move ?_  -- 98 := move ('tmp', 97)
        refine R.gT rfl rfl ?_
        refine R.move ?_  -- 99 := move ('tmp', 20)
        refine R.gT rfl rfl ?_
        refine R.len Try.underlying35 hr94.row rfl ?_  -- 100 := call {'callee': ('builtin', ('len',)), 'args': [('tmp', 99)], 'argTypes': [35]}
        refine R.gT rfl rfl ?_
        refine R.eql (b := false) rfl rfl (by simp; omega) ?_  -- 101 := binOp ('eql',) 3 ('tmp', 100) ('const', ('int', ('i64',), 0)) 3
        refine R.pickF rfl ?_  -- 102 := pick ('tmp', 98) ('const', ('bool', ('true',))) ('tmp', 101)
        refine R.move ?_  -- 103 := move ('tmp', 102)
        refine R.gT rfl rfl ?_
        refine R.move ?_  -- 104 := move ('tmp', 20)
        refine R.gT rfl rfl ?_
        refine R.move ?_  -- 105 := move ('tmp', 20)
        refine R.gT rfl rfl ?_
        refine R.len Try.underlying35 hr94.row rfl ?_  -- 106 := call {'callee': ('builtin', ('len',)), 'args': [('tmp', 105)], 'argTypes': [35]}
        refine R.gT rfl rfl ?_
        refine R.subN (m := (nw[b] ++ [nw[a][nw[a].length - 1]]).length) (n := 1) rfl rfl (by simp) (by simp; omega) ?_  -- 107 := binOp ('sub',) 3 ('tmp', 106) ('const', ('int', ('i64',), 1)) 3
        refine R.gT rfl rfl ?_
        refine R.ix (m := (nw[b] ++ [nw[a][nw[a].length - 1]]).length - 1) Try.underlying35 t3 (by decide) hr94.row rfl rfl (by simp) ?_  -- 108 := indexAddr 35 ('tmp', 104) ('tmp', 107)
        refine R.gT rfl rfl ?_
        refine R.ld (u := .int .i64 nw[a][nw[a].length - 1]) (j := (nw[b] ++ [nw[a][nw[a].length - 1]]).length - 1) t3 hr94.row rfl (by simp [ints]) rfl (fun _ _ => trivial) ?_  -- 109 := load 3 ('tmp', 108)
        refine R.gT rfl rfl ?_
        refine R.move ?_  -- 110 := move ('tmp', 19)
        refine R.gT rfl rfl ?_
        refine R.move ?_  -- 111 := move ('tmp', 19)
        refine R.gT rfl rfl ?_
        refine R.len Try.underlying35 hr88.row rfl ?_  -- 112 := call {'callee': ('builtin', ('len',)), 'args': [('tmp', 111)], 'argTypes': [35]}
        refine R.gT rfl rfl ?_
        refine R.subN (m := nw[a].length) (n := 1) rfl rfl (by omega) (by omega) ?_  -- 113 := binOp ('sub',) 3 ('tmp', 112) ('const', ('int', ('i64',), 1)) 3
        refine R.gT rfl rfl ?_
        refine R.ix (m := nw[a].length - 1) Try.underlying35 t3 (by decide) hr88.row rfl rfl (by omega) ?_  -- 114 := indexAddr 35 ('tmp', 110) ('tmp', 113)
        refine R.gT rfl rfl ?_
        refine R.ld (j := nw[a].length - 1) t3 hr88.row rfl (int_at (by omega)) rfl (fun _ _ => trivial) ?_  -- 115 := load 3 ('tmp', 114)
        refine R.gT rfl rfl ?_
        refine R.neq (b := false) rfl rfl (by simp) ?_  -- 116 := binOp ('neq',) 3 ('tmp', 109) ('tmp', 115) 3
        refine R.pickF rfl ?_  -- 117 := pick ('tmp', 103) ('const', ('bool', ('true',))) ('tmp', 116)
        refine R.nil ?_
        refine E.condF rfl ?_  -- cond t117
        refine E.skip ?_
        refine E.seq ?_
        refine E.forget [(3, vm), (9, .pointer (some ⟨b9, 0, none⟩)), (10, .int .i64 (xss.length * H - xss.flatten.length : Nat)), (11, .int .i64 0), (12, .pointer (some ⟨b12, 0, none⟩)), (13, dv), (14, bv), (15, .int .i64 (i : Nat)), (16, .pointer (some ⟨b16, 0, none⟩)), (17, .pointer (some ⟨b17, 0, none⟩))] ⟨rfl, rfl, rfl, rfl, rfl, rfl, rfl, rfl, rfl, rfl, trivial⟩ (fun e => ?_)
        have hW0 := hE.size
        refine E.regionF (fun c x => x < w42.heap.size ∧ (c = false → vblk dv ≠ some x)) [] [] mixed rfl (by kernel_rfl) (fun _ _ h => h.1) ?_  -- region 18
        intro w43 hx43 hh43
        replace hY := hY.ext hx43
        replace hN := hN.ext hx43
        replace hD := hD.ext hx43
        replace hK := hK.ext hx43
        replace hX78 := hX78.ext hx43
        replace hr88 := hr88.ext hx43
        replace hr94 := hr94.ext hx43
        replace hB9 := hB9.ext hx43
        replace hB12 := hB12.ext hx43
        replace hB16 := hB16.ext hx43
        replace hB17 := hB17.ext hx43
        replace hE := hE.ext hx43
        have hEs : Ext w43 w43 := Upd.refl _
        have hS0 := hx43.size
        have hSB : ∀ b, b < w43.heap.size → b < w42.heap.size ∧ (true = false → (fun x => vblk dv ≠ some x) b) := fun b hb => ⟨by rw [hh43] at hb; exact hb, nofun⟩
        have hSA : ∀ b, b < w43.heap.size → (fun x => vblk dv ≠ some x) b → b < w42.heap.size ∧ (false = false → (fun x => vblk dv ≠ some x) b) := fun b hb h => ⟨by rw [hh43] at hb; exact hb, fun _ => h⟩
        have hSO : ∀ b, b < w.heap.size → b < w42.heap.size ∧ (false = false → (fun x => vblk dv ≠ some x) b) := fun b hb => hSA b (Nat.lt_of_lt_of_le hb hE.size) (fun e => by have := hfd b e; omega)
        have hYs := hY
        have hNs := hN
        have hDs := hD
        have hKs := hK
        have hX78s := hX78
        have hr88s := hr88
        have hr94s := hr94
        have hB9s := hB9
        have hB12s := hB12
        have hB16s := hB16
        have hB17s := hB17
        refine G.q rfl (Nat.le_of_ble_eq_true rfl) ?_
        refine R.move ?_  -- 118 := move ('tmp', 13)
        refine R.nil ?_
        refine G.q rfl (Nat.le_of_ble_eq_true rfl) ?_
        refine R.loadA t30 hB16 rfl rfl rfl (hSA b16 hB16s.lt (fun e => hne16 e)) ?_  -- 119 := load 30 ('tmp', 16)
        refine R.nil ?_
        refine G.buildSlice [.agg #[.int .i64 (a : Nat), .int .i64 (b : Nat)]] Try.underlying48 t30 rfl rfl (by simp [Value.cells]) (by simp) ?_  -- 120 := buildSlice 48 1 [('tup', 0, ('tmp', 119))]
        intro w44 b120 K44 hx44 hb120 hn120 hK44 hk120 hS120
        have hn0120 := hb120
        replace hb120 := Nat.le_trans hW0 hb120
        replace hY := hY.ext hx44
        replace hN := hN.ext hx44
        replace hD := hD.ext hx44
        replace hK := hK.ext hx44
        replace hX78 := hX78.ext hx44
        replace hB9 := hB9.ext hx44
        replace hB12 := hB12.ext hx44
        replace hB16 := hB16.ext hx44
        replace hB17 := hB17.ext hx44
        replace hE := hE.ext hx44
        replace hEs := hEs.ext hx44
        refine G.l rfl rfl (.inr rfl) (Nat.le_of_ble_eq_true rfl) ?_
        intro w45 hx45
        replace hY := hY.ext hx45
        replace hN := hN.ext hx45
        replace hD := hD.ext hx45
        replace hK := hK.ext hx45
        replace hX78 := hX78.ext hx45
        replace hS120 := hS120.ext hx45
        replace hB9 := hB9.ext hx45
        replace hB12 := hB12.ext hx45
        replace hB16 := hB16.ext hx45
        replace hB17 := hB17.ext hx45
        replace hE := hE.ext hx45
        replace hEs := hEs.ext hx45
        have hz121 := Nat.le_trans hS0 hEs.size  -- 121 := call {'callee': ('builtin', ('append',)), 'args': [('tmp', 118), ('tmp', 120)], 'argTypes': [48, 48]}
        have hDl : ∀ x, vblk dv = some x → x < w42.heap.size := fun x e => by have h1 := hDs.blk_lt e; rw [hh43] at h1; exact h1
        refine R.append (m := 1) Try.underlying48 Try.underlying48 t30 (by decide) rfl hD hS120.row (by simp [cellsOf, Value.cells, Value.oneCell']) rfl rfl (by omega) (by omega) (fun _ b hb => ⟨G.S1_lt (fun _ _ h => h.1) (Nat.le_trans hS0 hEs.size) hb, fun e => G.S1_old (hDl b e) (fun h => h.2 rfl e) hb⟩) ?_
        intro v121 w121 hU121 hS121 hd121
        have hf121 := Fresh.app' hE.size hfd hd121
        replace hY := hY.upS hU121 hD (by decide)
        replace hN := hN.upS hU121 hD (by decide)
        replace hX78 := hX78.upS hU121 hD (by decide)
        replace hK := hK.up hU121 (fun b e h => hsep b h e)
        replace hB9 := hB9.upS hU121 hD (by decide)
        replace hB12 := hB12.upS hU121 hD (by decide)
        replace hB17 := hB17.upS hU121 hD (by decide)
        replace hB16 := hB16.up hU121 (fun e => hne16 e)
        replace hE := hE.app hU121 hfd
        replace hD : Sl w121 30 2 v121 (ds ++ [((a : Int), (b : Int))]).length (movesC (ds ++ [((a : Int), (b : Int))])) := by
          rw [movesC_snoc, List.length_append]
          simpa [cellsOf, Value.cells] using hS121
        have hG121 : Grow w42 w121 := ⟨Nat.le_trans hz121 hU121.size⟩
        clear hS120 hS121
        refine R.nil ⟨hU121.size, ?_⟩
        intro K45 hK45 hN45
        replace hk120 := hK45 _ hk120
        have hv121 : ∀ b, vblk v121 = some b → w42.heap.size ≤ b → K45 b := fun x e h0 => by
          rcases hd121 with ⟨h1, _⟩ | ⟨b', h1, h2, _⟩
          · rw [h1] at e; have := hDl x e; omega
          · rw [h1] at e; simp at e; subst e; exact hN45 _ h2 (hD.blk_lt h1)
        refine G.q rfl (Nat.le_of_ble_eq_true rfl) ?_
        refine R.fld fa30_1 rfl ?_  -- 122 := fieldAddr 30 ('tmp', 16) 1
        refine R.nil ?_
        refine G.q rfl (Nat.le_of_ble_eq_true rfl) ?_
        refine R.loadB t3 hB16 rfl rfl rfl (hSA b16 hB16s.lt (fun e => hne16 e)) ?_  -- 123 := load 3 ('tmp', 122)
        refine R.nil ?_
        refine G.q rfl (Nat.le_of_ble_eq_true rfl) ?_
        refine R.fld fa30_0 rfl ?_  -- 124 := fieldAddr 30 ('tmp', 16) 0
        refine R.nil ?_
        refine G.q rfl (Nat.le_of_ble_eq_true rfl) ?_
        refine R.loadB t3 hB16 rfl rfl rfl (hSA b16 hB16s.lt (fun e => hne16 e)) ?_  -- 125 := load 3 ('tmp', 124)
        refine R.nil ?_
        refine G.q rfl (Nat.le_of_ble_eq_true rfl) ?_
        refine R.build build30 rfl ?_  -- 126 := build 30 [('tup', 0, ('tmp', 123)), ('tup', 1, ('tmp', 125))]
        refine R.nil ?_
        refine G.buildSlice [.agg #[.int .i64 (b : Nat), .int .i64 (a : Nat)]] Try.underlying48 t30 rfl rfl (by simp [Value.cells]) (by simp) ?_  -- 127 := buildSlice 48 1 [('tup', 0, ('tmp', 126))]
        intro w46 b127 K46 hx46 hb127 hn127 hK46 hk127 hS127
        replace hk120 := hK46 _ hk120
        have hn0127 := hb127
        replace hb127 := Nat.le_trans hW0 hb127
        replace hY := hY.ext hx46
        replace hN := hN.ext hx46
        replace hD := hD.ext hx46
        replace hK := hK.ext hx46
        replace hX78 := hX78.ext hx46
        replace hG121 := hG121.ext hx46
        replace hB9 := hB9.ext hx46
        replace hB12 := hB12.ext hx46
        replace hB16 := hB16.ext hx46
        replace hB17 := hB17.ext hx46
        replace hE := hE.ext hx46
        refine G.q rfl (Nat.le_of_ble_eq_true rfl) ?_
        refine R.move ?_  -- 128 := move ('tmp', 14)
        refine R.nil ?_
        refine G.l rfl rfl (.inr rfl) (Nat.le_of_ble_eq_true rfl) ?_
        intro w47 hx47
        replace hY := hY.ext hx47
        replace hN := hN.ext hx47
        replace hD := hD.ext hx47
        replace hK := hK.ext hx47
        replace hX78 := hX78.ext hx47
        replace hG121 := hG121.ext hx47
        replace hS127 := hS127.ext hx47
        replace hB9 := hB9.ext hx47
        replace hB12 := hB12.ext hx47
        replace hB16 := hB16.ext hx47
        replace hB17 := hB17.ext hx47
        replace hE := hE.ext hx47
        have hne121 : ∀ x, vblk v121 = some x → x ≠ b127 := fun x e h => by subst h; exact hn127 (hv121 _ e hn0127)  -- 129 := call {'callee': ('builtin', ('append',)), 'args': [('tmp', 127), ('tmp', 128)], 'argTypes': [48, 48]}
        refine R.append (m := bs.length) Try.underlying48 Try.underlying48 t30 (by decide) rfl hS127 hK.row moves_one rfl rfl (by simp; omega) (by simp; omega) (fun _ b hb => ⟨G.S1_lt (fun _ _ h => h.1) hG121.le hb, fun e => by simp [vblk] at e; subst e; exact G.S1_new (fun _ _ h => h.1) hn0127 hk127 hb⟩) ?_
        intro v129 w129 hU129 hS129 hd129
        have hf129 : Fresh w v129 := Fresh.app' hE.size (fun x e => by simp [vblk] at e; subst e; exact hb127) hd129
        have hsep' : ∀ x, vblk v121 = some x → vblk v129 ≠ some x := fun x e e2 => by
          rcases hd129 with ⟨h1, _⟩ | ⟨b', h1, h2, _⟩
          · rw [h1] at e2; simp [vblk] at e2; exact hne121 x e e2.symm
          · rw [h1] at e2; simp at e2; subst e2; have := hD.blk_lt e; omega
        replace hY := hY.upS hU129 hS127 (by decide)
        replace hN := hN.upS hU129 hS127 (by decide)
        replace hX78 := hX78.upS hU129 hS127 (by decide)
        replace hD := hD.up hU129 (fun x e h => by simp [vblk] at h; exact hne121 x e h.symm)
        replace hB9 := hB9.upS hU129 hS127 (by decide)
        replace hB12 := hB12.upS hU129 hS127 (by decide)
        replace hB17 := hB17.upS hU129 hS127 (by decide)
        replace hB16 := hB16.up hU129 (fun h => by simp [vblk] at h; have h1 := hB16s.lt; rw [hh43] at h1; omega)
        replace hE := hE.trans hU129 (fun x hx h => by simp [vblk] at h; omega)
        replace hK : Sl w129 30 2 v129 (((b : Int), (a : Int)) :: bs).length (movesC (((b : Int), (a : Int)) :: bs)) := by
          rw [movesC_cons, List.length_cons, Nat.add_comm]
          simpa [cellsOf, Value.cells] using hS129
        clear hS127 hS129
        refine R.nil ⟨hU129.size, ?_⟩
        intro K47 hK47 hN47
        replace hk120 := hK47 _ hk120
        replace hk127 := hK47 _ hk127
        refine G.q rfl (Nat.le_of_ble_eq_true rfl) ?_
        refine R.assign ?_  -- 13 := assign ('tmp', 121)
        refine R.nil ?_
        refine G.q rfl (Nat.le_of_ble_eq_true rfl) ?_
        refine R.assign ?_  -- 14 := assign ('tmp', 129)
        refine R.nil ?_
        refine G.nil ?_
        refine E.regionP rfl ?_  -- region 19
        refine R.loadA t24 hB17 rfl rfl rfl trivial ?_  -- 130 := load 24 ('tmp', 17)
        refine R.storeA t24 hB12 rfl rfl rfl rfl (ones2 hX78.outer.one rfl) nofun ?_  -- None := store 24 ('tmp', 12) ('tmp', 130)
        intro w48 hU48 hs48 hN48
        replace hY := hY.upT hU48 hB12 (by decide)
        replace hN := hN.upT hU48 hB12 (by decide)
        replace hD := hD.upT hU48 hB12 (by decide)
        replace hK := hK.upT hU48 hB12 (by decide)
        replace hX78 := hX78.upT hU48 hB12 (by decide)
        replace hB9 := hB9.up hU48 (fun h => ne9_12 h)
        replace hB16 := hB16.upT hU48 hB12 (by decide)
        replace hB17 := hB17.up hU48 (fun h => ne12_17 h.symm)
        replace hE := hE.own hU48 hb12
        replace hB12 : Blk _ b12 24 #[u78, .int .i64 H] := hN48
        clear hN48
        refine R.nil ?_
        refine E.regionP rfl ?_  -- region 11
        refine R.move ?_  -- 52 := move ('tmp', 15)
        refine R.addN (n := 1) rfl rfl (by omega) ?_  -- 53 := binOp ('add',) 3 ('tmp', 52) ('const', ('int', ('i64',), 1)) 3
        refine R.assign ?_  -- 15 := assign ('tmp', 53)
        refine R.nil ?_
        exact ⟨60 - (i + 1), by omega, i + 1, _, _, _, _, _, _, _, rfl, by omega, by omega, by simp; omega, hV.step (m := ((a : Int), (b : Int))) hs, hE, hY, hX78, hD, hK, hf121, hf129, hsep', hB9, hB12, rfl, rfl, rfl, rfl, rfl, rfl, rfl, rfl, trivial⟩  -- round end 0 path 20
      · refine E.forget [(3, vm), (9, .pointer (some ⟨b9, 0, none⟩)), (10, .int .i64 (xss.length * H - xss.flatten.length : Nat)), (11, .int .i64 0), (12, .pointer (some ⟨b12, 0, none⟩)), (13, dv), (14, bv), (15, .int .i64 (i : Nat)), (16, .pointer (some ⟨b16, 0, none⟩))] ⟨rfl, rfl, rfl, rfl, rfl, rfl, rfl, rfl, rfl, trivial⟩ (fun e => ?_)
        refine E.regionP rfl ?_  -- region 13
        refine R.loadA t24 hB12 rfl rfl rfl trivial ?_  -- 76 := load 24 ('tmp', 12)
        refine R.loadA t30 hB16 rfl rfl rfl trivial ?_  -- 77 := load 30 ('tmp', 16)
        refine R.callE2 ent36 (yShiftM _ hN.mat hV.right.l6 hV.right.x6 (hV.right.shiftR_no hs)) rfl rfl nofun ?_  -- 78 := call {'callee': ('value', ('func', 36)), 'args': [('tmp', 76), ('tmp', 77)], 'argTypes': [24, 30]}
        rintro v78 w49 hx49 ⟨u78, us78, rfl, hX78⟩
        replace hY := hY.ext hx49
        replace hN := hN.ext hx49
        replace hD := hD.ext hx49
        replace hK := hK.ext hx49
        replace hB9 := hB9.ext hx49
        replace hB12 := hB12.ext hx49
        replace hB16 := hB16.ext hx49
        replace hE := hE.ext hx49
        refine R.move ?_  -- 75 := move ('tmp', 78)
        refine R.extract rfl rfl ?_  -- 79 := extract ('tmp', 75) 0
        refine R.extract rfl rfl ?_  -- 80 := extract ('tmp', 75) 1
        refine R.alloc t24 nofun ?_  -- 17 := alloc 24
        intro b17 w50 hb17 hx50 hB17
        have ne9_17 : b9 ≠ b17 := by have := hB9.lt; omega
        have ne12_17 : b12 ≠ b17 := by have := hB12.lt; omega
        replace hb17 := Nat.le_trans hE.size hb17
        replace hY := hY.ext hx50
        replace hN := hN.ext hx50
        replace hD := hD.ext hx50
        replace hK := hK.ext hx50
        replace hX78 := hX78.ext hx50
        replace hB9 := hB9.ext hx50
        replace hB12 := hB12.ext hx50
        replace hB16 := hB16.ext hx50
        replace hE := hE.ext hx50
        replace hB17 : Blk _ b17 24 #[.slice none 0 0, .int .i64 0] := hB17
        refine R.storeA t24 hB17 rfl rfl rfl rfl (ones2 hX78.outer.one rfl) nofun ?_  -- None := store 24 ('tmp', 17) ('tmp', 79)
        intro w51 hU51 hs51 hN51
        replace hY := hY.upT hU51 hB17 (by decide)
        replace hN := hN.upT hU51 hB17 (by decide)
        replace hD := hD.upT hU51 hB17 (by decide)
        replace hK := hK.upT hU51 hB17 (by decide)
        replace hX78 := hX78.upT hU51 hB17 (by decide)
        replace hB9 := hB9.up hU51 (fun h => ne9_17 h)
        replace hB12 := hB12.up hU51 (fun h => ne12_17 h)
        replace hB16 := hB16.upT hU51 hB17 (by decide)
        replace hE := hE.own hU51 hb17
        replace hB17 : Blk _ b17 24 #[u78, .int .i64 0] := hN51
        clear hN51
        refine R.assign ?_  -- 18 := assign ('tmp', 80)
        refine R.nil ?_
        refine E.seq ?_
        refine E.seq ?_
        refine E.regionP rfl ?_  -- region 14
        refine R.move ?_  -- 81 := move ('tmp', 18)
        refine R.neq (b := true) rfl rfl (by simpa using hs) ?_  -- 82 := binOp ('neq',) 38 ('tmp', 81) ('const', ('int', ('i64',), 0)) 38
        refine R.nil ?_
        refine E.condT rfl ?_  -- cond t82
        refine E.exit ?_  -- exit 1
        refine E.regionP rfl ?_  -- region 11
        refine R.move ?_  -- 52 := move ('tmp', 15)
        refine R.addN (n := 1) rfl rfl (by omega) ?_  -- 53 := binOp ('add',) 3 ('tmp', 52) ('const', ('int', ('i64',), 1)) 3
        refine R.assign ?_  -- 15 := assign ('tmp', 53)
        refine R.nil ?_
        exact ⟨60 - (i + 1), by omega, i + 1, _, _, _, _, _, _, _, rfl, by omega, by omega, by omega, hV, hE, hY, hN, hD, hK, hfd, hfb, hsep, hB9, hB12, rfl, rfl, rfl, rfl, rfl, rfl, rfl, rfl, trivial⟩  -- round end 1 path 21

end Go.Proofs.Ytfdmndkoiheebaa
