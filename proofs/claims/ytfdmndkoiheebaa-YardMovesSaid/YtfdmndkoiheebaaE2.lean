/- YardFinds -/
import Derived.Test.YtfdmndkoiheebaaYard2
namespace Go.Proofs.Ytfdmndkoiheebaa
open Go Go.RowKit


theorem madeE (w : World) {vl : Value} {st ht n0 H : Nat} {ls : List Nat} (hl : U8s w vl ls) (hll : ls.length ≤ 9223372036854775807) (hls : ∀ x ∈ ls, x < 256) (hn : 1 + st % 6 = n0) (hH : 1 + ht % 6 = H) :
    Calls Try.prog 22 #[.int .u8 st, .int .u8 ht, vl] w (Ret fun r w' => Ext w w' ∧ ∃ v us xss, r = .agg #[v, .int .i64 H] ∧ MS w w' v us xss ∧ MadeP xss n0 H (min ls.length 20)) := by
  subst hn hH; exact made w hl hll hls
theorem YO.nil_row {w w' : World} {v : Value} {h : Int} (y : YO w w' v h []) : Row w' 1 v 0 [] := by
  obtain ⟨us, hm⟩ := y.mat
  have := hm.len
  obtain rfl : us = [] := List.eq_nil_of_length_eq_zero (by simpa using this)
  exact hm.row

set_option maxHeartbeats 3200000 in
theorem yardFinds (w : World) {vl : Value} {st ht : Nat} {s : Int} {ls : List Nat} (hl : U8s w vl ls) (hll : ls.length ≤ 9223372036854775807) (hls : ∀ x ∈ ls, x < 256) :
    Calls Try.prog 5 #[.int .u8 st, .int .u8 ht, vl, .int .i64 s] w (Ret fun r w' => Ext w w' ∧ r = .bool true) := by
  have hn1 : 1 + st % 6 ≤ 6 := by omega
  have hH1 : 1 + ht % 6 ≤ 6 := by omega
  obtain ⟨H, hHd⟩ : ∃ H, 1 + ht % 6 = H := ⟨_, rfl⟩
  obtain ⟨n0, hnd⟩ : ∃ n, 1 + st % 6 = n := ⟨_, rfl⟩
  rw [hHd] at hH1
  rw [hnd] at hn1
  refine calls_E (args := [.int .u8 st, .int .u8 ht, vl, .int .i64 s]) 271 Try.func5 rfl rfl (by simp) ?_
  have hE : Ext w w := Upd.refl w
  refine E.seq ?_
  refine E.regionP rfl ?_  -- region 0
  refine R.assign ?_  -- 8 := assign ('const', ('bool', ('false',)))
  refine R.nil ?_
  refine E.seq ?_
  refine E.seq ?_
  refine E.regionP rfl ?_  -- region 1
  refine R.callE0 ent19 (awake _)  nofun ?_  -- 38 := call {'callee': ('value', ('func', 19)), 'args': [], 'argTypes': []}
  rintro v38 w1 hx1 rfl
  replace hE := hE.ext hx1
  refine R.not rfl ?_  -- 39 := unOp ('not',) 4 ('tmp', 38)
  refine R.nil ?_
  refine E.condF rfl ?_  -- cond t39
  refine E.skip ?_
  refine E.seq ?_
  refine E.regionP rfl ?_  -- region 3
  refine R.move ?_  -- 40 := move ('tmp', 0)
  refine R.move ?_  -- 41 := move ('tmp', 1)
  refine R.move ?_  -- 42 := move ('tmp', 2)
  refine R.callE3 ent22 (madeE _ (hl.ext hE) hll hls hnd hHd) rfl rfl rfl nofun ?_  -- 43 := call {'callee': ('value', ('func', 22)), 'args': [('tmp', 40), ('tmp', 41), ('tmp', 42)], 'argTypes': [5, 5, 33]}
  rintro v43 w2 hx2 ⟨u43, us43, xss, rfl, hM43, hP43⟩
  replace hE := hE.ext hx2
  have hE0 := hE
  clear hE
  obtain ⟨wb, hwb⟩ : ∃ x, x = w2 := ⟨_, rfl⟩
  subst hwb
  have hE : Ext wb wb := Upd.refl _
  have hm := hM43.mat
  have hR : RightP xss (H : Int) := hP43.right (by omega) (by omega) (by omega) (by omega) (by omega)
  have hRb := hR.b
  have hlen := hP43.len
  refine R.alloc t24 nofun ?_  -- 9 := alloc 24
  intro b9 w3 hb9 hx3 hB9
  replace hb9 := Nat.le_trans hE.size hb9
  replace hE := hE.ext hx3
  replace hB9 : Blk _ b9 24 #[.slice none 0 0, .int .i64 0] := hB9
  refine R.storeA t24 hB9 rfl rfl rfl rfl (ones2 hm.row.one rfl) nofun ?_  -- None := store 24 ('tmp', 9) ('tmp', 43)
  intro w4 hU4 hs4 hN4
  replace hE := hE.own hU4 hb9
  replace hB9 : Blk _ b9 24 #[u43, .int .i64 H] := hN4
  clear hN4
  refine R.nil ?_
  refine E.seq ?_
  refine E.regionP rfl ?_  -- region 4
  refine R.assign ?_  -- 10 := assign ('const', ('int', ('i64',), 0))
  refine R.nil ?_
  refine E.seq ?_
  refine E.seq ?_
  refine E.regionP rfl ?_  -- region 5
  refine R.fld fa24_0 rfl ?_  -- 44 := fieldAddr 24 ('tmp', 9) 0
  refine R.loadB t22 hB9 rfl rfl rfl trivial ?_  -- 45 := load 22 ('tmp', 44)
  refine R.len Try.underlying22 hm.row rfl ?_  -- 46 := call {'callee': ('builtin', ('len',)), 'args': [('tmp', 45)], 'argTypes': [22]}
  refine R.move ?_  -- 47 := move ('const', ('int', ('i64',), 0))
  refine R.nil ?_
  refine E.block ?_  -- block 0
  refine E.loop (fun n e wr => ∃ (i : Nat), n = xss.length - i ∧ i ≤ xss.length ∧ Ext wb wr ∧ Blk wr b9 24 #[u43, .int .i64 H] ∧ Has e [(3, .int .i64 s), (9, .pointer (some ⟨b9, 0, none⟩)), (45, u43), (46, .int .i64 xss.length), (47, .int .i64 i), (10, .int .i64 ((xss.take i).flatten.length : Nat))]) (xss.length) ?_ ?_
  · exact ⟨0, rfl, Nat.zero_le _, hE, hB9, rfl, rfl, rfl, rfl, rfl, rfl, trivial⟩
  · rintro n e wr ⟨i, rfl, hi, hE, hB9, hH⟩
    obtain ⟨e, rfl⟩ := hH.ex
    clear hH
    have hft := flatten_take_le (xss := xss) (i := i)
    have hfc := hR.count
    have hnH := Nat.mul_le_mul (show xss.length ≤ 6 by omega) hH1
    refine E.seq ?_
    refine E.regionP rfl ?_  -- region 6
    refine R.lss rfl rfl rfl ?_  -- 48 := binOp ('lss',) 3 ('tmp', 47) ('tmp', 46) 3
    refine R.nil ?_
    refine E.seq ?_
    refine E.cond rfl (fun hc48 => ?_) (fun hc48 => ?_)  -- cond t48
    · replace hc48 := dT hc48
      have hi1 : i < xss.length := by omega
      have hxi := hR.x6 _ (List.getElem_mem hi1)
      refine E.skip ?_
      refine E.seq ?_
      refine E.block ?_  -- block 1
      refine E.seq ?_
      refine E.regionP rfl ?_  -- region 7
      refine R.move ?_  -- 49 := move ('tmp', 47)
      refine R.ix Try.underlying22 t35 (by decide) hm.row rfl rfl (by omega) ?_  -- 50 := indexAddr 22 ('tmp', 45) ('tmp', 47)
      obtain ⟨u51, hu51, hr51⟩ := hm.get i (by omega)
      refine R.ld t35 (hm.row.ext hE) rfl hu51 rfl (fun _ _ => trivial) ?_  -- 51 := load 35 ('tmp', 50)
      refine R.assign ?_  -- 11 := assign ('tmp', 49)
      refine R.assign ?_  -- 12 := assign ('tmp', 51)
      refine R.nil ?_
      refine E.seq ?_
      refine E.regionP rfl ?_  -- region 8
      refine R.move ?_  -- 52 := move ('tmp', 12)
      refine R.len Try.underlying35 hr51 rfl ?_  -- 53 := call {'callee': ('builtin', ('len',)), 'args': [('tmp', 52)], 'argTypes': [35]}
      refine R.move ?_  -- 54 := move ('const', ('int', ('i64',), 0))
      refine R.nil ?_
      refine E.block ?_  -- block 2
      refine E.loop (fun n e wr => ∃ (k : Nat), n = xss[i].length - k ∧ k ≤ xss[i].length ∧ Ext wb wr ∧ Blk wr b9 24 #[u43, .int .i64 H] ∧ Has e [(3, .int .i64 s), (9, .pointer (some ⟨b9, 0, none⟩)), (45, u43), (46, .int .i64 xss.length), (11, .int .i64 i), (12, u51), (47, .int .i64 i), (52, u51), (53, .int .i64 xss[i].length), (54, .int .i64 k), (10, .int .i64 ((xss.take i).flatten.length + k : Nat))]) (xss[i].length) ?_ ?_
      · exact ⟨0, rfl, Nat.zero_le _, hE, hB9, rfl, rfl, rfl, rfl, rfl, rfl, rfl, rfl, rfl, rfl, rfl, trivial⟩
      · rintro n e wr ⟨k, rfl, hk, hE, hB9, hH⟩
        obtain ⟨e, rfl⟩ := hH.ex
        clear hH
        refine E.seq ?_
        refine E.regionP rfl ?_  -- region 9
        refine R.lss rfl rfl rfl ?_  -- 55 := binOp ('lss',) 3 ('tmp', 54) ('tmp', 53) 3
        refine R.nil ?_
        refine E.seq ?_
        refine E.cond rfl (fun hc55 => ?_) (fun hc55 => ?_)  -- cond t55
        · replace hc55 := dT hc55
          have hki : k < xss[i].length := by omega
          have hfi := hR.findV hi1 hki
          have hab := hR.above hi1 hki
          refine E.skip ?_
          refine E.seq ?_
          refine E.block ?_  -- block 3
          refine E.seq ?_
          refine E.regionP rfl ?_  -- region 10
          refine R.move ?_  -- 56 := move ('tmp', 54)
          refine R.ix Try.underlying35 t3 (by decide) hr51 rfl rfl (by omega) ?_  -- 57 := indexAddr 35 ('tmp', 52) ('tmp', 54)
          refine R.ld t3 (hr51.ext hE) rfl (int_at (by omega)) rfl (fun _ _ => trivial) ?_  -- 58 := load 3 ('tmp', 57)
          refine R.assign ?_  -- 13 := assign ('tmp', 56)
          refine R.assign ?_  -- 14 := assign ('tmp', 58)
          refine R.nil ?_
          refine E.seq ?_
          refine E.regionP rfl ?_  -- region 11
          refine R.move ?_  -- 59 := move ('tmp', 10)
          refine R.addN (m := (xss.take i).flatten.length + k) (n := 1) rfl rfl (by omega) ?_  -- 60 := binOp ('add',) 3 ('tmp', 59) ('const', ('int', ('i64',), 1)) 3
          refine R.assign ?_  -- 10 := assign ('tmp', 60)
          refine R.nil ?_
          refine E.seq ?_
          refine E.regionP rfl ?_  -- region 12
          refine R.loadA t24 hB9 rfl rfl rfl trivial ?_  -- 62 := load 24 ('tmp', 9)
          refine R.move ?_  -- 63 := move ('tmp', 14)
          refine R.callE2 ent23 (findE _ ⟨_, hm.ext hE⟩ hR.l6 hR.x6 hfi) rfl rfl nofun ?_  -- 64 := call {'callee': ('value', ('func', 23)), 'args': [('tmp', 62), ('tmp', 63)], 'argTypes': [24, 3]}
          rintro v64 w5 hx5 rfl
          replace hB9 := hB9.ext hx5
          replace hE := hE.ext hx5
          refine R.move ?_  -- 61 := move ('tmp', 64)
          refine R.extract rfl rfl ?_  -- 65 := extract ('tmp', 61) 0
          refine R.extract rfl rfl ?_  -- 66 := extract ('tmp', 61) 1
          refine R.extract rfl rfl ?_  -- 67 := extract ('tmp', 61) 2
          refine R.assign ?_  -- 15 := assign ('tmp', 65)
          refine R.assign ?_  -- 16 := assign ('tmp', 66)
          refine R.assign ?_  -- 17 := assign ('tmp', 67)
          refine R.nil ?_
          refine E.seq ?_
          refine E.regionP rfl ?_  -- region 13
          refine R.loadA t24 hB9 rfl rfl rfl trivial ?_  -- 69 := load 24 ('tmp', 9)
          refine R.move ?_  -- 70 := move ('tmp', 14)
          refine R.callE2 ent24 (aboveP _ ⟨_, hm.ext hE⟩ hR.l6 hR.x6 hab) rfl rfl nofun ?_  -- 71 := call {'callee': ('value', ('func', 24)), 'args': [('tmp', 69), ('tmp', 70)], 'argTypes': [24, 3]}
          rintro v71 w6 hx6 ⟨u71, rfl, hS71, hf71⟩
          replace hB9 := hB9.ext hx6
          replace hE := hE.ext hx6
          refine R.move ?_  -- 68 := move ('tmp', 71)
          refine R.extract rfl rfl ?_  -- 72 := extract ('tmp', 68) 0
          refine R.extract rfl rfl ?_  -- 73 := extract ('tmp', 68) 1
          refine R.assign ?_  -- 18 := assign ('tmp', 72)
          refine R.assign ?_  -- 19 := assign ('tmp', 73)
          refine R.nil ?_
          refine E.seq ?_
          refine E.seq ?_
          refine E.regionP rfl ?_  -- region 14
          refine R.move ?_  -- 74 := move ('tmp', 15)
          refine R.move ?_  -- 75 := move ('tmp', 11)
          refine R.neq (b := false) rfl rfl (by simp) ?_  -- 76 := binOp ('neq',) 3 ('tmp', 74) ('tmp', 75) 3
          refine R.move ?_  -- 77 := move ('tmp', 76)
          refine R.gT rfl rfl ?_
          refine R.move ?_  -- 78 := move ('tmp', 16)
          refine R.gT rfl rfl ?_
          refine R.move ?_  -- 79 := move ('tmp', 13)
          refine R.gT rfl rfl ?_
          refine R.neq (b := false) rfl rfl (by simp) ?_  -- 80 := binOp ('neq',) 3 ('tmp', 78) ('tmp', 79) 3
          refine R.pickF rfl ?_  -- 81 := pick ('tmp', 77) ('const', ('bool', ('true',))) ('tmp', 80)
          refine R.move ?_  -- 82 := move ('tmp', 81)
          refine R.gT rfl rfl ?_
          refine R.move ?_  -- 83 := move ('tmp', 17)
          refine R.gT rfl rfl ?_
          refine R.not rfl ?_  -- 84 := unOp ('not',) 4 ('tmp', 83)
          refine R.pickF rfl ?_  -- 85 := pick ('tmp', 82) ('const', ('bool', ('true',))) ('tmp', 84)
          refine R.move ?_  -- 86 := move ('tmp', 85)
          refine R.gT rfl rfl ?_
          refine R.move ?_  -- 87 := move ('tmp', 19)
          refine R.gT rfl rfl ?_
          refine R.neq (b := false) rfl rfl (by simp) ?_  -- 88 := binOp ('neq',) 38 ('tmp', 87) ('const', ('int', ('i64',), 0)) 38
          refine R.pickF rfl ?_  -- 89 := pick ('tmp', 86) ('const', ('bool', ('true',))) ('tmp', 88)
          refine R.move ?_  -- 90 := move ('tmp', 89)
          refine R.gT rfl rfl ?_
          refine R.move ?_  -- 91 := move ('tmp', 18)
          refine R.gT rfl rfl ?_
          refine R.len Try.underlying35 hS71.row rfl ?_  -- 92 := call {'callee': ('builtin', ('len',)), 'args': [('tmp', 91)], 'argTypes': [35]}
          refine R.gT rfl rfl ?_
          refine R.move ?_  -- 93 := move ('tmp', 12)
          refine R.gT rfl rfl ?_
          refine R.len Try.underlying35 hr51 rfl ?_  -- 94 := call {'callee': ('builtin', ('len',)), 'args': [('tmp', 93)], 'argTypes': [35]}
          refine R.gT rfl rfl ?_
          refine R.subN (n := 1) rfl rfl (by omega) (by omega) ?_  -- 95 := binOp ('sub',) 3 ('tmp', 94) ('const', ('int', ('i64',), 1)) 3
          refine R.gT rfl rfl ?_
          refine R.move ?_  -- 96 := move ('tmp', 13)
          refine R.gT rfl rfl ?_
          refine R.subN rfl rfl (by omega) (by omega) ?_  -- 97 := binOp ('sub',) 3 ('tmp', 95) ('tmp', 96) 3
          refine R.gT rfl rfl ?_
          refine R.neq (b := false) rfl rfl (by simp; omega) ?_  -- 98 := binOp ('neq',) 3 ('tmp', 92) ('tmp', 97) 3
          refine R.pickF rfl ?_  -- 99 := pick ('tmp', 90) ('const', ('bool', ('true',))) ('tmp', 98)
          refine R.nil ?_
          refine E.condF rfl ?_  -- cond t99
          refine E.skip ?_
          refine E.seq ?_
          refine E.seq ?_
          refine E.regionP rfl ?_  -- region 16
          refine R.move ?_  -- 100 := move ('tmp', 18)
          refine R.len Try.underlying35 hS71.row rfl ?_  -- 101 := call {'callee': ('builtin', ('len',)), 'args': [('tmp', 100)], 'argTypes': [35]}
          refine R.move ?_  -- 102 := move ('const', ('int', ('i64',), 0))
          refine R.nil ?_
          refine E.block ?_  -- block 4
          refine E.loop (fun n e wr => ∃ (q : Nat), n = (xss[i].drop (k + 1)).reverse.length - q ∧ q ≤ (xss[i].drop (k + 1)).reverse.length ∧ Ext wb wr ∧ SInts wr u71 (xss[i].drop (k + 1)).reverse ∧ Blk wr b9 24 #[u43, .int .i64 H] ∧ Has e [(3, .int .i64 s), (9, .pointer (some ⟨b9, 0, none⟩)), (45, u43), (46, .int .i64 xss.length), (11, .int .i64 i), (12, u51), (47, .int .i64 i), (52, u51), (53, .int .i64 xss[i].length), (54, .int .i64 k), (10, .int .i64 ((xss.take i).flatten.length + k + 1 : Nat)), (13, .int .i64 k), (14, .int .i64 xss[i][k]), (18, u71), (19, .int .i64 0), (100, u71), (101, .int .i64 (xss[i].drop (k + 1)).reverse.length), (102, .int .i64 q)]) ((xss[i].drop (k + 1)).reverse.length) ?_ ?_
          · exact ⟨0, rfl, Nat.zero_le _, hE, hS71, hB9, rfl, rfl, rfl, rfl, rfl, rfl, rfl, rfl, rfl, rfl, rfl, rfl, rfl, rfl, rfl, rfl, rfl, rfl, trivial⟩
          · rintro n e wr ⟨q, rfl, hq, hE, hS71, hB9, hH⟩
            obtain ⟨e, rfl⟩ := hH.ex
            clear hH
            have hrl : (xss[i].drop (k + 1)).reverse.length = xss[i].length - (k + 1) := by simp
            refine E.seq ?_
            refine E.regionP rfl ?_  -- region 17
            refine R.lss rfl rfl rfl ?_  -- 103 := binOp ('lss',) 3 ('tmp', 102) ('tmp', 101) 3
            refine R.nil ?_
            refine E.seq ?_
            refine E.cond rfl (fun hc103 => ?_) (fun hc103 => ?_)  -- cond t103
            · replace hc103 := dT hc103
              refine E.skip ?_
              refine E.seq ?_
              refine E.block ?_  -- block 5
              refine E.seq ?_
              refine E.regionP rfl ?_  -- region 18
              refine R.move ?_  -- 104 := move ('tmp', 102)
              refine R.ix Try.underlying35 t3 (by decide) hS71.row rfl rfl (by omega) ?_  -- 105 := indexAddr 35 ('tmp', 100) ('tmp', 102)
              refine R.ld t3 hS71.row rfl (int_at (by omega)) rfl (fun _ _ => trivial) ?_  -- 106 := load 3 ('tmp', 105)
              refine R.assign ?_  -- 20 := assign ('tmp', 104)
              refine R.assign ?_  -- 21 := assign ('tmp', 106)
              refine R.nil ?_
              refine E.seq ?_
              refine E.regionP rfl ?_  -- region 19
              refine R.move ?_  -- 107 := move ('tmp', 21)
              refine R.move ?_  -- 108 := move ('tmp', 12)
              refine R.move ?_  -- 109 := move ('tmp', 12)
              refine R.len Try.underlying35 hr51 rfl ?_  -- 110 := call {'callee': ('builtin', ('len',)), 'args': [('tmp', 109)], 'argTypes': [35]}
              refine R.subN (n := 1) rfl rfl (by omega) (by omega) ?_  -- 111 := binOp ('sub',) 3 ('tmp', 110) ('const', ('int', ('i64',), 1)) 3
              refine R.move ?_  -- 112 := move ('tmp', 20)
              refine R.subN (m := xss[i].length - 1) (n := q) rfl rfl (by simp at hc103; omega) (by omega) ?_  -- 113 := binOp ('sub',) 3 ('tmp', 111) ('tmp', 112) 3
              refine R.ix (m := xss[i].length - 1 - q) Try.underlying35 t3 (by decide) hr51 rfl rfl (by omega) ?_  -- 114 := indexAddr 35 ('tmp', 108) ('tmp', 113)
              refine R.ld t3 (hr51.ext hE) rfl (int_at (k := xss[i].length - 1 - q) (by omega)) rfl (fun _ _ => trivial) ?_  -- 115 := load 3 ('tmp', 114)
              refine R.neq (b := false) rfl rfl (by simp; congr 1; omega) ?_  -- 116 := binOp ('neq',) 3 ('tmp', 107) ('tmp', 115) 3
              refine R.nil ?_
              refine E.condF rfl ?_  -- cond t116
              refine E.skip ?_
              refine E.regionP rfl ?_  -- region 21
              refine R.addN (n := 1) rfl rfl (by omega) ?_  -- 117 := binOp ('add',) 3 ('tmp', 102) ('const', ('int', ('i64',), 1)) 3
              refine R.move ?_  -- 102 := move ('tmp', 117)
              refine R.nil ?_
              exact ⟨(xss[i].drop (k + 1)).reverse.length - (q + 1), by omega, q + 1, rfl, by omega, hE, hS71, hB9, rfl, rfl, rfl, rfl, rfl, rfl, rfl, rfl, rfl, rfl, rfl, rfl, rfl, rfl, rfl, rfl, rfl, rfl, trivial⟩  -- round end 0 path TTT
            · replace hc103 := dF hc103
              refine E.exit ?_  -- exit 4
              refine E.seq ?_
              rcases (show k + 1 < xss[i].length ∨ k + 1 = xss[i].length by omega) with hu | hu
              · refine E.regionP rfl ?_  -- region 22
                refine R.loadA t24 hB9 rfl rfl rfl trivial ?_  -- 119 := load 24 ('tmp', 9)
                refine R.move ?_  -- 120 := move ('tmp', 14)
                refine R.callE2 ent25 (yTakeP _ ⟨_, hm.ext hE⟩ hR.l6 hR.x6 (hR.take_under hi1 hki hu)) rfl rfl nofun ?_  -- 121 := call {'callee': ('value', ('func', 25)), 'args': [('tmp', 119), ('tmp', 120)], 'argTypes': [24, 3]}
                rintro v121 w7 hx7 ⟨u121, rfl, hY121⟩
                replace hS71 := hS71.ext hx7
                replace hB9 := hB9.ext hx7
                replace hE := hE.ext hx7
                refine R.move ?_  -- 118 := move ('tmp', 121)
                refine R.extract rfl rfl ?_  -- 122 := extract ('tmp', 118) 0
                refine R.extract rfl rfl ?_  -- 123 := extract ('tmp', 118) 1
                refine R.alloc t24 nofun ?_  -- 22 := alloc 24
                intro b22 w8 hb22 hx8 hB22
                have ne9_22 : b9 ≠ b22 := by have := hB9.lt; omega
                replace hb22 := Nat.le_trans hE.size hb22
                replace hS71 := hS71.ext hx8
                replace hY121 := hY121.ext hx8
                replace hB9 := hB9.ext hx8
                replace hE := hE.ext hx8
                replace hB22 : Blk _ b22 24 #[.slice none 0 0, .int .i64 0] := hB22
                refine R.storeA t24 hB22 rfl rfl rfl rfl (ones2 hY121.one' rfl) nofun ?_  -- None := store 24 ('tmp', 22) ('tmp', 122)
                intro w9 hU9 hs9 hN9
                replace hS71 := hS71.upT hU9 hB22 (by decide)
                replace hY121 := hY121.upT hU9 hB22 (by decide)
                replace hB9 := hB9.up hU9 (fun h => ne9_22 h)
                replace hE := hE.own hU9 hb22
                replace hB22 : Blk _ b22 24 #[u121, .int .i64 0] := hN9
                clear hN9
                refine R.assign ?_  -- 19 := assign ('tmp', 123)
                refine R.nil ?_
                refine E.seq ?_
                refine E.seq ?_
                refine E.regionP rfl ?_  -- region 23
                refine R.move ?_  -- 124 := move ('tmp', 18)
                refine R.len Try.underlying35 hS71.row rfl ?_  -- 125 := call {'callee': ('builtin', ('len',)), 'args': [('tmp', 124)], 'argTypes': [35]}
                refine R.gtr (b := true) rfl rfl (by simp; omega) ?_  -- 126 := binOp ('gtr',) 3 ('tmp', 125) ('const', ('int', ('i64',), 0)) 3
                refine R.nil ?_
                refine E.condT rfl ?_  -- cond t126
                refine E.seq ?_
                refine E.seq ?_
                refine E.regionP rfl ?_  -- region 24
                refine R.move ?_  -- 127 := move ('tmp', 19)
                refine R.neq (b := false) rfl rfl (by simp) ?_  -- 128 := binOp ('neq',) 38 ('tmp', 127) ('const', ('int', ('i64',), 342)) 38
                refine R.move ?_  -- 129 := move ('tmp', 128)
                refine R.gT rfl rfl ?_
                refine R.fld fa24_0 rfl ?_  -- 130 := fieldAddr 24 ('tmp', 22) 0
                refine R.gT rfl rfl ?_
                refine R.loadB t22 hB22 rfl rfl rfl trivial ?_  -- 131 := load 22 ('tmp', 130)
                refine R.gT rfl rfl ?_
                refine R.len Try.underlying22 (YO.nil_row hY121) rfl ?_  -- 132 := call {'callee': ('builtin', ('len',)), 'args': [('tmp', 131)], 'argTypes': [22]}
                refine R.gT rfl rfl ?_
                refine R.neq (b := false) rfl rfl (by simp) ?_  -- 133 := binOp ('neq',) 3 ('tmp', 132) ('const', ('int', ('i64',), 0)) 3
                refine R.pickF rfl ?_  -- 134 := pick ('tmp', 129) ('const', ('bool', ('true',))) ('tmp', 133)
                refine R.nil ?_
                refine E.condF rfl ?_  -- cond t134
                refine E.skip ?_
                refine E.exit ?_  -- exit 3
                refine E.regionP rfl ?_  -- region 30
                refine R.addN (n := 1) rfl rfl (by omega) ?_  -- 169 := binOp ('add',) 3 ('tmp', 54) ('const', ('int', ('i64',), 1)) 3
                refine R.move ?_  -- 54 := move ('tmp', 169)
                refine R.nil ?_
                exact ⟨xss[i].length - (k + 1), by omega, k + 1, rfl, by omega, hE, hB9, rfl, rfl, rfl, rfl, rfl, rfl, rfl, rfl, rfl, rfl, rfl, trivial⟩  -- round end 1 path TTF0
              · obtain ⟨hRx, hbx⟩ := hR.taken hi1 hki hu
                have hpb := (hRx.put (by simpa using hi1) hbx (hR.2.2.2.2.2.1 _ (List.mem_flatten.2 ⟨_, List.getElem_mem hi1, List.getElem_mem hki⟩)).1 (hR.2.2.2.2.2.1 _ (List.mem_flatten.2 ⟨_, List.getElem_mem hi1, List.getElem_mem hki⟩)).2 (by rw [List.getElem_set_self]; have := hR.2.2.2.2.1 _ (List.getElem_mem hi1); simp; omega)).1
                rw [List.getElem_set_self, set_take_back hi1 hki hu] at hpb
                refine E.regionP rfl ?_  -- region 22
                refine R.loadA t24 hB9 rfl rfl rfl trivial ?_  -- 119 := load 24 ('tmp', 9)
                refine R.move ?_  -- 120 := move ('tmp', 14)
                refine R.callE2 ent25 (yTakeP _ ⟨_, hm.ext hE⟩ hR.l6 hR.x6 (hR.take_top hi1 hki hu)) rfl rfl nofun ?_  -- 121 := call {'callee': ('value', ('func', 25)), 'args': [('tmp', 119), ('tmp', 120)], 'argTypes': [24, 3]}
                rintro v121 w10 hx10 ⟨u121, rfl, hY121⟩
                replace hS71 := hS71.ext hx10
                replace hB9 := hB9.ext hx10
                replace hE := hE.ext hx10
                refine R.move ?_  -- 118 := move ('tmp', 121)
                refine R.extract rfl rfl ?_  -- 122 := extract ('tmp', 118) 0
                refine R.extract rfl rfl ?_  -- 123 := extract ('tmp', 118) 1
                refine R.alloc t24 nofun ?_  -- 22 := alloc 24
                intro b22 w11 hb22 hx11 hB22
                have ne9_22 : b9 ≠ b22 := by have := hB9.lt; omega
                replace hb22 := Nat.le_trans hE.size hb22
                replace hS71 := hS71.ext hx11
                replace hY121 := hY121.ext hx11
                replace hB9 := hB9.ext hx11
                replace hE := hE.ext hx11
                replace hB22 : Blk _ b22 24 #[.slice none 0 0, .int .i64 0] := hB22
                refine R.storeA t24 hB22 rfl rfl rfl rfl (ones2 hY121.one' rfl) nofun ?_  -- None := store 24 ('tmp', 22) ('tmp', 122)
                intro w12 hU12 hs12 hN12
                replace hS71 := hS71.upT hU12 hB22 (by decide)
                replace hY121 := hY121.upT hU12 hB22 (by decide)
                replace hB9 := hB9.up hU12 (fun h => ne9_22 h)
                replace hE := hE.own hU12 hb22
                replace hB22 : Blk _ b22 24 #[u121, .int .i64 H] := hN12
                clear hN12
                refine R.assign ?_  -- 19 := assign ('tmp', 123)
                refine R.nil ?_
                refine E.seq ?_
                refine E.seq ?_
                refine E.regionP rfl ?_  -- region 23
                refine R.move ?_  -- 124 := move ('tmp', 18)
                refine R.len Try.underlying35 hS71.row rfl ?_  -- 125 := call {'callee': ('builtin', ('len',)), 'args': [('tmp', 124)], 'argTypes': [35]}
                refine R.gtr (b := false) rfl rfl (by simp; omega) ?_  -- 126 := binOp ('gtr',) 3 ('tmp', 125) ('const', ('int', ('i64',), 0)) 3
                refine R.nil ?_
                refine E.condF rfl ?_  -- cond t126
                refine E.skip ?_
                refine E.seq ?_
                refine E.regionP rfl ?_  -- region 26
                refine R.loadA t24 hB22 rfl rfl rfl trivial ?_  -- 136 := load 24 ('tmp', 22)
                refine R.move ?_  -- 137 := move ('tmp', 14)
                refine R.move ?_  -- 138 := move ('tmp', 11)
                refine R.callE3 ent26 (yPutP _ hY121.mat hRx.l6 hRx.x6 hpb) rfl rfl rfl nofun ?_  -- 139 := call {'callee': ('value', ('func', 26)), 'args': [('tmp', 136), ('tmp', 137), ('tmp', 138)], 'argTypes': [24, 3, 3]}
                rintro v139 w13 hx13 ⟨u139, rfl, hY139⟩
                replace hS71 := hS71.ext hx13
                replace hY121 := hY121.ext hx13
                replace hB9 := hB9.ext hx13
                replace hB22 := hB22.ext hx13
                replace hE := hE.ext hx13
                refine R.move ?_  -- 135 := move ('tmp', 139)
                refine R.extract rfl rfl ?_  -- 140 := extract ('tmp', 135) 0
                refine R.extract rfl rfl ?_  -- 141 := extract ('tmp', 135) 1
                refine R.alloc t24 nofun ?_  -- 23 := alloc 24
                intro b23 w14 hb23 hx14 hB23
                have ne9_23 : b9 ≠ b23 := by have := hB9.lt; omega
                have ne22_23 : b22 ≠ b23 := by have := hB22.lt; omega
                replace hb23 := Nat.le_trans hE.size hb23
                replace hS71 := hS71.ext hx14
                replace hY121 := hY121.ext hx14
                replace hY139 := hY139.ext hx14
                replace hB9 := hB9.ext hx14
                replace hB22 := hB22.ext hx14
                replace hE := hE.ext hx14
                replace hB23 : Blk _ b23 24 #[.slice none 0 0, .int .i64 0] := hB23
                refine R.storeA t24 hB23 rfl rfl rfl rfl (ones2 hY139.one' rfl) nofun ?_  -- None := store 24 ('tmp', 23) ('tmp', 140)
                intro w15 hU15 hs15 hN15
                replace hS71 := hS71.upT hU15 hB23 (by decide)
                replace hY121 := hY121.upT hU15 hB23 (by decide)
                replace hY139 := hY139.upT hU15 hB23 (by decide)
                replace hB9 := hB9.up hU15 (fun h => ne9_23 h)
                replace hB22 := hB22.up hU15 (fun h => ne22_23 h)
                replace hE := hE.own hU15 hb23
                replace hB23 : Blk _ b23 24 #[u139, .int .i64 H] := hN15
                clear hN15
                refine R.assign ?_  -- 24 := assign ('tmp', 141)
                refine R.nil ?_
                refine E.seq ?_
                refine E.regionP rfl ?_  -- region 27
                refine R.loadA t24 hB22 rfl rfl rfl trivial ?_  -- 143 := load 24 ('tmp', 22)
                refine R.move ?_  -- 144 := move ('tmp', 14)
                refine R.callE2 ent23 (findE _ hY121.mat hRx.l6 hRx.x6 (findV_not hbx)) rfl rfl nofun ?_  -- 145 := call {'callee': ('value', ('func', 23)), 'args': [('tmp', 143), ('tmp', 144)], 'argTypes': [24, 3]}
                rintro v145 w16 hx16 rfl
                replace hS71 := hS71.ext hx16
                replace hY121 := hY121.ext hx16
                replace hY139 := hY139.ext hx16
                replace hB9 := hB9.ext hx16
                replace hB22 := hB22.ext hx16
                replace hB23 := hB23.ext hx16
                replace hE := hE.ext hx16
                refine R.move ?_  -- 142 := move ('tmp', 145)
                refine R.extract rfl rfl ?_  -- 146 := extract ('tmp', 142) 0
                refine R.extract rfl rfl ?_  -- 147 := extract ('tmp', 142) 1
                refine R.extract rfl rfl ?_  -- 148 := extract ('tmp', 142) 2
                refine R.assign ?_  -- 25 := assign ('tmp', 146)
                refine R.assign ?_  -- 26 := assign ('tmp', 147)
                refine R.assign ?_  -- 27 := assign ('tmp', 148)
                refine R.nil ?_
                refine E.seq ?_
                refine E.regionP rfl ?_  -- region 28
                refine R.move ?_  -- 149 := move ('tmp', 19)
                refine R.neq (b := false) rfl rfl (by simp) ?_  -- 150 := binOp ('neq',) 38 ('tmp', 149) ('const', ('int', ('i64',), 0)) 38
                refine R.move ?_  -- 151 := move ('tmp', 150)
                refine R.gT rfl rfl ?_
                refine R.move ?_  -- 152 := move ('tmp', 24)
                refine R.gT rfl rfl ?_
                refine R.neq (b := false) rfl rfl (by simp) ?_  -- 153 := binOp ('neq',) 38 ('tmp', 152) ('const', ('int', ('i64',), 0)) 38
                refine R.pickF rfl ?_  -- 154 := pick ('tmp', 151) ('const', ('bool', ('true',))) ('tmp', 153)
                refine R.move ?_  -- 155 := move ('tmp', 154)
                refine R.gT rfl rfl ?_
                refine R.move ?_  -- 156 := move ('tmp', 27)
                refine R.pickF rfl ?_  -- 157 := pick ('tmp', 155) ('const', ('bool', ('true',))) ('tmp', 156)
                refine R.move ?_  -- 158 := move ('tmp', 157)
                refine R.gT rfl rfl ?_
                refine R.loadA t24 hB22 rfl rfl rfl trivial ?_  -- 159 := load 24 ('tmp', 22)
                refine R.gT rfl rfl ?_
                refine R.callE1 ent27 (rightP _ hY121.mat hRx.l6 hRx.x6 hRx.b) rfl nofun ?_  -- 160 := call {'callee': ('value', ('func', 27)), 'args': [('tmp', 159)], 'argTypes': [24]}
                rintro v160 w17 hx17 rfl
                replace hS71 := hS71.ext hx17
                replace hY121 := hY121.ext hx17
                replace hY139 := hY139.ext hx17
                replace hB9 := hB9.ext hx17
                replace hB22 := hB22.ext hx17
                replace hB23 := hB23.ext hx17
                replace hE := hE.ext hx17
                refine R.gT rfl rfl ?_
                refine R.not rfl ?_  -- 161 := unOp ('not',) 4 ('tmp', 160)
                refine R.pickF rfl ?_  -- 162 := pick ('tmp', 158) ('const', ('bool', ('true',))) ('tmp', 161)
                refine R.move ?_  -- 163 := move ('tmp', 162)
                refine R.gT rfl rfl ?_
                refine R.loadA t24 hB23 rfl rfl rfl trivial ?_  -- 164 := load 24 ('tmp', 23)
                refine R.gT rfl rfl ?_
                refine R.loadA t24 hB9 rfl rfl rfl trivial ?_  -- 165 := load 24 ('tmp', 9)
                refine R.gT rfl rfl ?_
                refine R.callE2 ent28 (same1 _ hY139.mat (hm.ext hE) hR.l9 hR.x9) rfl rfl nofun ?_  -- 166 := call {'callee': ('value', ('func', 28)), 'args': [('tmp', 164), ('tmp', 165)], 'argTypes': [24, 24]}
                rintro v166 w18 hx18 rfl
                replace hS71 := hS71.ext hx18
                replace hY121 := hY121.ext hx18
                replace hY139 := hY139.ext hx18
                replace hB9 := hB9.ext hx18
                replace hB22 := hB22.ext hx18
                replace hB23 := hB23.ext hx18
                replace hE := hE.ext hx18
                refine R.gT rfl rfl ?_
                refine R.not rfl ?_  -- 167 := unOp ('not',) 4 ('tmp', 166)
                refine R.pickF rfl ?_  -- 168 := pick ('tmp', 163) ('const', ('bool', ('true',))) ('tmp', 167)
                refine R.nil ?_
                refine E.condF rfl ?_  -- cond t168
                refine E.skip ?_
                refine E.regionP rfl ?_  -- region 30
                refine R.addN (n := 1) rfl rfl (by omega) ?_  -- 169 := binOp ('add',) 3 ('tmp', 54) ('const', ('int', ('i64',), 1)) 3
                refine R.move ?_  -- 54 := move ('tmp', 169)
                refine R.nil ?_
                exact ⟨xss[i].length - (k + 1), by omega, k + 1, rfl, by omega, hE, hB9, rfl, rfl, rfl, rfl, rfl, rfl, rfl, rfl, rfl, rfl, rfl, trivial⟩  -- round end 2 path TTF1
        · replace hc55 := dF hc55
          refine E.exit ?_  -- exit 2
          refine E.regionP rfl ?_  -- region 31
          refine R.addN (n := 1) rfl rfl (by omega) ?_  -- 170 := binOp ('add',) 3 ('tmp', 47) ('const', ('int', ('i64',), 1)) 3
          refine R.move ?_  -- 47 := move ('tmp', 170)
          refine R.nil ?_
          obtain rfl : k = xss[i].length := by omega  -- round end 3 path TF
          refine ⟨xss.length - (i + 1), by omega, i + 1, rfl, by omega, hE, hB9, rfl, rfl, rfl, rfl, rfl, by rw [flatten_take_succ hi1, List.length_append]; rfl, trivial⟩
    · replace hc48 := dF hc48
      obtain rfl : i = xss.length := by omega
      rw [List.take_length]
      have hcnt := hR.count
      have hnH := Nat.mul_le_mul (show xss.length ≤ 6 by omega) hH1
      obtain ⟨a, ha⟩ : ∃ a : Nat, pickL s xss.length = a := ⟨(pickL s xss.length).toNat, by have := (pickL_range (a := s) (n := xss.length) (by omega)).1; omega⟩
      have hal : a < xss.length := by have := (pickL_range (a := s) (n := xss.length) (by omega)).2; omega
      have hnb : (999999 : Int) ∉ xss.flatten := fun hb => by have := (hP43.box _ hb).2; omega
      have hxa := hR.2.2.2.2.1 _ (List.getElem_mem hal)
      refine E.exit ?_  -- exit 0
      refine E.seq ?_
      refine E.regionP rfl ?_  -- region 32
      refine R.move ?_  -- 171 := move ('tmp', 3)
      refine R.fld fa24_0 rfl ?_  -- 172 := fieldAddr 24 ('tmp', 9) 0
      refine R.loadB t22 hB9 rfl rfl rfl trivial ?_  -- 173 := load 22 ('tmp', 172)
      refine R.len Try.underlying22 hm.row rfl ?_  -- 174 := call {'callee': ('builtin', ('len',)), 'args': [('tmp', 173)], 'argTypes': [22]}
      refine R.callE2 ent21 (pick _ (by omega)) rfl rfl nofun ?_  -- 175 := call {'callee': ('value', ('func', 21)), 'args': [('tmp', 171), ('tmp', 174)], 'argTypes': [3, 3]}
      rintro v175 w19 hx19 rfl
      rw [ha]
      replace hB9 := hB9.ext hx19
      replace hE := hE.ext hx19
      refine R.assign ?_  -- 28 := assign ('tmp', 175)
      refine R.nil ?_
      refine E.seq ?_
      refine E.regionP rfl ?_  -- region 33
      refine R.loadA t24 hB9 rfl rfl rfl trivial ?_  -- 177 := load 24 ('tmp', 9)
      refine R.callE1 ent29 (roomP _ ⟨_, hm.ext hE⟩ hR.l6 hR.x6 hR.room) rfl nofun ?_  -- 178 := call {'callee': ('value', ('func', 29)), 'args': [('tmp', 177)], 'argTypes': [24]}
      rintro v178 w20 hx20 rfl
      replace hB9 := hB9.ext hx20
      replace hE := hE.ext hx20
      refine R.move ?_  -- 176 := move ('tmp', 178)
      refine R.extract rfl rfl ?_  -- 179 := extract ('tmp', 176) 0
      refine R.extract rfl rfl ?_  -- 180 := extract ('tmp', 176) 1
      refine R.assign ?_  -- 29 := assign ('tmp', 179)
      refine R.assign ?_  -- 30 := assign ('tmp', 180)
      refine R.nil ?_
      refine E.seq ?_
      rcases (show xss[a].length = H ∨ xss[a].length < H by omega) with hu | hu
      · refine E.regionP rfl ?_  -- region 34
        refine R.loadA t24 hB9 rfl rfl rfl trivial ?_  -- 182 := load 24 ('tmp', 9)
        refine R.move ?_  -- 183 := move ('tmp', 28)
        refine R.callE3 ent26 (yPutP _ ⟨_, hm.ext hE⟩ hR.l6 hR.x6 (hR.put_full hal hnb (by decide) (by decide) (by omega))) rfl rfl rfl nofun ?_  -- 184 := call {'callee': ('value', ('func', 26)), 'args': [('tmp', 182), ('const', ('int', ('i64',), 999999)), ('tmp', 183)], 'argTypes': [24, 3, 3]}
        rintro v184 w21 hx21 ⟨u184, rfl, hY184⟩
        replace hB9 := hB9.ext hx21
        replace hE := hE.ext hx21
        refine R.move ?_  -- 181 := move ('tmp', 184)
        refine R.extract rfl rfl ?_  -- 185 := extract ('tmp', 181) 0
        refine R.extract rfl rfl ?_  -- 186 := extract ('tmp', 181) 1
        refine R.alloc t24 nofun ?_  -- 31 := alloc 24
        intro b31 w22 hb31 hx22 hB31
        have ne9_31 : b9 ≠ b31 := by have := hB9.lt; omega
        replace hb31 := Nat.le_trans hE.size hb31
        replace hY184 := hY184.ext hx22
        replace hB9 := hB9.ext hx22
        replace hE := hE.ext hx22
        replace hB31 : Blk _ b31 24 #[.slice none 0 0, .int .i64 0] := hB31
        refine R.storeA t24 hB31 rfl rfl rfl rfl (ones2 hY184.one' rfl) nofun ?_  -- None := store 24 ('tmp', 31) ('tmp', 185)
        intro w23 hU23 hs23 hN23
        replace hY184 := hY184.upT hU23 hB31 (by decide)
        replace hB9 := hB9.up hU23 (fun h => ne9_31 h)
        replace hE := hE.own hU23 hb31
        replace hB31 : Blk _ b31 24 #[u184, .int .i64 0] := hN23
        clear hN23
        refine R.assign ?_  -- 32 := assign ('tmp', 186)
        refine R.nil ?_
        refine E.seq ?_
        refine E.seq ?_
        refine E.regionP rfl ?_  -- region 35
        refine R.move ?_  -- 187 := move ('tmp', 32)
        refine R.eql (b := true) rfl rfl (by simp) ?_  -- 188 := binOp ('eql',) 38 ('tmp', 187) ('const', ('int', ('i64',), 4)) 38
        refine R.nil ?_
        refine E.condT rfl ?_  -- cond t188
        refine E.seq ?_
        refine E.forget [(9, .pointer (some ⟨b9, 0, none⟩)), (10, .int .i64 (xss.flatten.length : Nat)), (28, .int .i64 (a : Nat)), (29, .int .i64 (xss.length * H - xss.flatten.length : Nat)), (30, .int .i64 0)] ⟨rfl, rfl, rfl, rfl, rfl, trivial⟩ (fun e => ?_)
        refine E.regionW allS [] mixed rfl (by kernel_rfl) ?_  -- region 36
        intro w24 hx24 hh24
        replace hY184 := hY184.ext hx24
        replace hB9 := hB9.ext hx24
        replace hB31 := hB31.ext hx24
        replace hE := hE.ext hx24
        refine R.move ?_  -- 189 := move ('tmp', 30)
        refine R.eql (b := true) rfl rfl (by simp) ?_  -- 190 := binOp ('eql',) 38 ('tmp', 189) ('const', ('int', ('i64',), 0)) 38
        refine R.move ?_  -- 191 := move ('tmp', 190)
        refine R.gT rfl rfl ?_
        refine R.fld fa24_0 rfl ?_  -- 192 := fieldAddr 24 ('tmp', 9) 0
        refine R.gT rfl rfl ?_
        refine R.loadB t22 hB9 rfl rfl rfl trivial ?_  -- 193 := load 22 ('tmp', 192)
        refine R.gT rfl rfl ?_
        refine R.move ?_  -- 194 := move ('tmp', 28)
        refine R.gT rfl rfl ?_
        refine R.ix Try.underlying22 t35 (by decide) hm.row rfl rfl hal ?_  -- 195 := indexAddr 22 ('tmp', 193) ('tmp', 194)
        refine R.gT rfl rfl ?_
        obtain ⟨u196, hu196, hr196⟩ := hm.get a (by omega)
        refine R.ld t35 (hm.row.ext hE) rfl hu196 rfl (fun _ _ => trivial) ?_  -- 196 := load 35 ('tmp', 195)
        refine R.gT rfl rfl ?_
        refine R.len Try.underlying35 hr196 rfl ?_  -- 197 := call {'callee': ('builtin', ('len',)), 'args': [('tmp', 196)], 'argTypes': [35]}
        refine R.gT rfl rfl ?_
        refine R.fld fa24_1 rfl ?_  -- 198 := fieldAddr 24 ('tmp', 9) 1
        refine R.gT rfl rfl ?_
        refine R.loadB t3 hB9 rfl rfl rfl trivial ?_  -- 199 := load 3 ('tmp', 198)
        refine R.gT rfl rfl ?_
        refine R.eql (b := true) rfl rfl (by simp; omega) ?_  -- 200 := binOp ('eql',) 3 ('tmp', 197) ('tmp', 199) 3
        refine R.pickT rfl ?_  -- 201 := pick ('tmp', 191) ('tmp', 200) ('const', ('bool', ('false',)))
        refine R.move ?_  -- 202 := move ('tmp', 201)
        refine R.gT rfl rfl ?_
        refine R.move ?_  -- 203 := move ('tmp', 29)
        refine R.gT rfl rfl ?_
        refine R.fld fa24_0 rfl ?_  -- 204 := fieldAddr 24 ('tmp', 9) 0
        refine R.gT rfl rfl ?_
        refine R.loadB t22 hB9 rfl rfl rfl trivial ?_  -- 205 := load 22 ('tmp', 204)
        refine R.gT rfl rfl ?_
        refine R.len Try.underlying22 hm.row rfl ?_  -- 206 := call {'callee': ('builtin', ('len',)), 'args': [('tmp', 205)], 'argTypes': [22]}
        refine R.gT rfl rfl ?_
        refine R.fld fa24_1 rfl ?_  -- 207 := fieldAddr 24 ('tmp', 9) 1
        refine R.gT rfl rfl ?_
        refine R.loadB t3 hB9 rfl rfl rfl trivial ?_  -- 208 := load 3 ('tmp', 207)
        refine R.gT rfl rfl ?_
        refine R.mulN (m := xss.length) (n := H) rfl rfl (by omega) ?_  -- 209 := binOp ('mul',) 3 ('tmp', 206) ('tmp', 208) 3
        refine R.gT rfl rfl ?_
        refine R.move ?_  -- 210 := move ('tmp', 10)
        refine R.gT rfl rfl ?_
        refine R.subN (m := xss.length * H) (n := xss.flatten.length) rfl rfl (by omega) (by omega) ?_  -- 211 := binOp ('sub',) 3 ('tmp', 209) ('tmp', 210) 3
        refine R.gT rfl rfl ?_
        refine R.eql (b := true) rfl rfl (by simp) ?_  -- 212 := binOp ('eql',) 3 ('tmp', 203) ('tmp', 211) 3
        refine R.pickT rfl ?_  -- 213 := pick ('tmp', 202) ('tmp', 212) ('const', ('bool', ('false',)))
        refine R.assign ?_  -- 8 := assign ('tmp', 213)
        refine R.nil ?_
        refine E.ret ?_
        exact ret1 (.bool true) rfl rfl ⟨_, rfl, hE0.ext hE, rfl⟩  -- return 0 path F0
      · obtain ⟨hpx, hRx⟩ := hR.put hal hnb (by decide) (by decide) (by omega)
        have hpe := flatten_set_perm hal 999999
        have hcx := hRx.count
        rw [List.length_set, hpe.length_eq, List.length_cons] at hcx
        have hrx := hRx.room
        rw [List.length_set, hpe.length_eq, List.length_cons] at hrx
        have hfx := hRx.findV (i := a) (k := xss[a].length) (by simpa using hal) (by simp)
        rw [show ((xss.set a (xss[a] ++ [999999]))[a]'(by simpa using hal))[xss[a].length]'(by simp) = 999999 by simp] at hfx
        refine E.regionP rfl ?_  -- region 34
        refine R.loadA t24 hB9 rfl rfl rfl trivial ?_  -- 182 := load 24 ('tmp', 9)
        refine R.move ?_  -- 183 := move ('tmp', 28)
        refine R.callE3 ent26 (yPutP _ ⟨_, hm.ext hE⟩ hR.l6 hR.x6 hpx) rfl rfl rfl nofun ?_  -- 184 := call {'callee': ('value', ('func', 26)), 'args': [('tmp', 182), ('const', ('int', ('i64',), 999999)), ('tmp', 183)], 'argTypes': [24, 3, 3]}
        rintro v184 w25 hx25 ⟨u184, rfl, hY184⟩
        replace hB9 := hB9.ext hx25
        replace hE := hE.ext hx25
        refine R.move ?_  -- 181 := move ('tmp', 184)
        refine R.extract rfl rfl ?_  -- 185 := extract ('tmp', 181) 0
        refine R.extract rfl rfl ?_  -- 186 := extract ('tmp', 181) 1
        refine R.alloc t24 nofun ?_  -- 31 := alloc 24
        intro b31 w26 hb31 hx26 hB31
        have ne9_31 : b9 ≠ b31 := by have := hB9.lt; omega
        replace hb31 := Nat.le_trans hE.size hb31
        replace hY184 := hY184.ext hx26
        replace hB9 := hB9.ext hx26
        replace hE := hE.ext hx26
        replace hB31 : Blk _ b31 24 #[.slice none 0 0, .int .i64 0] := hB31
        refine R.storeA t24 hB31 rfl rfl rfl rfl (ones2 hY184.one' rfl) nofun ?_  -- None := store 24 ('tmp', 31) ('tmp', 185)
        intro w27 hU27 hs27 hN27
        replace hY184 := hY184.upT hU27 hB31 (by decide)
        replace hB9 := hB9.up hU27 (fun h => ne9_31 h)
        replace hE := hE.own hU27 hb31
        replace hB31 : Blk _ b31 24 #[u184, .int .i64 H] := hN27
        clear hN27
        refine R.assign ?_  -- 32 := assign ('tmp', 186)
        refine R.nil ?_
        refine E.seq ?_
        refine E.seq ?_
        refine E.regionP rfl ?_  -- region 35
        refine R.move ?_  -- 187 := move ('tmp', 32)
        refine R.eql (b := false) rfl rfl (by simp) ?_  -- 188 := binOp ('eql',) 38 ('tmp', 187) ('const', ('int', ('i64',), 4)) 38
        refine R.nil ?_
        refine E.condF rfl ?_  -- cond t188
        refine E.skip ?_
        refine E.seq ?_
        refine E.forget [(9, .pointer (some ⟨b9, 0, none⟩)), (10, .int .i64 (xss.flatten.length : Nat)), (28, .int .i64 (a : Nat)), (29, .int .i64 (xss.length * H - xss.flatten.length : Nat)), (30, .int .i64 0), (31, .pointer (some ⟨b31, 0, none⟩)), (32, .int .i64 0)] ⟨rfl, rfl, rfl, rfl, rfl, rfl, rfl, trivial⟩ (fun e => ?_)
        refine E.regionP rfl ?_  -- region 37
        refine R.loadA t24 hB31 rfl rfl rfl trivial ?_  -- 215 := load 24 ('tmp', 31)
        refine R.callE1 ent29 (roomP _ hY184.mat hRx.l6 hRx.x6 hrx) rfl nofun ?_  -- 216 := call {'callee': ('value', ('func', 29)), 'args': [('tmp', 215)], 'argTypes': [24]}
        rintro v216 w28 hx28 rfl
        replace hY184 := hY184.ext hx28
        replace hB9 := hB9.ext hx28
        replace hB31 := hB31.ext hx28
        replace hE := hE.ext hx28
        refine R.move ?_  -- 214 := move ('tmp', 216)
        refine R.extract rfl rfl ?_  -- 217 := extract ('tmp', 214) 0
        refine R.extract rfl rfl ?_  -- 218 := extract ('tmp', 214) 1
        refine R.assign ?_  -- 33 := assign ('tmp', 217)
        refine R.assign ?_  -- 34 := assign ('tmp', 218)
        refine R.nil ?_
        refine E.seq ?_
        refine E.regionP rfl ?_  -- region 38
        refine R.loadA t24 hB31 rfl rfl rfl trivial ?_  -- 220 := load 24 ('tmp', 31)
        refine R.callE2 ent23 (findE _ hY184.mat hRx.l6 hRx.x6 hfx) rfl rfl nofun ?_  -- 221 := call {'callee': ('value', ('func', 23)), 'args': [('tmp', 220), ('const', ('int', ('i64',), 999999))], 'argTypes': [24, 3]}
        rintro v221 w29 hx29 rfl
        replace hY184 := hY184.ext hx29
        replace hB9 := hB9.ext hx29
        replace hB31 := hB31.ext hx29
        replace hE := hE.ext hx29
        refine R.move ?_  -- 219 := move ('tmp', 221)
        refine R.extract rfl rfl ?_  -- 222 := extract ('tmp', 219) 0
        refine R.extract rfl rfl ?_  -- 223 := extract ('tmp', 219) 1
        refine R.extract rfl rfl ?_  -- 224 := extract ('tmp', 219) 2
        refine R.assign ?_  -- 35 := assign ('tmp', 222)
        refine R.assign ?_  -- 36 := assign ('tmp', 223)
        refine R.assign ?_  -- 37 := assign ('tmp', 224)
        refine R.nil ?_
        refine E.seq ?_
        refine E.forget [(9, .pointer (some ⟨b9, 0, none⟩)), (10, .int .i64 (xss.flatten.length : Nat)), (28, .int .i64 (a : Nat)), (29, .int .i64 (xss.length * H - xss.flatten.length : Nat)), (30, .int .i64 0), (31, .pointer (some ⟨b31, 0, none⟩)), (32, .int .i64 0), (33, .int .i64 (xss.length * H - (xss.flatten.length + 1) : Nat)), (34, .int .i64 0), (35, .int .i64 (a : Nat)), (36, .int .i64 (xss[a].length : Nat)), (37, .bool true)] ⟨rfl, rfl, rfl, rfl, rfl, rfl, rfl, rfl, rfl, rfl, rfl, rfl, trivial⟩ (fun e => ?_)
        refine E.regionP rfl ?_  -- region 39
        refine R.move ?_  -- 225 := move ('tmp', 30)
        refine R.eql (b := true) rfl rfl (by simp) ?_  -- 226 := binOp ('eql',) 38 ('tmp', 225) ('const', ('int', ('i64',), 0)) 38
        refine R.move ?_  -- 227 := move ('tmp', 226)
        refine R.gT rfl rfl ?_
        refine R.move ?_  -- 228 := move ('tmp', 32)
        refine R.gT rfl rfl ?_
        refine R.eql (b := true) rfl rfl (by simp) ?_  -- 229 := binOp ('eql',) 38 ('tmp', 228) ('const', ('int', ('i64',), 0)) 38
        refine R.pickT rfl ?_  -- 230 := pick ('tmp', 227) ('tmp', 229) ('const', ('bool', ('false',)))
        refine R.move ?_  -- 231 := move ('tmp', 230)
        refine R.gT rfl rfl ?_
        refine R.move ?_  -- 232 := move ('tmp', 34)
        refine R.gT rfl rfl ?_
        refine R.eql (b := true) rfl rfl (by simp) ?_  -- 233 := binOp ('eql',) 38 ('tmp', 232) ('const', ('int', ('i64',), 0)) 38
        refine R.pickT rfl ?_  -- 234 := pick ('tmp', 231) ('tmp', 233) ('const', ('bool', ('false',)))
        refine R.move ?_  -- 235 := move ('tmp', 234)
        refine R.gT rfl rfl ?_
        refine R.move ?_  -- 236 := move ('tmp', 33)
        refine R.gT rfl rfl ?_
        refine R.move ?_  -- 237 := move ('tmp', 29)
        refine R.gT rfl rfl ?_
        refine R.subN (m := xss.length * H - xss.flatten.length) (n := 1) rfl rfl (by omega) (by omega) ?_  -- 238 := binOp ('sub',) 3 ('tmp', 237) ('const', ('int', ('i64',), 1)) 3
        refine R.gT rfl rfl ?_
        refine R.eql (b := true) rfl rfl (decide_eq_true (by omega)) ?_  -- 239 := binOp ('eql',) 3 ('tmp', 236) ('tmp', 238) 3
        refine R.pickT rfl ?_  -- 240 := pick ('tmp', 235) ('tmp', 239) ('const', ('bool', ('false',)))
        refine R.move ?_  -- 241 := move ('tmp', 240)
        refine R.gT rfl rfl ?_
        refine R.move ?_  -- 242 := move ('tmp', 35)
        refine R.gT rfl rfl ?_
        refine R.move ?_  -- 243 := move ('tmp', 28)
        refine R.gT rfl rfl ?_
        refine R.eql (b := true) rfl rfl (by simp) ?_  -- 244 := binOp ('eql',) 3 ('tmp', 242) ('tmp', 243) 3
        refine R.pickT rfl ?_  -- 245 := pick ('tmp', 241) ('tmp', 244) ('const', ('bool', ('false',)))
        refine R.move ?_  -- 246 := move ('tmp', 245)
        refine R.gT rfl rfl ?_
        refine R.move ?_  -- 247 := move ('tmp', 36)
        refine R.gT rfl rfl ?_
        refine R.fld fa24_0 rfl ?_  -- 248 := fieldAddr 24 ('tmp', 9) 0
        refine R.gT rfl rfl ?_
        refine R.loadB t22 hB9 rfl rfl rfl trivial ?_  -- 249 := load 22 ('tmp', 248)
        refine R.gT rfl rfl ?_
        refine R.move ?_  -- 250 := move ('tmp', 28)
        refine R.gT rfl rfl ?_
        refine R.ix Try.underlying22 t35 (by decide) hm.row rfl rfl hal ?_  -- 251 := indexAddr 22 ('tmp', 249) ('tmp', 250)
        refine R.gT rfl rfl ?_
        obtain ⟨u252, hu252, hr252⟩ := hm.get a (by omega)
        refine R.ld t35 (hm.row.ext hE) rfl hu252 rfl (fun _ _ => trivial) ?_  -- 252 := load 35 ('tmp', 251)
        refine R.gT rfl rfl ?_
        refine R.len Try.underlying35 hr252 rfl ?_  -- 253 := call {'callee': ('builtin', ('len',)), 'args': [('tmp', 252)], 'argTypes': [35]}
        refine R.gT rfl rfl ?_
        refine R.eql (b := true) rfl rfl (by simp) ?_  -- 254 := binOp ('eql',) 3 ('tmp', 247) ('tmp', 253) 3
        refine R.pickT rfl ?_  -- 255 := pick ('tmp', 246) ('tmp', 254) ('const', ('bool', ('false',)))
        refine R.move ?_  -- 256 := move ('tmp', 255)
        refine R.gT rfl rfl ?_
        refine R.move ?_  -- 257 := move ('tmp', 37)
        refine R.pickT rfl ?_  -- 258 := pick ('tmp', 256) ('tmp', 257) ('const', ('bool', ('false',)))
        refine R.move ?_  -- 259 := move ('tmp', 258)
        refine R.gT rfl rfl ?_
        refine R.move ?_  -- 260 := move ('tmp', 29)
        refine R.gT rfl rfl ?_
        refine R.fld fa24_0 rfl ?_  -- 261 := fieldAddr 24 ('tmp', 9) 0
        refine R.gT rfl rfl ?_
        refine R.loadB t22 hB9 rfl rfl rfl trivial ?_  -- 262 := load 22 ('tmp', 261)
        refine R.gT rfl rfl ?_
        refine R.len Try.underlying22 hm.row rfl ?_  -- 263 := call {'callee': ('builtin', ('len',)), 'args': [('tmp', 262)], 'argTypes': [22]}
        refine R.gT rfl rfl ?_
        refine R.fld fa24_1 rfl ?_  -- 264 := fieldAddr 24 ('tmp', 9) 1
        refine R.gT rfl rfl ?_
        refine R.loadB t3 hB9 rfl rfl rfl trivial ?_  -- 265 := load 3 ('tmp', 264)
        refine R.gT rfl rfl ?_
        refine R.mulN (m := xss.length) (n := H) rfl rfl (by omega) ?_  -- 266 := binOp ('mul',) 3 ('tmp', 263) ('tmp', 265) 3
        refine R.gT rfl rfl ?_
        refine R.move ?_  -- 267 := move ('tmp', 10)
        refine R.gT rfl rfl ?_
        refine R.subN (m := xss.length * H) (n := xss.flatten.length) rfl rfl (by omega) (by omega) ?_  -- 268 := binOp ('sub',) 3 ('tmp', 266) ('tmp', 267) 3
        refine R.gT rfl rfl ?_
        refine R.eql (b := true) rfl rfl (by simp) ?_  -- 269 := binOp ('eql',) 3 ('tmp', 260) ('tmp', 268) 3
        refine R.pickT rfl ?_  -- 270 := pick ('tmp', 259) ('tmp', 269) ('const', ('bool', ('false',)))
        refine R.assign ?_  -- 8 := assign ('tmp', 270)
        refine R.nil ?_
        refine E.ret ?_
        exact ret1 (.bool true) rfl rfl ⟨_, rfl, hE0.ext hE, rfl⟩  -- return 1 path F1

end Go.Proofs.Ytfdmndkoiheebaa
