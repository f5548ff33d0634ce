/- Play -/
import Derived.Test.YtfdmndkoiheebaaYard3
namespace Go.Proofs.Ytfdmndkoiheebaa
open Go Go.RowKit


/-- A yard, an index and an error number. -/
def PRes (w w' : World) (r : Value) (p : List (List Int) × Int × Nat × Int) : Prop := ∃ u, r = .tuple #[.agg #[u, .int .i64 p.2.1], .int .i64 (p.2.2.1 : Nat), .int .i64 p.2.2.2] ∧ YO w w' u p.2.1 p.1
def QRes (w' : World) (r : Value) (p : List (List Int) × Int × Nat × Int) : Prop := ∃ u us, r = .tuple #[.agg #[u, .int .i64 p.2.1], .int .i64 (p.2.2.1 : Nat), .int .i64 p.2.2.2] ∧ MO w' u us p.1
theorem PRes.zero {w w' : World} {k : Nat} {e : Int} : PRes w w' (.tuple #[.agg #[.slice none 0 0, .int .i64 0], .int .i64 (k : Nat), .int .i64 e]) ([], 0, k, e) := ⟨_, rfl, .inl ⟨rfl, rfl, rfl⟩⟩
theorem QRes.zero {w' : World} {k : Nat} {e : Int} : QRes w' (.tuple #[.agg #[.slice none 0 0, .int .i64 0], .int .i64 (k : Nat), .int .i64 e]) ([], 0, k, e) := ⟨_, _, rfl, MO.nil _⟩

set_option maxHeartbeats 1600000 in
theorem yPlay (w : World) {v vm : Value} {h : Int} {us : List Value} {xss : List (List Int)} {ms : List (Int × Int)} (hm : Mat w v us xss) (hms : Moves w vm ms) (hml : ms.length ≤ 9223372036854775807) (hl : xss.length < 1000000) (hx : ∀ xs ∈ xss, xs.length < 1000000) :
    Calls Try.prog 31 #[.agg #[v, .int .i64 h], vm] w (Ret fun r w' => Ext w w' ∧ PRes w w' r (playR xss h ms)) := by
  cases hR : rightB xss h
  rotate_left
  rcases Nat.lt_or_ge 10000 ms.length with hq | hq
  · refine calls_E (args := [.agg #[v, .int .i64 h], vm]) 40 Try.func31 rfl rfl (by simp) ?_
    have hE : Ext w w := Upd.refl w
    refine E.seq ?_
    refine E.regionP rfl ?_  -- region 0
    refine R.box rfl nofun ?_  -- 2 := box 24 ('tmp', 0)
    intro b2 w1 hb2 hx1 hB2
    replace hb2 := Nat.le_trans hE.size hb2
    replace hE := hE.ext hx1
    replace hB2 : Blk _ b2 24 #[v, .int .i64 h] := hB2
    refine R.alloc t24 nofun ?_  -- 4 := alloc 24
    intro b4 w2 hb4 hx2 hB4
    have ne2_4 : b2 ≠ b4 := by have := hB2.lt; omega
    replace hb4 := Nat.le_trans hE.size hb4
    replace hB2 := hB2.ext hx2
    replace hE := hE.ext hx2
    replace hB4 : Blk _ b4 24 #[.slice none 0 0, .int .i64 0] := hB4
    refine R.assign ?_  -- 5 := assign ('const', ('int', ('i64',), 0))
    refine R.assign ?_  -- 6 := assign ('const', ('int', ('i64',), 0))
    refine R.nil ?_
    refine E.seq ?_
    refine E.block ?_  -- block 0
    refine E.seq ?_
    refine E.regionP rfl ?_  -- region 1
    refine R.loadA t24 hB2 rfl rfl rfl trivial ?_  -- 12 := load 24 ('tmp', 2)
    refine R.callE1 ent27 (right _ (hm.ext hE) hl hx) rfl nofun ?_  -- 13 := call {'callee': ('value', ('func', 27)), 'args': [('tmp', 12)], 'argTypes': [24]}
    rintro v13 w3 hx3 rfl
    rw [hR]
    replace hB2 := hB2.ext hx3
    replace hB4 := hB4.ext hx3
    replace hE := hE.ext hx3
    refine R.not rfl ?_  -- 14 := unOp ('not',) 4 ('tmp', 13)
    refine R.assign ?_  -- 11 := assign ('tmp', 14)
    refine R.nil ?_
    refine E.condF rfl ?_  -- cond t11
    refine E.seq ?_
    refine E.regionP rfl ?_  -- region 3
    refine R.move ?_  -- 17 := move ('tmp', 1)
    refine R.len Try.underlying48 hms rfl ?_  -- 18 := call {'callee': ('builtin', ('len',)), 'args': [('tmp', 17)], 'argTypes': [48]}
    refine R.gtr (b := true) rfl rfl (decide_eq_true (by omega)) ?_  -- 19 := binOp ('gtr',) 3 ('tmp', 18) ('const', ('int', ('i64',), 10000)) 3
    refine R.assign ?_  -- 16 := assign ('tmp', 19)
    refine R.nil ?_
    refine E.condT rfl ?_  -- cond t16
    refine E.seq ?_
    refine E.regionP rfl ?_  -- region 4
    refine R.build build24_0 rfl ?_  -- 20 := build 24 []
    refine R.storeA t24 hB4 rfl rfl rfl rfl (ones2 rfl rfl) nofun ?_  -- None := store 24 ('tmp', 4) ('tmp', 20)
    intro w4 hU4 hs4 hN4
    replace hB2 := hB2.up hU4 (fun h => ne2_4 h)
    replace hE := hE.own hU4 hb4
    replace hB4 : Blk _ b4 24 #[.slice none 0 0, .int .i64 0] := hN4
    clear hN4
    refine R.assign ?_  -- 5 := assign ('const', ('int', ('i64',), 0))
    refine R.assign ?_  -- 6 := assign ('const', ('int', ('i64',), 5))
    refine R.nil ?_
    refine E.ret ?_
    refine retA2 (.int .i64 ((0 : Nat) : Int)) (.int .i64 5) t24 hB4 rfl rfl rfl rfl rfl ⟨_, rfl, hE, ?_⟩  -- return 0 path 
    rw [show playR xss h ms = ([], 0, 0, 5) by simp [playR, hR, hq]]
    exact PRes.zero
  · obtain ⟨H, rfl, hH0, hH6, hl30, hl1, hxH⟩ := rightB_nat hR
    refine calls_E (args := [.agg #[v, .int .i64 H], vm]) 40 Try.func31 rfl rfl (by simp) ?_
    have hE : Ext w w := Upd.refl w
    refine E.seq ?_
    refine E.regionP rfl ?_  -- region 0
    refine R.box rfl nofun ?_  -- 2 := box 24 ('tmp', 0)
    intro b2 w1 hb2 hx1 hB2
    replace hb2 := Nat.le_trans hE.size hb2
    replace hE := hE.ext hx1
    replace hB2 : Blk _ b2 24 #[v, .int .i64 H] := hB2
    refine R.alloc t24 nofun ?_  -- 4 := alloc 24
    intro b4 w2 hb4 hx2 hB4
    have ne2_4 : b2 ≠ b4 := by have := hB2.lt; omega
    replace hb4 := Nat.le_trans hE.size hb4
    replace hB2 := hB2.ext hx2
    replace hE := hE.ext hx2
    replace hB4 : Blk _ b4 24 #[.slice none 0 0, .int .i64 0] := hB4
    refine R.assign ?_  -- 5 := assign ('const', ('int', ('i64',), 0))
    refine R.assign ?_  -- 6 := assign ('const', ('int', ('i64',), 0))
    refine R.nil ?_
    refine E.seq ?_
    refine E.block ?_  -- block 0
    refine E.seq ?_
    refine E.regionP rfl ?_  -- region 1
    refine R.loadA t24 hB2 rfl rfl rfl trivial ?_  -- 12 := load 24 ('tmp', 2)
    refine R.callE1 ent27 (right _ (hm.ext hE) hl hx) rfl nofun ?_  -- 13 := call {'callee': ('value', ('func', 27)), 'args': [('tmp', 12)], 'argTypes': [24]}
    rintro v13 w3 hx3 rfl
    rw [hR]
    replace hB2 := hB2.ext hx3
    replace hB4 := hB4.ext hx3
    replace hE := hE.ext hx3
    refine R.not rfl ?_  -- 14 := unOp ('not',) 4 ('tmp', 13)
    refine R.assign ?_  -- 11 := assign ('tmp', 14)
    refine R.nil ?_
    refine E.condF rfl ?_  -- cond t11
    refine E.seq ?_
    refine E.regionP rfl ?_  -- region 3
    refine R.move ?_  -- 17 := move ('tmp', 1)
    refine R.len Try.underlying48 hms rfl ?_  -- 18 := call {'callee': ('builtin', ('len',)), 'args': [('tmp', 17)], 'argTypes': [48]}
    refine R.gtr (b := false) rfl rfl (decide_eq_false (by omega)) ?_  -- 19 := binOp ('gtr',) 3 ('tmp', 18) ('const', ('int', ('i64',), 10000)) 3
    refine R.assign ?_  -- 16 := assign ('tmp', 19)
    refine R.nil ?_
    refine E.condF rfl ?_  -- cond t16
    refine E.skip ?_
    refine E.seq ?_
    refine E.regionP rfl ?_  -- region 5
    refine R.loadA t24 hB2 rfl rfl rfl trivial ?_  -- 21 := load 24 ('tmp', 2)
    refine R.callE1 ent64 (copied _ (hm.ext hE) hH0 hH6 hl30 hxH) rfl nofun ?_  -- 22 := call {'callee': ('value', ('func', 64)), 'args': [('tmp', 21)], 'argTypes': [24]}
    rintro v22 w4 hx4 ⟨u22, ba22, us22, cur22, rfl, hP22, hf22, hba22⟩
    replace hf22 := hf22.mono hE.size
    replace hba22 := Nat.le_trans hE.size hba22
    replace hB2 := hB2.ext hx4
    replace hB4 := hB4.ext hx4
    replace hE := hE.ext hx4
    refine R.alloc t24 nofun ?_  -- 7 := alloc 24
    intro b7 w5 hb7 hx5 hB7
    have ne2_7 : b2 ≠ b7 := by have := hB2.lt; omega
    have ne4_7 : b4 ≠ b7 := by have := hB4.lt; omega
    replace hb7 := Nat.le_trans hE.size hb7
    replace hP22 := hP22.ext hx5
    replace hB2 := hB2.ext hx5
    replace hB4 := hB4.ext hx5
    replace hE := hE.ext hx5
    replace hB7 : Blk _ b7 24 #[.slice none 0 0, .int .i64 0] := hB7
    refine R.storeA t24 hB7 rfl rfl rfl rfl (ones2 hP22.outer.one rfl) nofun ?_  -- None := store 24 ('tmp', 7) ('tmp', 22)
    intro w6 hU6 hs6 hN6
    replace hP22 := hP22.upT hU6 hB7 (by decide)
    replace hB2 := hB2.up hU6 (fun h => ne2_7 h)
    replace hB4 := hB4.up hU6 (fun h => ne4_7 h)
    replace hE := hE.own hU6 hb7
    replace hB7 : Blk _ b7 24 #[u22, .int .i64 H] := hN6
    clear hN6
    refine R.nil ?_
    refine E.seq ?_
    refine E.seq ?_
    refine E.regionP rfl ?_  -- region 6
    refine R.move ?_  -- 23 := move ('tmp', 1)
    refine R.len Try.underlying48 hms rfl ?_  -- 24 := call {'callee': ('builtin', ('len',)), 'args': [('tmp', 23)], 'argTypes': [48]}
    refine R.move ?_  -- 25 := move ('const', ('int', ('i64',), 0))
    refine R.nil ?_
    refine E.block ?_  -- block 1
    refine E.loop (fun n e wr => ∃ (i : Nat) (xs1 : List (List Int)) (us1 : List Value) (cur1 : Array Value), n = ms.length - i ∧ i ≤ ms.length ∧ Ext w wr ∧ playL H xss 0 ms = playL H xs1 i (ms.drop i) ∧ xs1.length ≤ 30 ∧ PY wr u22 H ba22 us1 cur1 xs1 ∧ Blk wr b2 24 #[v, .int .i64 H] ∧ Blk wr b4 24 #[.slice none 0 0, .int .i64 0] ∧ Blk wr b7 24 #[u22, .int .i64 H] ∧ Has e [(2, .pointer (some ⟨b2, 0, none⟩)), (4, .pointer (some ⟨b4, 0, none⟩)), (7, .pointer (some ⟨b7, 0, none⟩)), (23, vm), (24, .int .i64 ms.length), (25, .int .i64 i)]) (ms.length) ?_ ?_
    · exact ⟨0, _, _, _, rfl, Nat.zero_le _, hE, rfl, hl30, hP22, hB2, hB4, hB7, rfl, rfl, rfl, rfl, rfl, rfl, trivial⟩
    · rintro n e wr ⟨i, xs1, us1, cur1, rfl, hi, hE, hpl, hxl, hP, hB2, hB4, hB7, hH⟩
      obtain ⟨e, rfl⟩ := hH.ex
      clear hH
      refine E.seq ?_
      refine E.regionP rfl ?_  -- region 7
      refine R.lss rfl rfl rfl ?_  -- 26 := binOp ('lss',) 3 ('tmp', 25) ('tmp', 24) 3
      refine R.nil ?_
      refine E.seq ?_
      refine E.cond rfl (fun hc26 => ?_) (fun hc26 => ?_)  -- cond t26
      · replace hc26 := dT hc26
        have hi1 : i < ms.length := by omega
        refine E.skip ?_
        refine E.seq ?_
        refine E.block ?_  -- block 2
        refine E.seq ?_
        refine E.regionP rfl ?_  -- region 8
        refine R.move ?_  -- 27 := move ('tmp', 25)
        refine R.ix Try.underlying48 t30 (by decide) hms rfl rfl (by omega) ?_  -- 28 := indexAddr 48 ('tmp', 23) ('tmp', 25)
        refine R.ldM t30 hms hE (by omega) rfl rfl (fun _ _ => trivial) ?_  -- 29 := load 30 ('tmp', 28)
        refine R.alloc t30 nofun ?_  -- 9 := alloc 30
        intro b9 w7 hb9 hx7 hB9
        replace hb9 := Nat.le_trans hE.size hb9
        replace hP := hP.ext hx7
        replace hB2 := hB2.ext hx7
        replace hB4 := hB4.ext hx7
        replace hB7 := hB7.ext hx7
        replace hE := hE.ext hx7
        replace hB9 : Blk _ b9 30 #[.int .i64 0, .int .i64 0] := hB9
        refine R.assign ?_  -- 8 := assign ('tmp', 27)
        refine R.storeA t30 hB9 rfl rfl rfl rfl (ones2 rfl rfl) nofun ?_  -- None := store 30 ('tmp', 9) ('tmp', 29)
        intro w8 hU8 hs8 hN8
        replace hP := hP.upT hU8 hB9 (by decide)
        replace hB2 := hB2.upT hU8 hB9 (by decide)
        replace hB4 := hB4.upT hU8 hB9 (by decide)
        replace hB7 := hB7.upT hU8 hB9 (by decide)
        replace hE := hE.own hU8 hb9
        replace hB9 : Blk _ b9 30 #[.int .i64 ms[i].1, .int .i64 ms[i].2] := hN8
        clear hN8
        refine R.nil ?_
        refine E.seq ?_
        refine E.regionP rfl ?_  -- region 9
        refine R.loadA t24 hB7 rfl rfl rfl trivial ?_  -- 30 := load 24 ('tmp', 7)
        refine R.loadA t30 hB9 rfl rfl rfl trivial ?_  -- 31 := load 30 ('tmp', 9)
        refine R.call2 ent67 (shift _ hP hH6 hxl) rfl rfl ?_  -- 32 := call {'callee': ('value', ('func', 67)), 'args': [('tmp', 30), ('tmp', 31)], 'argTypes': [24, 30]}
        rintro v32 w32 ⟨xss2, us2, cur2, rfl, hU32, hxs2, hP2⟩
        refine ⟨nofun, ?_⟩
        replace hB2 := hB2.up hU32 (fun h => h.elim (hB2.ne hP.all (by decide)) (hB2.ne_vblk hP.outer (by decide)))
        replace hB4 := hB4.up hU32 (fun h => h.elim (hB4.ne hP.all (by decide)) (hB4.ne_vblk hP.outer (by decide)))
        replace hB7 := hB7.up hU32 (fun h => h.elim (hB7.ne hP.all (by decide)) (hB7.ne_vblk hP.outer (by decide)))
        replace hB9 := hB9.up hU32 (fun h => h.elim (hB9.ne hP.all (by decide)) (hB9.ne_vblk hP.outer (by decide)))
        replace hE := hE.trans hU32 (fun b hb h => by rcases h with rfl | h; (· omega); (· have := hf22 b h; omega))
        replace hP := hP2
        clear hP2
        refine R.assign ?_  -- 10 := assign ('tmp', 32)
        refine R.nil ?_
        refine E.seq ?_
        refine E.regionP rfl ?_  -- region 10
        refine R.move ?_  -- 33 := move ('tmp', 10)
        refine R.neq rfl rfl rfl ?_  -- 34 := binOp ('neq',) 38 ('tmp', 33) ('const', ('int', ('i64',), 0)) 38
        refine R.nil ?_
        refine E.cond rfl (fun hc34 => ?_) (fun hc34 => ?_)  -- cond t34
        · replace hc34 := nT hc34
          rw [playL_drop hi1, if_neg hc34] at hpl
          refine E.seq ?_
          refine E.regionP rfl ?_  -- region 11
          refine R.build build24_0 rfl ?_  -- 35 := build 24 []
          refine R.move ?_  -- 36 := move ('tmp', 8)
          refine R.move ?_  -- 37 := move ('tmp', 10)
          refine R.storeA t24 hB4 rfl rfl rfl rfl (ones2 rfl rfl) nofun ?_  -- None := store 24 ('tmp', 4) ('tmp', 35)
          intro w9 hU9 hs9 hN9
          replace hP := hP.upT hU9 hB4 (by decide)
          replace hB2 := hB2.up hU9 (fun h => ne2_4 h)
          replace hB7 := hB7.up hU9 (fun h => ne4_7 h.symm)
          replace hB9 := hB9.upT hU9 hB4 (by decide)
          replace hE := hE.own hU9 hb4
          replace hB4 : Blk _ b4 24 #[.slice none 0 0, .int .i64 0] := hN9
          clear hN9
          refine R.assign ?_  -- 5 := assign ('tmp', 36)
          refine R.assign ?_  -- 6 := assign ('tmp', 37)
          refine R.nil ?_
          refine E.ret ?_
          refine retA2 (.int .i64 (i : Nat)) (.int .i64 (shiftL xs1 H ms[i].1 ms[i].2).2) t24 hB4 rfl rfl rfl rfl rfl ⟨_, rfl, hE, ?_⟩  -- return 0 path TT
          rw [show playR xss H ms = ([], 0, i, (shiftL xs1 H ms[i].1 ms[i].2).2) by
            simp only [playR, hR, Int.toNat_natCast]
            rw [if_neg (by simp), if_neg (by omega), hpl, if_neg hc34]]
          exact PRes.zero
        · replace hc34 := nF hc34
          rw [playL_drop hi1, if_pos hc34] at hpl
          refine E.skip ?_
          refine E.regionP rfl ?_  -- region 12
          refine R.addN (n := 1) rfl rfl (by omega) ?_  -- 38 := binOp ('add',) 3 ('tmp', 25) ('const', ('int', ('i64',), 1)) 3
          refine R.move ?_  -- 25 := move ('tmp', 38)
          refine R.nil ?_
          subst hxs2  -- round end 0 path TF
          exact ⟨ms.length - (i + 1), by omega, i + 1, _, _, _, rfl, by omega, hE, hpl, by rw [shiftL_len]; exact hxl, hP, hB2, hB4, hB7, rfl, rfl, rfl, rfl, rfl, rfl, trivial⟩
      · replace hc26 := dF hc26
        refine E.exit ?_  -- exit 1
        refine E.seq ?_
        refine E.regionP rfl ?_  -- region 13
        refine R.loadA t24 hB7 rfl rfl rfl trivial ?_  -- 39 := load 24 ('tmp', 7)
        refine R.storeA t24 hB4 rfl rfl rfl rfl (ones2 hP.outer.one rfl) nofun ?_  -- None := store 24 ('tmp', 4) ('tmp', 39)
        intro w10 hU10 hs10 hN10
        replace hP := hP.upT hU10 hB4 (by decide)
        replace hB2 := hB2.up hU10 (fun h => ne2_4 h)
        replace hB7 := hB7.up hU10 (fun h => ne4_7 h.symm)
        replace hE := hE.own hU10 hb4
        replace hB4 : Blk _ b4 24 #[u22, .int .i64 H] := hN10
        clear hN10
        refine R.assign ?_  -- 5 := assign ('const', ('int', ('i64',), 0))
        refine R.assign ?_  -- 6 := assign ('const', ('int', ('i64',), 0))
        refine R.nil ?_
        refine E.ret ?_
        obtain rfl : i = ms.length := by omega  -- return 1 path F
        rw [List.drop_length] at hpl
        refine retA2 (.int .i64 0) (.int .i64 0) t24 hB4 rfl rfl rfl rfl rfl ⟨_, rfl, hE, ?_⟩
        rw [show playR xss H ms = (xs1, (H : Int), 0, 0) by
          simp only [playR, hR, Int.toNat_natCast]
          rw [if_neg (by simp), if_neg (by omega), hpl]; rfl]
        exact ⟨_, rfl, .inr ⟨H, _, _, _, rfl, hP, hf22, hba22⟩⟩
  · refine calls_E (args := [.agg #[v, .int .i64 h], vm]) 40 Try.func31 rfl rfl (by simp) ?_
    have hE : Ext w w := Upd.refl w
    refine E.seq ?_
    refine E.regionP rfl ?_  -- region 0
    refine R.box rfl nofun ?_  -- 2 := box 24 ('tmp', 0)
    intro b2 w1 hb2 hx1 hB2
    replace hb2 := Nat.le_trans hE.size hb2
    replace hE := hE.ext hx1
    replace hB2 : Blk _ b2 24 #[v, .int .i64 h] := hB2
    refine R.alloc t24 nofun ?_  -- 4 := alloc 24
    intro b4 w2 hb4 hx2 hB4
    have ne2_4 : b2 ≠ b4 := by have := hB2.lt; omega
    replace hb4 := Nat.le_trans hE.size hb4
    replace hB2 := hB2.ext hx2
    replace hE := hE.ext hx2
    replace hB4 : Blk _ b4 24 #[.slice none 0 0, .int .i64 0] := hB4
    refine R.assign ?_  -- 5 := assign ('const', ('int', ('i64',), 0))
    refine R.assign ?_  -- 6 := assign ('const', ('int', ('i64',), 0))
    refine R.nil ?_
    refine E.seq ?_
    refine E.block ?_  -- block 0
    refine E.seq ?_
    refine E.regionP rfl ?_  -- region 1
    refine R.loadA t24 hB2 rfl rfl rfl trivial ?_  -- 12 := load 24 ('tmp', 2)
    refine R.callE1 ent27 (right _ (hm.ext hE) hl hx) rfl nofun ?_  -- 13 := call {'callee': ('value', ('func', 27)), 'args': [('tmp', 12)], 'argTypes': [24]}
    rintro v13 w3 hx3 rfl
    rw [hR]
    replace hB2 := hB2.ext hx3
    replace hB4 := hB4.ext hx3
    replace hE := hE.ext hx3
    refine R.not rfl ?_  -- 14 := unOp ('not',) 4 ('tmp', 13)
    refine R.assign ?_  -- 11 := assign ('tmp', 14)
    refine R.nil ?_
    refine E.condT rfl ?_  -- cond t11
    refine E.seq ?_
    refine E.regionP rfl ?_  -- region 2
    refine R.build build24_0 rfl ?_  -- 15 := build 24 []
    refine R.storeA t24 hB4 rfl rfl rfl rfl (ones2 rfl rfl) nofun ?_  -- None := store 24 ('tmp', 4) ('tmp', 15)
    intro w4 hU4 hs4 hN4
    replace hB2 := hB2.up hU4 (fun h => ne2_4 h)
    replace hE := hE.own hU4 hb4
    replace hB4 : Blk _ b4 24 #[.slice none 0 0, .int .i64 0] := hN4
    clear hN4
    refine R.assign ?_  -- 5 := assign ('const', ('int', ('i64',), 0))
    refine R.assign ?_  -- 6 := assign ('const', ('int', ('i64',), 2))
    refine R.nil ?_
    refine E.ret ?_
    refine retA2 (.int .i64 ((0 : Nat) : Int)) (.int .i64 2) t24 hB4 rfl rfl rfl rfl rfl ⟨_, rfl, hE, ?_⟩  -- return 0 path 
    rw [show playR xss h ms = ([], 0, 0, 2) by simp [playR, hR]]
    exact PRes.zero


theorem rShiftP (w : World) {v : Value} {h f t h' e : Int} {us : List Value} {xss l : List (List Int)} (hm : Mat w v us xss) (hl : xss.length < 100000) (hx : ∀ xs ∈ xss, xs.length ≤ 10) (hp : shiftR xss h f t = (l, h', e)) :
    Calls Try.prog 58 #[.agg #[v, .int .i64 h], .agg #[.int .i64 f, .int .i64 t]] w (Ret fun r w' => Ext w w' ∧ ∃ u us, r = .tuple #[.agg #[u, .int .i64 h'], .int .i64 e] ∧ MO w' u us l) := by
  have := rShift w (h := h) (f := f) (t := t) hm hl hx; rw [hp] at this; exact this

set_option maxHeartbeats 1600000 in
theorem rPlay (w : World) {v vm : Value} {h : Int} {us : List Value} {xss : List (List Int)} {ms : List (Int × Int)} (hm : Mat w v us xss) (hms : Moves w vm ms) (hml : ms.length ≤ 9223372036854775807) (hl : xss.length < 100000) (hx : ∀ xs ∈ xss, xs.length ≤ 10) :
    Calls Try.prog 32 #[.agg #[v, .int .i64 h], vm] w (Ret fun r w' => Ext w w' ∧ QRes w' r (playR xss h ms)) := by
  cases hR : rightB xss h
  rotate_left
  rcases Nat.lt_or_ge 10000 ms.length with hq | hq
  · refine calls_E (args := [.agg #[v, .int .i64 h], vm]) 43 Try.func32 rfl rfl (by simp) ?_
    have hE : Ext w w := Upd.refl w
    refine E.seq ?_
    refine E.regionP rfl ?_  -- region 0
    refine R.box rfl nofun ?_  -- 2 := box 54 ('tmp', 0)
    intro b2 w1 hb2 hx1 hB2
    replace hb2 := Nat.le_trans hE.size hb2
    replace hE := hE.ext hx1
    replace hB2 : Blk _ b2 54 #[v, .int .i64 h] := hB2
    refine R.alloc t54 nofun ?_  -- 4 := alloc 54
    intro b4 w2 hb4 hx2 hB4
    have ne2_4 : b2 ≠ b4 := by have := hB2.lt; omega
    replace hb4 := Nat.le_trans hE.size hb4
    replace hB2 := hB2.ext hx2
    replace hE := hE.ext hx2
    replace hB4 : Blk _ b4 54 #[.slice none 0 0, .int .i64 0] := hB4
    refine R.assign ?_  -- 5 := assign ('const', ('int', ('i64',), 0))
    refine R.assign ?_  -- 6 := assign ('const', ('int', ('i64',), 0))
    refine R.nil ?_
    refine E.seq ?_
    refine E.seq ?_
    refine E.regionP rfl ?_  -- region 1
    refine R.loadA t54 hB2 rfl rfl rfl trivial ?_  -- 11 := load 54 ('tmp', 2)
    refine R.callE1 ent55 (rRight _ (hm.ext hE) hl hx) rfl nofun ?_  -- 12 := call {'callee': ('value', ('func', 55)), 'args': [('tmp', 11)], 'argTypes': [54]}
    rintro v12 w3 hx3 rfl
    rw [hR]
    replace hB2 := hB2.ext hx3
    replace hB4 := hB4.ext hx3
    replace hE := hE.ext hx3
    refine R.not rfl ?_  -- 13 := unOp ('not',) 4 ('tmp', 12)
    refine R.nil ?_
    refine E.condF rfl ?_  -- cond t13
    refine E.skip ?_
    refine E.seq ?_
    refine E.seq ?_
    refine E.regionP rfl ?_  -- region 3
    refine R.move ?_  -- 15 := move ('tmp', 1)
    refine R.len Try.underlying52 hms rfl ?_  -- 16 := call {'callee': ('builtin', ('len',)), 'args': [('tmp', 15)], 'argTypes': [52]}
    refine R.gtr (b := true) rfl rfl (decide_eq_true (by omega)) ?_  -- 17 := binOp ('gtr',) 3 ('tmp', 16) ('const', ('int', ('i64',), 10000)) 3
    refine R.nil ?_
    refine E.condT rfl ?_  -- cond t17
    refine E.seq ?_
    refine E.regionP rfl ?_  -- region 4
    refine R.build build54_0 rfl ?_  -- 18 := build 54 []
    refine R.storeA t54 hB4 rfl rfl rfl rfl (ones2 rfl rfl) nofun ?_  -- None := store 54 ('tmp', 4) ('tmp', 18)
    intro w4 hU4 hs4 hN4
    replace hB2 := hB2.up hU4 (fun h => ne2_4 h)
    replace hE := hE.own hU4 hb4
    replace hB4 : Blk _ b4 54 #[.slice none 0 0, .int .i64 0] := hN4
    clear hN4
    refine R.assign ?_  -- 5 := assign ('const', ('int', ('i64',), 0))
    refine R.assign ?_  -- 6 := assign ('const', ('int', ('i64',), 5))
    refine R.nil ?_
    refine E.ret ?_
    refine retA2 (.int .i64 ((0 : Nat) : Int)) (.int .i64 5) t54 hB4 rfl rfl rfl rfl rfl ⟨_, rfl, hE, ?_⟩  -- return 0 path 
    rw [show playR xss h ms = ([], 0, 0, 5) by simp [playR, hR, hq]]
    exact QRes.zero
  · obtain ⟨H, rfl, hH0, hH6, hl30, hl1, hxH⟩ := rightB_nat hR
    refine calls_E (args := [.agg #[v, .int .i64 H], vm]) 43 Try.func32 rfl rfl (by simp) ?_
    have hE : Ext w w := Upd.refl w
    refine E.seq ?_
    refine E.regionP rfl ?_  -- region 0
    refine R.box rfl nofun ?_  -- 2 := box 54 ('tmp', 0)
    intro b2 w1 hb2 hx1 hB2
    replace hb2 := Nat.le_trans hE.size hb2
    replace hE := hE.ext hx1
    replace hB2 : Blk _ b2 54 #[v, .int .i64 H] := hB2
    refine R.alloc t54 nofun ?_  -- 4 := alloc 54
    intro b4 w2 hb4 hx2 hB4
    have ne2_4 : b2 ≠ b4 := by have := hB2.lt; omega
    replace hb4 := Nat.le_trans hE.size hb4
    replace hB2 := hB2.ext hx2
    replace hE := hE.ext hx2
    replace hB4 : Blk _ b4 54 #[.slice none 0 0, .int .i64 0] := hB4
    refine R.assign ?_  -- 5 := assign ('const', ('int', ('i64',), 0))
    refine R.assign ?_  -- 6 := assign ('const', ('int', ('i64',), 0))
    refine R.nil ?_
    refine E.seq ?_
    refine E.seq ?_
    refine E.regionP rfl ?_  -- region 1
    refine R.loadA t54 hB2 rfl rfl rfl trivial ?_  -- 11 := load 54 ('tmp', 2)
    refine R.callE1 ent55 (rRight _ (hm.ext hE) hl hx) rfl nofun ?_  -- 12 := call {'callee': ('value', ('func', 55)), 'args': [('tmp', 11)], 'argTypes': [54]}
    rintro v12 w3 hx3 rfl
    rw [hR]
    replace hB2 := hB2.ext hx3
    replace hB4 := hB4.ext hx3
    replace hE := hE.ext hx3
    refine R.not rfl ?_  -- 13 := unOp ('not',) 4 ('tmp', 12)
    refine R.nil ?_
    refine E.condF rfl ?_  -- cond t13
    refine E.skip ?_
    refine E.seq ?_
    refine E.seq ?_
    refine E.regionP rfl ?_  -- region 3
    refine R.move ?_  -- 15 := move ('tmp', 1)
    refine R.len Try.underlying52 hms rfl ?_  -- 16 := call {'callee': ('builtin', ('len',)), 'args': [('tmp', 15)], 'argTypes': [52]}
    refine R.gtr (b := false) rfl rfl (decide_eq_false (by omega)) ?_  -- 17 := binOp ('gtr',) 3 ('tmp', 16) ('const', ('int', ('i64',), 10000)) 3
    refine R.nil ?_
    refine E.condF rfl ?_  -- cond t17
    refine E.skip ?_
    refine E.seq ?_
    refine E.regionP rfl ?_  -- region 5
    refine R.loadA t54 hB2 rfl rfl rfl trivial ?_  -- 19 := load 54 ('tmp', 2)
    refine R.callE3 ent68 (rWith _ (bs := []) (hm.ext hE) (Row.nil _ _) (by omega) (fun xs h => by have := hx xs h; omega) (by simp)) rfl rfl rfl nofun ?_  -- 20 := call {'callee': ('value', ('func', 68)), 'args': [('tmp', 19), ('const', ('int', ('i64',), -1)), ('const', ('slice', ('none',), 0, 0))], 'argTypes': [54, 3, 35]}
    rintro v20 w4 hx4 ⟨u20, us20, rfl, hM20, hf20⟩
    rw [show withL xss (-1) [] = xss by simp [withL]] at hM20
    replace hB2 := hB2.ext hx4
    replace hB4 := hB4.ext hx4
    replace hE := hE.ext hx4
    refine R.alloc t54 nofun ?_  -- 7 := alloc 54
    intro b7 w5 hb7 hx5 hB7
    have ne2_7 : b2 ≠ b7 := by have := hB2.lt; omega
    have ne4_7 : b4 ≠ b7 := by have := hB4.lt; omega
    replace hb7 := Nat.le_trans hE.size hb7
    replace hM20 := hM20.ext hx5
    replace hB2 := hB2.ext hx5
    replace hB4 := hB4.ext hx5
    replace hE := hE.ext hx5
    replace hB7 : Blk _ b7 54 #[.slice none 0 0, .int .i64 0] := hB7
    refine R.storeA t54 hB7 rfl rfl rfl rfl (ones2 hM20.outer.one rfl) nofun ?_  -- None := store 54 ('tmp', 7) ('tmp', 20)
    intro w6 hU6 hs6 hN6
    replace hM20 := hM20.upT hU6 hB7 (by decide)
    replace hB2 := hB2.up hU6 (fun h => ne2_7 h)
    replace hB4 := hB4.up hU6 (fun h => ne4_7 h)
    replace hE := hE.own hU6 hb7
    replace hB7 : Blk _ b7 54 #[u20, .int .i64 H] := hN6
    clear hN6
    refine R.nil ?_
    refine E.seq ?_
    refine E.seq ?_
    refine E.regionP rfl ?_  -- region 6
    refine R.assign ?_  -- 8 := assign ('const', ('int', ('i64',), 0))
    refine R.nil ?_
    refine E.block ?_  -- block 0
    refine E.loop (fun n e wr => ∃ (i : Nat) (xs1 : List (List Int)) (us1 : List Value) (ov : Value), n = ms.length - i ∧ i ≤ ms.length ∧ Ext w wr ∧ playL H xss 0 ms = playL H xs1 i (ms.drop i) ∧ RightP xs1 H ∧ MO wr ov us1 xs1 ∧ Blk wr b2 54 #[v, .int .i64 H] ∧ Blk wr b4 54 #[.slice none 0 0, .int .i64 0] ∧ Blk wr b7 54 #[ov, .int .i64 H] ∧ Has e [(1, vm), (2, .pointer (some ⟨b2, 0, none⟩)), (4, .pointer (some ⟨b4, 0, none⟩)), (7, .pointer (some ⟨b7, 0, none⟩)), (8, .int .i64 i)]) (ms.length) ?_ ?_
    · exact ⟨0, _, _, _, rfl, Nat.zero_le _, hE, rfl, rightB_true.1 hR, hM20, hB2, hB4, hB7, rfl, rfl, rfl, rfl, rfl, trivial⟩
    · rintro n e wr ⟨i, xs1, us1, ov, rfl, hi, hE, hpl, hQ, hM, hB2, hB4, hB7, hH⟩
      obtain ⟨e, rfl⟩ := hH.ex
      clear hH
      refine E.seq ?_
      refine E.seq ?_
      refine E.regionP rfl ?_  -- region 7
      refine R.move ?_  -- 21 := move ('tmp', 8)
      refine R.move ?_  -- 22 := move ('tmp', 1)
      refine R.len Try.underlying52 hms rfl ?_  -- 23 := call {'callee': ('builtin', ('len',)), 'args': [('tmp', 22)], 'argTypes': [52]}
      refine R.lss rfl rfl rfl ?_  -- 24 := binOp ('lss',) 3 ('tmp', 21) ('tmp', 23) 3
      refine R.nil ?_
      refine E.cond rfl (fun hc24 => ?_) (fun hc24 => ?_)  -- cond t24
      · replace hc24 := dT hc24
        have hi1 : i < ms.length := by omega
        have hQl := hQ.2.2.2.1
        refine E.skip ?_
        refine E.seq ?_
        refine E.block ?_  -- block 1
        refine E.seq ?_
        rcases Decidable.em ((shiftL xs1 H ms[i].1 ms[i].2).2 = 0) with hs | hs
        · have hW0 := hE.size
          refine E.regionF (fun c x => x < wr.heap.size ∧ (c = false → True)) [] [] mixed rfl (by kernel_rfl) (fun _ _ h => h.1) ?_  -- region 9
          intro w7 hx7 hh7
          replace hM := hM.ext hx7
          replace hB2 := hB2.ext hx7
          replace hB4 := hB4.ext hx7
          replace hB7 := hB7.ext hx7
          replace hE := hE.ext hx7
          have hEs : Ext w7 w7 := Upd.refl _
          have hS0 := hx7.size
          have hSB : ∀ b, b < w7.heap.size → b < wr.heap.size ∧ (true = false → (fun x => True) b) := fun b hb => ⟨by rw [hh7] at hb; exact hb, nofun⟩
          have hSA : ∀ b, b < w7.heap.size → (fun x => True) b → b < wr.heap.size ∧ (false = false → (fun x => True) b) := fun b hb h => ⟨by rw [hh7] at hb; exact hb, fun _ => h⟩
          have hSO : ∀ b, b < w.heap.size → b < wr.heap.size ∧ (false = false → (fun x => True) b) := fun b hb => hSA b (Nat.lt_of_lt_of_le hb hE.size) (trivial)
          have hMs := hM
          have hB2s := hB2
          have hB4s := hB4
          have hB7s := hB7
          refine G.q rfl (Nat.le_of_ble_eq_true rfl) ?_
          refine R.loadA t54 (hB7s.ext hEs) rfl rfl rfl (hSA b7 hB7s.lt (trivial)) ?_  -- 28 := load 54 ('tmp', 7)
          refine R.nil ?_
          refine G.q rfl (Nat.le_of_ble_eq_true rfl) ?_
          refine R.move ?_  -- 29 := move ('tmp', 1)
          refine R.nil ?_
          refine G.q rfl (Nat.le_of_ble_eq_true rfl) ?_
          refine R.move ?_  -- 30 := move ('tmp', 8)
          refine R.nil ?_
          refine G.q rfl (Nat.le_of_ble_eq_true rfl) ?_
          refine R.ix Try.underlying52 t53 (by decide) hms rfl rfl (by omega) ?_  -- 31 := indexAddr 52 ('tmp', 29) ('tmp', 30)
          refine R.nil ?_
          refine G.q rfl (Nat.le_of_ble_eq_true rfl) ?_
          refine R.ldM t53 hms hE (by omega) rfl rfl hSO ?_  -- 32 := load 53 ('tmp', 31)
          refine R.nil ?_
          refine G.l rfl rfl (.inr rfl) (Nat.le_of_ble_eq_true rfl) ?_
          intro w8 hx8
          replace hM := hM.ext hx8
          replace hB2 := hB2.ext hx8
          replace hB4 := hB4.ext hx8
          replace hB7 := hB7.ext hx8
          replace hE := hE.ext hx8
          replace hEs := hEs.ext hx8
          refine R.callE2 ent58 (rShiftP _ hM.mat (by omega) (hQ.fit).2 (hQ.shiftR_ok hs)) rfl rfl (fun _ _ hb => G.S1_lt (fun _ _ h => h.1) (Nat.le_trans hS0 hEs.size) hb) ?_  -- 33 := call {'callee': ('value', ('func', 58)), 'args': [('tmp', 28), ('tmp', 32)], 'argTypes': [54, 53]}
          rintro v33 w9 hx9 ⟨u33, us33, rfl, hM33⟩
          replace hM := hM.ext hx9
          replace hB2 := hB2.ext hx9
          replace hB4 := hB4.ext hx9
          replace hB7 := hB7.ext hx9
          replace hE := hE.ext hx9
          replace hEs := hEs.ext hx9
          refine R.nil ⟨hx9.size, ?_⟩
          intro K8 hK8 hN8
          refine G.q rfl (Nat.le_of_ble_eq_true rfl) ?_
          refine R.move ?_  -- 27 := move ('tmp', 33)
          refine R.nil ?_
          refine G.q rfl (Nat.le_of_ble_eq_true rfl) ?_
          refine R.extract rfl rfl ?_  -- 34 := extract ('tmp', 27) 0
          refine R.nil ?_
          refine G.q rfl (Nat.le_of_ble_eq_true rfl) ?_
          refine R.extract rfl rfl ?_  -- 35 := extract ('tmp', 27) 1
          refine R.nil ?_
          refine G.alloc t54 ?_  -- 9 := alloc 54
          intro w10 b9 K10 hx10 hb9 hn9 hK10 hk9 hB9
          have ne2_9 : b2 ≠ b9 := by have h1 := hB2s.lt; rw [hh7] at h1; omega
          have ne4_9 : b4 ≠ b9 := by have h1 := hB4s.lt; rw [hh7] at h1; omega
          have ne7_9 : b7 ≠ b9 := by have h1 := hB7s.lt; rw [hh7] at h1; omega
          have hn09 := hb9
          replace hb9 := Nat.le_trans hW0 hb9
          replace hM := hM.ext hx10
          replace hM33 := hM33.ext hx10
          replace hB2 := hB2.ext hx10
          replace hB4 := hB4.ext hx10
          replace hB7 := hB7.ext hx10
          replace hE := hE.ext hx10
          replace hEs := hEs.ext hx10
          replace hB9 : Blk _ b9 54 #[.slice none 0 0, .int .i64 0] := hB9
          refine G.l rfl rfl (.inr rfl) (Nat.le_of_ble_eq_true rfl) ?_
          intro w11 hx11
          replace hM := hM.ext hx11
          replace hM33 := hM33.ext hx11
          replace hB2 := hB2.ext hx11
          replace hB4 := hB4.ext hx11
          replace hB7 := hB7.ext hx11
          replace hB9 := hB9.ext hx11
          replace hE := hE.ext hx11
          replace hEs := hEs.ext hx11
          refine R.storeA t54 hB9 rfl rfl rfl rfl (ones2 hM33.outer.one rfl) (fun _ h => G.S1_new (fun _ _ h => h.1) hn09 hk9 h) ?_  -- None := store 54 ('tmp', 9) ('tmp', 34)
          intro w12 hU12 hs12 hN12
          replace hEs := hEs.trans hU12 (fun c hc h => by have h1 : c = b9 := h; rw [hh7] at hc; omega)
          replace hM := hM.upT hU12 hB9 (by decide)
          replace hM33 := hM33.upT hU12 hB9 (by decide)
          replace hB2 := hB2.up hU12 (fun h => ne2_9 h)
          replace hB4 := hB4.up hU12 (fun h => ne4_9 h)
          replace hB7 := hB7.up hU12 (fun h => ne7_9 h)
          replace hE := hE.own hU12 hb9
          replace hB9 : Blk _ b9 54 #[u33, .int .i64 H] := hN12
          clear hN12
          refine R.nil ⟨hU12.size, ?_⟩
          intro K11 hK11 hN11
          replace hk9 := hK11 _ hk9
          refine G.q rfl (Nat.le_of_ble_eq_true rfl) ?_
          refine R.assign ?_  -- 10 := assign ('tmp', 35)
          refine R.nil ?_
          refine G.nil ?_
          refine E.seq ?_
          refine E.seq ?_
          refine E.regionP rfl ?_  -- region 10
          refine R.move ?_  -- 36 := move ('tmp', 10)
          refine R.neq (b := false) rfl rfl (by simp) ?_  -- 37 := binOp ('neq',) 3 ('tmp', 36) ('const', ('int', ('i64',), 0)) 3
          refine R.nil ?_
          refine E.condF rfl ?_  -- cond t37
          refine E.skip ?_
          refine E.regionP rfl ?_  -- region 12
          refine R.loadA t54 hB9 rfl rfl rfl trivial ?_  -- 41 := load 54 ('tmp', 9)
          refine R.storeA t54 hB7 rfl rfl rfl rfl (ones2 hM33.outer.one rfl) nofun ?_  -- None := store 54 ('tmp', 7) ('tmp', 41)
          intro w13 hU13 hs13 hN13
          replace hM := hM.upT hU13 hB7 (by decide)
          replace hM33 := hM33.upT hU13 hB7 (by decide)
          replace hB2 := hB2.up hU13 (fun h => ne2_7 h)
          replace hB4 := hB4.up hU13 (fun h => ne4_7 h)
          replace hB9 := hB9.up hU13 (fun h => ne7_9 h.symm)
          replace hE := hE.own hU13 hb7
          replace hB7 : Blk _ b7 54 #[u33, .int .i64 H] := hN13
          clear hN13
          refine R.nil ?_
          refine E.regionP rfl ?_  -- region 8
          refine R.move ?_  -- 25 := move ('tmp', 8)
          refine R.addN (n := 1) rfl rfl (by omega) ?_  -- 26 := binOp ('add',) 3 ('tmp', 25) ('const', ('int', ('i64',), 1)) 3
          refine R.assign ?_  -- 8 := assign ('tmp', 26)
          refine R.nil ?_
          rw [playL_drop hi1, if_pos hs] at hpl  -- round end 0 path T0
          exact ⟨ms.length - (i + 1), by omega, i + 1, _, _, _, rfl, by omega, hE, hpl, hQ.shift hs, hM33, hB2, hB4, hB7, rfl, rfl, rfl, rfl, rfl, trivial⟩
        · have hW0 := hE.size
          refine E.regionF (fun c x => x < wr.heap.size ∧ (c = false → True)) [] [] mixed rfl (by kernel_rfl) (fun _ _ h => h.1) ?_  -- region 9
          intro w14 hx14 hh14
          replace hM := hM.ext hx14
          replace hB2 := hB2.ext hx14
          replace hB4 := hB4.ext hx14
          replace hB7 := hB7.ext hx14
          replace hE := hE.ext hx14
          have hEs : Ext w14 w14 := Upd.refl _
          have hS0 := hx14.size
          have hSB : ∀ b, b < w14.heap.size → b < wr.heap.size ∧ (true = false → (fun x => True) b) := fun b hb => ⟨by rw [hh14] at hb; exact hb, nofun⟩
          have hSA : ∀ b, b < w14.heap.size → (fun x => True) b → b < wr.heap.size ∧ (false = false → (fun x => True) b) := fun b hb h => ⟨by rw [hh14] at hb; exact hb, fun _ => h⟩
          have hSO : ∀ b, b < w.heap.size → b < wr.heap.size ∧ (false = false → (fun x => True) b) := fun b hb => hSA b (Nat.lt_of_lt_of_le hb hE.size) (trivial)
          have hMs := hM
          have hB2s := hB2
          have hB4s := hB4
          have hB7s := hB7
          refine G.q rfl (Nat.le_of_ble_eq_true rfl) ?_
          refine R.loadA t54 (hB7s.ext hEs) rfl rfl rfl (hSA b7 hB7s.lt (trivial)) ?_  -- 28 := load 54 ('tmp', 7)
          refine R.nil ?_
          refine G.q rfl (Nat.le_of_ble_eq_true rfl) ?_
          refine R.move ?_  -- 29 := move ('tmp', 1)
          refine R.nil ?_
          refine G.q rfl (Nat.le_of_ble_eq_true rfl) ?_
          refine R.move ?_  -- 30 := move ('tmp', 8)
          refine R.nil ?_
          refine G.q rfl (Nat.le_of_ble_eq_true rfl) ?_
          refine R.ix Try.underlying52 t53 (by decide) hms rfl rfl (by omega) ?_  -- 31 := indexAddr 52 ('tmp', 29) ('tmp', 30)
          refine R.nil ?_
          refine G.q rfl (Nat.le_of_ble_eq_true rfl) ?_
          refine R.ldM t53 hms hE (by omega) rfl rfl hSO ?_  -- 32 := load 53 ('tmp', 31)
          refine R.nil ?_
          refine G.l rfl rfl (.inr rfl) (Nat.le_of_ble_eq_true rfl) ?_
          intro w15 hx15
          replace hM := hM.ext hx15
          replace hB2 := hB2.ext hx15
          replace hB4 := hB4.ext hx15
          replace hB7 := hB7.ext hx15
          replace hE := hE.ext hx15
          replace hEs := hEs.ext hx15
          refine R.callE2 ent58 (rShiftP _ hM.mat (by omega) (hQ.fit).2 (hQ.shiftR_no hs)) rfl rfl (fun _ _ hb => G.S1_lt (fun _ _ h => h.1) (Nat.le_trans hS0 hEs.size) hb) ?_  -- 33 := call {'callee': ('value', ('func', 58)), 'args': [('tmp', 28), ('tmp', 32)], 'argTypes': [54, 53]}
          rintro v33 w16 hx16 ⟨u33, us33, rfl, hM33⟩
          replace hM := hM.ext hx16
          replace hB2 := hB2.ext hx16
          replace hB4 := hB4.ext hx16
          replace hB7 := hB7.ext hx16
          replace hE := hE.ext hx16
          replace hEs := hEs.ext hx16
          refine R.nil ⟨hx16.size, ?_⟩
          intro K15 hK15 hN15
          refine G.q rfl (Nat.le_of_ble_eq_true rfl) ?_
          refine R.move ?_  -- 27 := move ('tmp', 33)
          refine R.nil ?_
          refine G.q rfl (Nat.le_of_ble_eq_true rfl) ?_
          refine R.extract rfl rfl ?_  -- 34 := extract ('tmp', 27) 0
          refine R.nil ?_
          refine G.q rfl (Nat.le_of_ble_eq_true rfl) ?_
          refine R.extract rfl rfl ?_  -- 35 := extract ('tmp', 27) 1
          refine R.nil ?_
          refine G.alloc t54 ?_  -- 9 := alloc 54
          intro w17 b9 K17 hx17 hb9 hn9 hK17 hk9 hB9
          have ne2_9 : b2 ≠ b9 := by have h1 := hB2s.lt; rw [hh14] at h1; omega
          have ne4_9 : b4 ≠ b9 := by have h1 := hB4s.lt; rw [hh14] at h1; omega
          have ne7_9 : b7 ≠ b9 := by have h1 := hB7s.lt; rw [hh14] at h1; omega
          have hn09 := hb9
          replace hb9 := Nat.le_trans hW0 hb9
          replace hM := hM.ext hx17
          replace hM33 := hM33.ext hx17
          replace hB2 := hB2.ext hx17
          replace hB4 := hB4.ext hx17
          replace hB7 := hB7.ext hx17
          replace hE := hE.ext hx17
          replace hEs := hEs.ext hx17
          replace hB9 : Blk _ b9 54 #[.slice none 0 0, .int .i64 0] := hB9
          refine G.l rfl rfl (.inr rfl) (Nat.le_of_ble_eq_true rfl) ?_
          intro w18 hx18
          replace hM := hM.ext hx18
          replace hM33 := hM33.ext hx18
          replace hB2 := hB2.ext hx18
          replace hB4 := hB4.ext hx18
          replace hB7 := hB7.ext hx18
          replace hB9 := hB9.ext hx18
          replace hE := hE.ext hx18
          replace hEs := hEs.ext hx18
          refine R.storeA t54 hB9 rfl rfl rfl rfl (ones2 hM33.outer.one rfl) (fun _ h => G.S1_new (fun _ _ h => h.1) hn09 hk9 h) ?_  -- None := store 54 ('tmp', 9) ('tmp', 34)
          intro w19 hU19 hs19 hN19
          replace hEs := hEs.trans hU19 (fun c hc h => by have h1 : c = b9 := h; rw [hh14] at hc; omega)
          replace hM := hM.upT hU19 hB9 (by decide)
          replace hM33 := hM33.upT hU19 hB9 (by decide)
          replace hB2 := hB2.up hU19 (fun h => ne2_9 h)
          replace hB4 := hB4.up hU19 (fun h => ne4_9 h)
          replace hB7 := hB7.up hU19 (fun h => ne7_9 h)
          replace hE := hE.own hU19 hb9
          replace hB9 : Blk _ b9 54 #[u33, .int .i64 0] := hN19
          clear hN19
          refine R.nil ⟨hU19.size, ?_⟩
          intro K18 hK18 hN18
          replace hk9 := hK18 _ hk9
          refine G.q rfl (Nat.le_of_ble_eq_true rfl) ?_
          refine R.assign ?_  -- 10 := assign ('tmp', 35)
          refine R.nil ?_
          refine G.nil ?_
          refine E.seq ?_
          refine E.seq ?_
          refine E.regionP rfl ?_  -- region 10
          refine R.move ?_  -- 36 := move ('tmp', 10)
          refine R.neq (b := true) rfl rfl (by simpa using hs) ?_  -- 37 := binOp ('neq',) 3 ('tmp', 36) ('const', ('int', ('i64',), 0)) 3
          refine R.nil ?_
          refine E.condT rfl ?_  -- cond t37
          refine E.seq ?_
          refine E.regionP rfl ?_  -- region 11
          refine R.build build54_0 rfl ?_  -- 38 := build 54 []
          refine R.move ?_  -- 39 := move ('tmp', 8)
          refine R.move ?_  -- 40 := move ('tmp', 10)
          refine R.storeA t54 hB4 rfl rfl rfl rfl (ones2 rfl rfl) nofun ?_  -- None := store 54 ('tmp', 4) ('tmp', 38)
          intro w20 hU20 hs20 hN20
          replace hM := hM.upT hU20 hB4 (by decide)
          replace hM33 := hM33.upT hU20 hB4 (by decide)
          replace hB2 := hB2.up hU20 (fun h => ne2_4 h)
          replace hB7 := hB7.up hU20 (fun h => ne4_7 h.symm)
          replace hB9 := hB9.up hU20 (fun h => ne4_9 h.symm)
          replace hE := hE.own hU20 hb4
          replace hB4 : Blk _ b4 54 #[.slice none 0 0, .int .i64 0] := hN20
          clear hN20
          refine R.assign ?_  -- 5 := assign ('tmp', 39)
          refine R.assign ?_  -- 6 := assign ('tmp', 40)
          refine R.nil ?_
          refine E.ret ?_
          rw [playL_drop hi1, if_neg hs] at hpl  -- return 0 path T1
          refine retA2 (.int .i64 (i : Nat)) (.int .i64 (shiftL xs1 H ms[i].1 ms[i].2).2) t54 hB4 rfl rfl rfl rfl rfl ⟨_, rfl, hE, ?_⟩
          rw [show playR xss H ms = ([], 0, i, (shiftL xs1 H ms[i].1 ms[i].2).2) by
            simp only [playR, hR, Int.toNat_natCast]
            rw [if_neg (by simp), if_neg (by omega), hpl, if_neg hs]]
          exact QRes.zero
      · replace hc24 := dF hc24
        refine E.exit ?_  -- exit 0
        refine E.seq ?_
        refine E.regionP rfl ?_  -- region 13
        refine R.loadA t54 hB7 rfl rfl rfl trivial ?_  -- 42 := load 54 ('tmp', 7)
        refine R.storeA t54 hB4 rfl rfl rfl rfl (ones2 hM.outer.one rfl) nofun ?_  -- None := store 54 ('tmp', 4) ('tmp', 42)
        intro w21 hU21 hs21 hN21
        replace hM := hM.upT hU21 hB4 (by decide)
        replace hB2 := hB2.up hU21 (fun h => ne2_4 h)
        replace hB7 := hB7.up hU21 (fun h => ne4_7 h.symm)
        replace hE := hE.own hU21 hb4
        replace hB4 : Blk _ b4 54 #[ov, .int .i64 H] := hN21
        clear hN21
        refine R.assign ?_  -- 5 := assign ('const', ('int', ('i64',), 0))
        refine R.assign ?_  -- 6 := assign ('const', ('int', ('i64',), 0))
        refine R.nil ?_
        refine E.ret ?_
        obtain rfl : i = ms.length := by omega  -- return 1 path F
        rw [List.drop_length] at hpl
        refine retA2 (.int .i64 0) (.int .i64 0) t54 hB4 rfl rfl rfl rfl rfl ⟨_, rfl, hE, ?_⟩
        rw [show playR xss H ms = (xs1, (H : Int), 0, 0) by
          simp only [playR, hR, Int.toNat_natCast]
          rw [if_neg (by simp), if_neg (by omega), hpl]; rfl]
        exact ⟨_, _, rfl, hM⟩
  · refine calls_E (args := [.agg #[v, .int .i64 h], vm]) 43 Try.func32 rfl rfl (by simp) ?_
    have hE : Ext w w := Upd.refl w
    refine E.seq ?_
    refine E.regionP rfl ?_  -- region 0
    refine R.box rfl nofun ?_  -- 2 := box 54 ('tmp', 0)
    intro b2 w1 hb2 hx1 hB2
    replace hb2 := Nat.le_trans hE.size hb2
    replace hE := hE.ext hx1
    replace hB2 : Blk _ b2 54 #[v, .int .i64 h] := hB2
    refine R.alloc t54 nofun ?_  -- 4 := alloc 54
    intro b4 w2 hb4 hx2 hB4
    have ne2_4 : b2 ≠ b4 := by have := hB2.lt; omega
    replace hb4 := Nat.le_trans hE.size hb4
    replace hB2 := hB2.ext hx2
    replace hE := hE.ext hx2
    replace hB4 : Blk _ b4 54 #[.slice none 0 0, .int .i64 0] := hB4
    refine R.assign ?_  -- 5 := assign ('const', ('int', ('i64',), 0))
    refine R.assign ?_  -- 6 := assign ('const', ('int', ('i64',), 0))
    refine R.nil ?_
    refine E.seq ?_
    refine E.seq ?_
    refine E.regionP rfl ?_  -- region 1
    refine R.loadA t54 hB2 rfl rfl rfl trivial ?_  -- 11 := load 54 ('tmp', 2)
    refine R.callE1 ent55 (rRight _ (hm.ext hE) hl hx) rfl nofun ?_  -- 12 := call {'callee': ('value', ('func', 55)), 'args': [('tmp', 11)], 'argTypes': [54]}
    rintro v12 w3 hx3 rfl
    rw [hR]
    replace hB2 := hB2.ext hx3
    replace hB4 := hB4.ext hx3
    replace hE := hE.ext hx3
    refine R.not rfl ?_  -- 13 := unOp ('not',) 4 ('tmp', 12)
    refine R.nil ?_
    refine E.condT rfl ?_  -- cond t13
    refine E.seq ?_
    refine E.regionP rfl ?_  -- region 2
    refine R.build build54_0 rfl ?_  -- 14 := build 54 []
    refine R.storeA t54 hB4 rfl rfl rfl rfl (ones2 rfl rfl) nofun ?_  -- None := store 54 ('tmp', 4) ('tmp', 14)
    intro w4 hU4 hs4 hN4
    replace hB2 := hB2.up hU4 (fun h => ne2_4 h)
    replace hE := hE.own hU4 hb4
    replace hB4 : Blk _ b4 54 #[.slice none 0 0, .int .i64 0] := hN4
    clear hN4
    refine R.assign ?_  -- 5 := assign ('const', ('int', ('i64',), 0))
    refine R.assign ?_  -- 6 := assign ('const', ('int', ('i64',), 2))
    refine R.nil ?_
    refine E.ret ?_
    refine retA2 (.int .i64 ((0 : Nat) : Int)) (.int .i64 2) t54 hB4 rfl rfl rfl rfl rfl ⟨_, rfl, hE, ?_⟩  -- return 0 path 
    rw [show playR xss h ms = ([], 0, 0, 2) by simp [playR, hR]]
    exact QRes.zero

end Go.Proofs.Ytfdmndkoiheebaa
