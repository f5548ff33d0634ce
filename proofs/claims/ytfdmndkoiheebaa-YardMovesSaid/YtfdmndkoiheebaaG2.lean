/- YardPlays -/
import Derived.Test.YtfdmndkoiheebaaG1
namespace Go.Proofs.Ytfdmndkoiheebaa
open Go Go.RowKit


theorem LentM.upS {w w' : World} {v x : Value} {xss : List (List Int)} {ty' : TypeId} {k' m : Nat} {ds : List Value} (h : LentM w v xss) (u : Upd (fun b => vblk x = some b) w w') (hx : Sl w ty' k' x m ds) (hne : 35 ≠ ty' ∧ 3 ≠ ty') : LentM w' v xss := by
  obtain ⟨v0, us, ms, h1, h2, h3, h4⟩ := h
  exact ⟨v0, us, ms, h1.upS u hx hne.1, h2, ⟨h3.1, fun i hi => let ⟨y, a, b⟩ := h3.2 i hi; ⟨y, a, b.upS u hx hne.2⟩⟩, ⟨h4.1, fun i hi => let ⟨y, a, b⟩ := h4.2 i hi; ⟨y, a, b.upS u hx hne.2⟩⟩⟩
theorem PY.upS {w w' : World} {v x : Value} {H ba : Nat} {us : List Value} {cur : Array Value} {xss : List (List Int)} {ty' : TypeId} {k' m : Nat} {ds : List Value} (h : PY w v H ba us cur xss) (u : Upd (fun b => vblk x = some b) w w') (hx : Sl w ty' k' x m ds) (hne : 35 ≠ ty' ∧ 3 ≠ ty') : PY w' v H ba us cur xss :=
  ⟨h.outer.upS u hx hne.1, h.all.upS u hx hne.2, h.size, h.elems⟩
theorem YO.upS {w w' w'' : World} {v x : Value} {h : Int} {xss : List (List Int)} {ty' : TypeId} {k' m : Nat} {ds : List Value} (y : YO w w' v h xss) (u : Upd (fun b => vblk x = some b) w' w'') (hx : Sl w' ty' k' x m ds) (hne : 35 ≠ ty' ∧ 3 ≠ ty') : YO w w'' v h xss := by
  rcases y with y | ⟨H, ba, us, cur, hh, hP, hr⟩
  · exact .inl y
  · exact .inr ⟨H, ba, us, cur, hh, hP.upS u hx hne, hr⟩
theorem Sl.up34 {wa w w' : World} {ty : TypeId} {k n : Nat} {v : Value} {cs : List Value} (h : Sl w ty k v n cs) (u : Upd (X34 wa w) w w') (hne : ty ≠ 3 ∧ ty ≠ 35) : Sl w' ty k v n cs := h.up u fun b e ⟨_, cur, h'⟩ => by
  obtain ⟨c, hb⟩ := h.blk e
  rcases h' with h' | h'
  · exact hne.1 (hb.inj h').2
  · exact hne.2 (hb.inj h').2
theorem R.neq30 {ops : Array Oper} {S : Bool → Nat → Prop} {dr : Bool} {B : List Nat} {F : Env → World → Prop} {rest : List Oper} {e : Env} {w : World} {d : Tmp} {ty : TypeId} {pos : String} {aft : Array Edge} {t' : TypeId} {x y : Operand} {a b c c' : Int} {bb : Bool} (hx : ev e x = .agg #[.int .i64 a, .int .i64 b]) (hy : ev e y = .agg #[.int .i64 c, .int .i64 c']) (hb : (!decide (a = c ∧ b = c')) = bb)
    (h : wpR Try.prog ops S dr (kind B) F rest (upd e d (.bool bb)) w) : wpR Try.prog ops S dr (kind B) F (⟨some d, .binOp .neq 30 x y t', ty, pos, aft, none⟩ :: rest) e w := by
  refine R.quiet (.bool bb) rfl (fun w' _ => ?_) h
  have hg : ∀ w, (eqGuard .neq 30 x y (.agg #[.int .i64 a, .int .i64 b]) (.agg #[.int .i64 c, .int .i64 c'])).run Try.prog w = .ok () w := fun w => run_eqGuard_agg w .neq 30 x y _ _ (by kernel_rfl)
  simp only [execOp, hx, hy, Sem.run_bind, hg, Result.andThen_ok, run_neq_struct, run_equal30, hb, Sem.run_pure]
theorem Fresh.app' {w0 w w' : World} {v v' : Value} {n : Nat} (hs : w0.heap.size ≤ w.heap.size) (hf : Fresh w0 v) (hd : (vblk v' = vblk v ∧ n ≤ vcap v ∧ vcap v' = vcap v) ∨ (∃ b, vblk v' = some b ∧ w.heap.size ≤ b ∧ Ext w w')) : Fresh w0 v' := by
  intro b hb
  rcases hd with ⟨h1, _⟩ | ⟨b', h1, h2, _⟩
  · exact hf b (h1 ▸ hb)
  · rw [h1] at hb; simp at hb; omega


theorem yPlayE (w : World) {v vm : Value} {h : Int} {xss : List (List Int)} {ms : List (Int × Int)} (hm : ∃ us, Mat w v us xss) (hms : Moves w vm ms) (hml : ms.length ≤ 9223372036854775807) (hl : xss.length < 1000000) (hx : ∀ xs ∈ xss, xs.length < 1000000) :
    Calls Try.prog 31 #[.agg #[v, .int .i64 h], vm] w (Ret fun r w' => Ext w w' ∧ PRes w w' r (playR xss h ms)) := by
  obtain ⟨us, hm⟩ := hm; exact yPlay w hm hms hml hl hx

set_option maxHeartbeats 3200000 in
theorem yardPlays (w : World) {v vm : Value} {h : Int} {us : List Value} {xss : List (List Int)} {ms : List (Int × Int)} (hm : Mat w v us xss) (hl : xss.length ≤ 9223372036854775807) (hms : Moves w vm ms) (hml : ms.length ≤ 9223372036854775807) :
    Calls Try.prog 6 #[.agg #[v, .int .i64 h], vm] w (Ret fun r w' => Ext w w' ∧ r = .bool true) := by
  cases hq : decide ((∀ xs ∈ xss, xs.length ≤ 10) ∧ xss.length ≤ 32)
  rotate_left
  rcases Nat.lt_or_ge 60 ms.length with hq60 | hq60
  · refine calls_E (args := [.agg #[v, .int .i64 h], vm]) 104 Try.func6 rfl rfl (by simp) ?_
    have hE : Ext w w := Upd.refl w
    refine E.seq ?_
    refine E.regionP rfl ?_  -- region 0
    refine R.box rfl nofun ?_  -- 2 := box 24 ('tmp', 0)
    intro b2 w1 hb2 hx1 hB2
    replace hb2 := Nat.le_trans hE.size hb2
    replace hE := hE.ext hx1
    replace hB2 : Blk _ b2 24 #[v, .int .i64 h] := hB2
    refine R.assign ?_  -- 4 := assign ('const', ('bool', ('false',)))
    refine R.nil ?_
    refine E.seq ?_
    refine E.seq ?_
    refine E.regionP rfl ?_  -- region 1
    refine R.loadA t24 hB2 rfl rfl rfl trivial ?_  -- 16 := load 24 ('tmp', 2)
    refine R.callE1 ent17 (few _ (hm.ext hE) hl) rfl nofun ?_  -- 17 := call {'callee': ('value', ('func', 17)), 'args': [('tmp', 16)], 'argTypes': [24]}
    rintro v17 w2 hx2 rfl
    rw [hq]
    replace hB2 := hB2.ext hx2
    replace hE := hE.ext hx2
    refine R.not rfl ?_  -- 18 := unOp ('not',) 4 ('tmp', 17)
    refine R.move ?_  -- 19 := move ('tmp', 18)
    refine R.gT rfl rfl ?_
    refine R.move ?_  -- 20 := move ('tmp', 1)
    refine R.gT rfl rfl ?_
    refine R.len Try.underlying48 hms rfl ?_  -- 21 := call {'callee': ('builtin', ('len',)), 'args': [('tmp', 20)], 'argTypes': [48]}
    refine R.gT rfl rfl ?_
    refine R.gtr (b := true) rfl rfl (decide_eq_true (by omega)) ?_  -- 22 := binOp ('gtr',) 3 ('tmp', 21) ('const', ('int', ('i64',), 60)) 3
    refine R.pickF rfl ?_  -- 23 := pick ('tmp', 19) ('const', ('bool', ('true',))) ('tmp', 22)
    refine R.nil ?_
    refine E.condT rfl ?_  -- cond t23
    refine E.seq ?_
    refine E.regionP rfl ?_  -- region 2
    refine R.callE0 ent19 (awake _)  nofun ?_  -- 24 := call {'callee': ('value', ('func', 19)), 'args': [], 'argTypes': []}
    rintro v24 w3 hx3 rfl
    replace hB2 := hB2.ext hx3
    replace hE := hE.ext hx3
    refine R.assign ?_  -- 4 := assign ('tmp', 24)
    refine R.nil ?_
    refine E.ret ?_
    exact ret1 (.bool true) rfl rfl ⟨_, rfl, hE, rfl⟩  -- return 0 path 
  · have hF : Fit xss := ⟨(of_decide_eq_true hq).2, (of_decide_eq_true hq).1⟩
    have hF1 := hF.1
    refine calls_E (args := [.agg #[v, .int .i64 h], vm]) 104 Try.func6 rfl rfl (by simp) ?_
    have hE : Ext w w := Upd.refl w
    refine E.seq ?_
    refine E.regionP rfl ?_  -- region 0
    refine R.box rfl nofun ?_  -- 2 := box 24 ('tmp', 0)
    intro b2 w1 hb2 hx1 hB2
    replace hb2 := Nat.le_trans hE.size hb2
    replace hE := hE.ext hx1
    replace hB2 : Blk _ b2 24 #[v, .int .i64 h] := hB2
    refine R.assign ?_  -- 4 := assign ('const', ('bool', ('false',)))
    refine R.nil ?_
    refine E.seq ?_
    refine E.seq ?_
    refine E.regionP rfl ?_  -- region 1
    refine R.loadA t24 hB2 rfl rfl rfl trivial ?_  -- 16 := load 24 ('tmp', 2)
    refine R.callE1 ent17 (few _ (hm.ext hE) hl) rfl nofun ?_  -- 17 := call {'callee': ('value', ('func', 17)), 'args': [('tmp', 16)], 'argTypes': [24]}
    rintro v17 w2 hx2 rfl
    rw [hq]
    replace hB2 := hB2.ext hx2
    replace hE := hE.ext hx2
    refine R.not rfl ?_  -- 18 := unOp ('not',) 4 ('tmp', 17)
    refine R.move ?_  -- 19 := move ('tmp', 18)
    refine R.gT rfl rfl ?_
    refine R.move ?_  -- 20 := move ('tmp', 1)
    refine R.gT rfl rfl ?_
    refine R.len Try.underlying48 hms rfl ?_  -- 21 := call {'callee': ('builtin', ('len',)), 'args': [('tmp', 20)], 'argTypes': [48]}
    refine R.gT rfl rfl ?_
    refine R.gtr (b := false) rfl rfl (decide_eq_false (by omega)) ?_  -- 22 := binOp ('gtr',) 3 ('tmp', 21) ('const', ('int', ('i64',), 60)) 3
    refine R.pickF rfl ?_  -- 23 := pick ('tmp', 19) ('const', ('bool', ('true',))) ('tmp', 22)
    refine R.nil ?_
    refine E.condF rfl ?_  -- cond t23
    refine E.skip ?_
    refine E.seq ?_
    refine E.regionP rfl ?_  -- region 3
    refine R.loadA t24 hB2 rfl rfl rfl trivial ?_  -- 25 := load 24 ('tmp', 2)
    refine R.callE1 ent30 (own _ (hm.ext hE) hF.l6 hF.x6) rfl nofun ?_  -- 26 := call {'callee': ('value', ('func', 30)), 'args': [('tmp', 25)], 'argTypes': [24]}
    rintro v26 w3 hx3 ⟨u26, rfl, hL26, hf26⟩
    replace hB2 := hB2.ext hx3
    replace hE := hE.ext hx3
    refine R.alloc t24 nofun ?_  -- 5 := alloc 24
    intro b5 w4 hb5 hx4 hB5
    have ne2_5 : b2 ≠ b5 := by have := hB2.lt; omega
    replace hb5 := Nat.le_trans hE.size hb5
    replace hL26 := hL26.ext hx4
    replace hB2 := hB2.ext hx4
    replace hE := hE.ext hx4
    replace hB5 : Blk _ b5 24 #[.slice none 0 0, .int .i64 0] := hB5
    refine R.storeA t24 hB5 rfl rfl rfl rfl (ones2 hL26.one rfl) nofun ?_  -- None := store 24 ('tmp', 5) ('tmp', 26)
    intro w5 hU5 hs5 hN5
    replace hL26 := hL26.upT hU5 hB5 (by decide)
    replace hB2 := hB2.up hU5 (fun h => ne2_5 h)
    replace hE := hE.own hU5 hb5
    replace hB5 : Blk _ b5 24 #[u26, .int .i64 h] := hN5
    clear hN5
    refine R.nil ?_
    refine E.seq ?_
    refine E.regionP rfl ?_  -- region 4
    refine R.buildSlice [] Try.underlying48 t30 rfl rfl (by simp) (by simp) nofun ?_  -- 27 := buildSlice 48 0 []
    intro b27 w6 hb27 hx6 hB27 hS27
    replace hb27 := Nat.le_trans hE.size hb27
    replace hL26 := hL26.ext hx6
    replace hB2 := hB2.ext hx6
    replace hB5 := hB5.ext hx6
    replace hE := hE.ext hx6
    refine R.move ?_  -- 28 := move ('tmp', 1)
    refine R.append (m := ms.length) Try.underlying48 Try.underlying48 t30 (by decide) rfl hS27 (hms.ext hE) moves_one rfl rfl (by simp; omega) (by simp; omega) nofun ?_  -- 29 := call {'callee': ('builtin', ('append',)), 'args': [('tmp', 27), ('tmp', 28)], 'argTypes': [48, 48]}
    intro v29 w29 hU29 hS29 hd29
    replace hL26 := hL26.upS hU29 hS27 (by decide)
    replace hB2 := hB2.upS hU29 hS27 (by decide)
    replace hB5 := hB5.upS hU29 hS27 (by decide)
    replace hE := hE.trans hU29 (fun b hb h => by simp [vblk] at h; omega)
    have hQ29 : Sl w29 30 2 v29 ms.length (movesC ms) := by simpa [cellsOf] using hS29
    clear hS27 hS29 hd29
    refine R.assign ?_  -- 6 := assign ('tmp', 29)
    refine R.nil ?_
    refine E.seq ?_
    refine E.forget [(1, vm), (2, .pointer (some ⟨b2, 0, none⟩)), (5, .pointer (some ⟨b5, 0, none⟩)), (6, v29)] ⟨rfl, rfl, rfl, rfl, trivial⟩ (fun e => ?_)
    refine E.regionP rfl ?_  -- region 5
    refine R.loadA t24 hB5 rfl rfl rfl trivial ?_  -- 31 := load 24 ('tmp', 5)
    refine R.move ?_  -- 32 := move ('tmp', 6)
    refine R.callE2 ent31 (yPlayE _ hL26.mat hQ29.row hml hF.l6 hF.x6) rfl rfl nofun ?_  -- 33 := call {'callee': ('value', ('func', 31)), 'args': [('tmp', 31), ('tmp', 32)], 'argTypes': [24, 48]}
    rintro v33 w7 hx7 ⟨u33, rfl, hY33⟩
    have hLs33 := hL26
    have hsz33 := hE.size
    have hK33 : Keep _ _ := Ext.upd hx7
    replace hL26 := hL26.ext hx7
    replace hQ29 := hQ29.ext hx7
    replace hB2 := hB2.ext hx7
    replace hB5 := hB5.ext hx7
    replace hE := hE.ext hx7
    refine R.move ?_  -- 30 := move ('tmp', 33)
    refine R.extract rfl rfl ?_  -- 34 := extract ('tmp', 30) 0
    refine R.extract rfl rfl ?_  -- 35 := extract ('tmp', 30) 1
    refine R.extract rfl rfl ?_  -- 36 := extract ('tmp', 30) 2
    refine R.alloc t24 nofun ?_  -- 7 := alloc 24
    intro b7 w8 hb7 hx8 hB7
    have ne2_7 : b2 ≠ b7 := by have := hB2.lt; omega
    have ne5_7 : b5 ≠ b7 := by have := hB5.lt; omega
    replace hb7 := Nat.le_trans hE.size hb7
    replace hL26 := hL26.ext hx8
    replace hQ29 := hQ29.ext hx8
    replace hY33 := hY33.ext hx8
    replace hK33 := hK33.ext hx8
    replace hB2 := hB2.ext hx8
    replace hB5 := hB5.ext hx8
    replace hE := hE.ext hx8
    replace hB7 : Blk _ b7 24 #[.slice none 0 0, .int .i64 0] := hB7
    refine R.storeA t24 hB7 rfl rfl rfl rfl (ones2 hY33.one' rfl) nofun ?_  -- None := store 24 ('tmp', 7) ('tmp', 34)
    intro w9 hU9 hs9 hN9
    replace hL26 := hL26.upT hU9 hB7 (by decide)
    replace hQ29 := hQ29.upT hU9 hB7 (by decide)
    replace hY33 := hY33.upT hU9 hB7 (by decide)
    replace hK33 := hK33.upT hU9 hB7 (by decide)
    replace hB2 := hB2.up hU9 (fun h => ne2_7 h)
    replace hB5 := hB5.up hU9 (fun h => ne5_7 h)
    replace hE := hE.own hU9 hb7
    replace hB7 : Blk _ b7 24 #[u33, .int .i64 (playR xss h ms).2.1] := hN9
    clear hN9
    refine R.assign ?_  -- 8 := assign ('tmp', 35)
    refine R.assign ?_  -- 9 := assign ('tmp', 36)
    refine R.nil ?_
    refine E.seq ?_
    refine E.regionP rfl ?_  -- region 6
    refine R.assign ?_  -- 10 := assign ('const', ('slice', ('none',), 0, 0))
    refine R.nil ?_
    refine E.seq ?_
    refine E.seq ?_
    refine E.regionP rfl ?_  -- region 7
    refine R.move ?_  -- 37 := move ('tmp', 1)
    refine R.len Try.underlying48 hms rfl ?_  -- 38 := call {'callee': ('builtin', ('len',)), 'args': [('tmp', 37)], 'argTypes': [48]}
    refine R.move ?_  -- 39 := move ('const', ('int', ('i64',), 0))
    refine R.nil ?_
    refine E.block ?_  -- block 0
    refine E.loop (fun n e wr => ∃ (i : Nat) (ov : Value), n = ms.length - i ∧ i ≤ ms.length ∧ Ext w wr ∧ LentM wr u26 xss ∧ Sl wr 30 2 v29 ms.length (movesC ms) ∧ YO w29 wr u33 (playR xss h ms).2.1 (playR xss h ms).1 ∧ Keep w29 wr ∧ Sl wr 53 2 ov i (movesC (ms.take i)) ∧ Fresh w29 ov ∧ Blk wr b2 24 #[v, .int .i64 h] ∧ Blk wr b5 24 #[u26, .int .i64 h] ∧ Blk wr b7 24 #[u33, .int .i64 (playR xss h ms).2.1] ∧ Has e [(1, vm), (2, .pointer (some ⟨b2, 0, none⟩)), (5, .pointer (some ⟨b5, 0, none⟩)), (6, v29), (7, .pointer (some ⟨b7, 0, none⟩)), (8, .int .i64 ((playR xss h ms).2.2.1 : Nat)), (9, .int .i64 (playR xss h ms).2.2.2), (37, vm), (38, .int .i64 ms.length), (39, .int .i64 i), (10, ov)]) (ms.length) ?_ ?_
    · exact ⟨0, _, rfl, Nat.zero_le _, hE, hL26, hQ29, hY33, hK33, Sl.nil _ _ _, Fresh.nil _, hB2, hB5, hB7, rfl, rfl, rfl, rfl, rfl, rfl, rfl, rfl, rfl, rfl, rfl, trivial⟩
    · rintro n e wr ⟨i, ov, rfl, hi, hE, hL26, hQ29, hY33, hK33, hW, hf, hB2, hB5, hB7, hH⟩
      obtain ⟨e, rfl⟩ := hH.ex
      clear hH
      refine E.seq ?_
      refine E.regionP rfl ?_  -- region 8
      refine R.lss rfl rfl rfl ?_  -- 40 := binOp ('lss',) 3 ('tmp', 39) ('tmp', 38) 3
      refine R.nil ?_
      refine E.seq ?_
      refine E.cond rfl (fun hc40 => ?_) (fun hc40 => ?_)  -- cond t40
      · replace hc40 := dT hc40
        have hi1 : i < ms.length := by omega
        have hmin : min i ms.length = i := by omega
        refine E.skip ?_
        refine E.seq ?_
        refine E.block ?_  -- block 1
        refine E.seq ?_
        refine E.regionP rfl ?_  -- region 9
        refine R.move ?_  -- 41 := move ('tmp', 39)
        refine R.assign ?_  -- 11 := assign ('tmp', 41)
        refine R.nil ?_
        refine E.regionP rfl ?_  -- region 10
        refine R.move ?_  -- 42 := move ('tmp', 10)
        refine R.move ?_  -- 43 := move ('tmp', 1)
        refine R.move ?_  -- 44 := move ('tmp', 11)
        refine R.ix Try.underlying48 t30 (by decide) hms rfl rfl (by omega) ?_  -- 45 := indexAddr 48 ('tmp', 43) ('tmp', 44)
        refine R.ldM t30 hms hE hi1 rfl rfl (fun _ _ => trivial) ?_  -- 46 := load 30 ('tmp', 45)
        refine R.buildSlice [.agg #[.int .i64 ms[i].1, .int .i64 ms[i].2]] Try.underlying52 t53 rfl rfl (by simp [Value.cells]) (by simp) nofun ?_  -- 47 := buildSlice 52 1 [('tup', 0, ('tmp', 46))]
        intro b47 w10 hb47 hx10 hB47 hS47
        replace hb47 := Nat.le_trans hE.size hb47
        replace hL26 := hL26.ext hx10
        replace hQ29 := hQ29.ext hx10
        replace hY33 := hY33.ext hx10
        replace hK33 := hK33.ext hx10
        replace hW := hW.ext hx10
        replace hB2 := hB2.ext hx10
        replace hB5 := hB5.ext hx10
        replace hB7 := hB7.ext hx10
        replace hE := hE.ext hx10
        refine R.append (m := 1) Try.underlying52 Try.underlying52 t53 (by decide) rfl hW hS47.row (by simp [cellsOf, Value.cells, Value.oneCell']) rfl rfl (by omega) (by omega) nofun ?_  -- 48 := call {'callee': ('builtin', ('append',)), 'args': [('tmp', 42), ('tmp', 47)], 'argTypes': [52, 52]}
        intro v48 w48 hU48 hS48 hd48
        replace hL26 := hL26.upS hU48 hW (by decide)
        replace hQ29 := hQ29.upS hU48 hW (by decide)
        replace hY33 := hY33.upS hU48 hW (by decide)
        replace hB2 := hB2.upS hU48 hW (by decide)
        replace hB5 := hB5.upS hU48 hW (by decide)
        replace hB7 := hB7.upS hU48 hW (by decide)
        have hf48 := Fresh.app' hK33.size hf hd48
        replace hE := hE.trans hU48 (fun b hb h => by have := hf b h; omega)
        replace hK33 := hK33.trans hU48 (fun b hb h => by have := hf b h; omega)
        replace hW : Sl w48 53 2 v48 (i + 1) (movesC (ms.take (i + 1))) := by
          rw [take_snoc (List.getElem?_eq_getElem hi1), movesC_snoc]
          simpa [cellsOf, Value.cells] using hS48
        clear hS47 hS48 hd48
        refine R.assign ?_  -- 10 := assign ('tmp', 48)
        refine R.nil ?_
        refine E.regionP rfl ?_  -- region 11
        refine R.addN (n := 1) rfl rfl (by omega) ?_  -- 49 := binOp ('add',) 3 ('tmp', 39) ('const', ('int', ('i64',), 1)) 3
        refine R.move ?_  -- 39 := move ('tmp', 49)
        refine R.nil ?_
        exact ⟨ms.length - (i + 1), by omega, i + 1, v48, rfl, by omega, hE, hL26, hQ29, hY33, hK33, hW, hf48, hB2, hB5, hB7, rfl, rfl, rfl, rfl, rfl, rfl, rfl, rfl, rfl, rfl, rfl, trivial⟩  -- round end 0 path T
      · replace hc40 := dF hc40
        obtain rfl : i = ms.length := by omega
        rw [List.take_length] at hW
        have hWm := hW.row
        refine E.exit ?_  -- exit 0
        refine E.seq ?_
        refine E.regionP rfl ?_  -- region 12
        refine R.loadA t24 hB2 rfl rfl rfl trivial ?_  -- 51 := load 24 ('tmp', 2)
        refine R.move ?_  -- 52 := move ('tmp', 10)
        refine R.callE2 ent32 (rPlay _ (hm.ext hE) hWm hml (by have := hF.1; omega) hF.2) rfl rfl nofun ?_  -- 53 := call {'callee': ('value', ('func', 32)), 'args': [('tmp', 51), ('tmp', 52)], 'argTypes': [54, 52]}
        rintro v53 w11 hx11 ⟨u53, us53, rfl, hM53⟩
        replace hL26 := hL26.ext hx11
        replace hQ29 := hQ29.ext hx11
        replace hY33 := hY33.ext hx11
        replace hK33 := hK33.ext hx11
        replace hW := hW.ext hx11
        replace hB2 := hB2.ext hx11
        replace hB5 := hB5.ext hx11
        replace hB7 := hB7.ext hx11
        replace hE := hE.ext hx11
        refine R.move ?_  -- 50 := move ('tmp', 53)
        refine R.extract rfl rfl ?_  -- 54 := extract ('tmp', 50) 0
        refine R.extract rfl rfl ?_  -- 55 := extract ('tmp', 50) 1
        refine R.extract rfl rfl ?_  -- 56 := extract ('tmp', 50) 2
        refine R.alloc t54 nofun ?_  -- 12 := alloc 54
        intro b12 w12 hb12 hx12 hB12
        replace hb12 := Nat.le_trans hE.size hb12
        replace hL26 := hL26.ext hx12
        replace hQ29 := hQ29.ext hx12
        replace hY33 := hY33.ext hx12
        replace hK33 := hK33.ext hx12
        replace hW := hW.ext hx12
        replace hM53 := hM53.ext hx12
        replace hB2 := hB2.ext hx12
        replace hB5 := hB5.ext hx12
        replace hB7 := hB7.ext hx12
        replace hE := hE.ext hx12
        replace hB12 : Blk _ b12 54 #[.slice none 0 0, .int .i64 0] := hB12
        refine R.storeA t54 hB12 rfl rfl rfl rfl (ones2 hM53.outer.one rfl) nofun ?_  -- None := store 54 ('tmp', 12) ('tmp', 54)
        intro w13 hU13 hs13 hN13
        replace hL26 := hL26.upT hU13 hB12 (by decide)
        replace hQ29 := hQ29.upT hU13 hB12 (by decide)
        replace hY33 := hY33.upT hU13 hB12 (by decide)
        replace hK33 := hK33.upT hU13 hB12 (by decide)
        replace hW := hW.upT hU13 hB12 (by decide)
        replace hM53 := hM53.upT hU13 hB12 (by decide)
        replace hB2 := hB2.upT hU13 hB12 (by decide)
        replace hB5 := hB5.upT hU13 hB12 (by decide)
        replace hB7 := hB7.upT hU13 hB12 (by decide)
        replace hE := hE.own hU13 hb12
        replace hB12 : Blk _ b12 54 #[u53, .int .i64 (playR xss h ms).2.1] := hN13
        clear hN13
        refine R.assign ?_  -- 13 := assign ('tmp', 55)
        refine R.assign ?_  -- 14 := assign ('tmp', 56)
        refine R.nil ?_
        refine E.seq ?_
        refine E.seq ?_
        refine E.regionP rfl ?_  -- region 13
        refine R.move ?_  -- 57 := move ('tmp', 9)
        refine R.move ?_  -- 58 := move ('tmp', 14)
        refine R.neq (b := false) rfl rfl (by simp) ?_  -- 59 := binOp ('neq',) 3 ('tmp', 57) ('tmp', 58) 3
        refine R.move ?_  -- 60 := move ('tmp', 59)
        refine R.gT rfl rfl ?_
        refine R.move ?_  -- 61 := move ('tmp', 8)
        refine R.gT rfl rfl ?_
        refine R.move ?_  -- 62 := move ('tmp', 13)
        refine R.gT rfl rfl ?_
        refine R.neq (b := false) rfl rfl (by simp) ?_  -- 63 := binOp ('neq',) 3 ('tmp', 61) ('tmp', 62) 3
        refine R.pickF rfl ?_  -- 64 := pick ('tmp', 60) ('const', ('bool', ('true',))) ('tmp', 63)
        refine R.move ?_  -- 65 := move ('tmp', 64)
        refine R.gT rfl rfl ?_
        refine R.loadA t24 hB7 rfl rfl rfl trivial ?_  -- 66 := load 24 ('tmp', 7)
        refine R.gT rfl rfl ?_
        refine R.loadA t54 hB12 rfl rfl rfl trivial ?_  -- 67 := load 54 ('tmp', 12)
        refine R.gT rfl rfl ?_
        refine R.callE2 ent28 (same1 _ hY33.mat hM53.mat (playR_fit (xss := xss) (h := h) (ms := ms)).l9 (playR_fit (xss := xss) (h := h) (ms := ms)).x9) rfl rfl nofun ?_  -- 68 := call {'callee': ('value', ('func', 28)), 'args': [('tmp', 66), ('tmp', 67)], 'argTypes': [24, 24]}
        rintro v68 w14 hx14 rfl
        replace hL26 := hL26.ext hx14
        replace hQ29 := hQ29.ext hx14
        replace hY33 := hY33.ext hx14
        replace hK33 := hK33.ext hx14
        replace hW := hW.ext hx14
        replace hM53 := hM53.ext hx14
        replace hB2 := hB2.ext hx14
        replace hB5 := hB5.ext hx14
        replace hB7 := hB7.ext hx14
        replace hB12 := hB12.ext hx14
        replace hE := hE.ext hx14
        refine R.gT rfl rfl ?_
        refine R.not rfl ?_  -- 69 := unOp ('not',) 4 ('tmp', 68)
        refine R.pickF rfl ?_  -- 70 := pick ('tmp', 65) ('const', ('bool', ('true',))) ('tmp', 69)
        refine R.move ?_  -- 71 := move ('tmp', 70)
        refine R.gT rfl rfl ?_
        refine R.loadA t24 hB5 rfl rfl rfl trivial ?_  -- 72 := load 24 ('tmp', 5)
        refine R.gT rfl rfl ?_
        refine R.loadA t24 hB2 rfl rfl rfl trivial ?_  -- 73 := load 24 ('tmp', 2)
        refine R.gT rfl rfl ?_
        refine R.callE2 ent33 (kept _ hL26 (hm.ext hE) hF.l6 hF.x6) rfl rfl nofun ?_  -- 74 := call {'callee': ('value', ('func', 33)), 'args': [('tmp', 72), ('tmp', 73)], 'argTypes': [24, 24]}
        rintro v74 w15 hx15 rfl
        replace hL26 := hL26.ext hx15
        replace hQ29 := hQ29.ext hx15
        replace hY33 := hY33.ext hx15
        replace hK33 := hK33.ext hx15
        replace hW := hW.ext hx15
        replace hM53 := hM53.ext hx15
        replace hB2 := hB2.ext hx15
        replace hB5 := hB5.ext hx15
        replace hB7 := hB7.ext hx15
        replace hB12 := hB12.ext hx15
        replace hE := hE.ext hx15
        refine R.gT rfl rfl ?_
        refine R.not rfl ?_  -- 75 := unOp ('not',) 4 ('tmp', 74)
        refine R.pickF rfl ?_  -- 76 := pick ('tmp', 71) ('const', ('bool', ('true',))) ('tmp', 75)
        refine R.move ?_  -- 77 := move ('tmp', 76)
        refine R.gT rfl rfl ?_
        refine R.loadA t24 hB7 rfl rfl rfl trivial ?_  -- 78 := load 24 ('tmp', 7)
        refine R.gT rfl rfl ?_
        refine R.loadA t24 hB5 rfl rfl rfl trivial ?_  -- 79 := load 24 ('tmp', 5)
        refine R.gT rfl rfl ?_
        refine R.call2 ent34 (apart_ _ _ hK33 hY33 hLs33 (playR_fit (xss := xss) (h := h) (ms := ms)).l6 hF.l6 (playR_fit (xss := xss) (h := h) (ms := ms)).2 hF.x6) rfl rfl ?_  -- 80 := call {'callee': ('value', ('func', 34)), 'args': [('tmp', 78), ('tmp', 79)], 'argTypes': [24, 24]}
        rintro v80 w80 ⟨hU80, rfl⟩
        refine ⟨nofun, ?_⟩
        have hK80 := Keep.up34 hK33 hU80
        replace hL26 := hLs33.keep hK80
        replace hQ29 := hQ29.up34 hU80 (by decide)
        replace hE := hE.trans hU80 (fun b hb h => by have := h.1; omega)
        clear hY33 hK33 hM53 hW
        replace hB2 := hB2.up34 hU80 (by decide)
        replace hB5 := hB5.up34 hU80 (by decide)
        replace hB7 := hB7.up34 hU80 (by decide)
        replace hB12 := hB12.up34 hU80 (by decide)
        refine R.gT rfl rfl ?_
        refine R.not rfl ?_  -- 81 := unOp ('not',) 4 ('tmp', 80)
        refine R.pickF rfl ?_  -- 82 := pick ('tmp', 77) ('const', ('bool', ('true',))) ('tmp', 81)
        refine R.nil ?_
        refine E.condF rfl ?_  -- cond t82
        refine E.skip ?_
        refine E.seq ?_
        refine E.seq ?_
        refine E.regionP rfl ?_  -- region 15
        refine R.move ?_  -- 83 := move ('tmp', 1)
        refine R.len Try.underlying48 hms rfl ?_  -- 84 := call {'callee': ('builtin', ('len',)), 'args': [('tmp', 83)], 'argTypes': [48]}
        refine R.move ?_  -- 85 := move ('const', ('int', ('i64',), 0))
        refine R.nil ?_
        refine E.block ?_  -- block 2
        refine E.loop (fun n e wr => ∃ (i : Nat), n = ms.length - i ∧ i ≤ ms.length ∧ Ext w wr ∧ LentM wr u26 xss ∧ Sl wr 30 2 v29 ms.length (movesC ms) ∧ Blk wr b2 24 #[v, .int .i64 h] ∧ Blk wr b5 24 #[u26, .int .i64 h] ∧ Has e [(1, vm), (2, .pointer (some ⟨b2, 0, none⟩)), (5, .pointer (some ⟨b5, 0, none⟩)), (6, v29), (83, vm), (84, .int .i64 ms.length), (85, .int .i64 i)]) (ms.length) ?_ ?_
        · exact ⟨0, rfl, Nat.zero_le _, hE, hL26, hQ29, hB2, hB5, rfl, rfl, rfl, rfl, rfl, rfl, rfl, trivial⟩
        · rintro n e wr ⟨i, rfl, hi, hE, hL26, hQ29, hB2, hB5, hH⟩
          obtain ⟨e, rfl⟩ := hH.ex
          clear hH
          refine E.seq ?_
          refine E.regionP rfl ?_  -- region 16
          refine R.lss rfl rfl rfl ?_  -- 86 := binOp ('lss',) 3 ('tmp', 85) ('tmp', 84) 3
          refine R.nil ?_
          refine E.seq ?_
          refine E.cond rfl (fun hc86 => ?_) (fun hc86 => ?_)  -- cond t86
          · replace hc86 := dT hc86
            have hi1 : i < ms.length := by omega
            refine E.skip ?_
            refine E.seq ?_
            refine E.block ?_  -- block 3
            refine E.seq ?_
            refine E.regionP rfl ?_  -- region 17
            refine R.move ?_  -- 87 := move ('tmp', 85)
            refine R.assign ?_  -- 15 := assign ('tmp', 87)
            refine R.nil ?_
            refine E.seq ?_
            refine E.regionW allS [] mixed rfl (by kernel_rfl) ?_  -- region 18
            intro w16 hx16 hh16
            replace hL26 := hL26.ext hx16
            replace hQ29 := hQ29.ext hx16
            replace hB2 := hB2.ext hx16
            replace hB5 := hB5.ext hx16
            replace hE := hE.ext hx16
            refine R.move ?_  -- 88 := move ('tmp', 6)
            refine R.move ?_  -- 89 := move ('tmp', 15)
            refine R.ix Try.underlying48 t30 (by decide) hQ29.row rfl rfl (by omega) ?_  -- 90 := indexAddr 48 ('tmp', 88) ('tmp', 89)
            refine R.ldM t30 hQ29.row (Upd.refl _) hi1 rfl rfl (fun _ _ => trivial) ?_  -- 91 := load 30 ('tmp', 90)
            refine R.move ?_  -- 92 := move ('tmp', 1)
            refine R.move ?_  -- 93 := move ('tmp', 15)
            refine R.ix Try.underlying48 t30 (by decide) hms rfl rfl (by omega) ?_  -- 94 := indexAddr 48 ('tmp', 92) ('tmp', 93)
            refine R.ldM t30 hms hE hi1 rfl rfl (fun _ _ => trivial) ?_  -- 95 := load 30 ('tmp', 94)
            refine R.neq30 (bb := false) rfl rfl (by simp) ?_  -- 96 := binOp ('neq',) 30 ('tmp', 91) ('tmp', 95) 30
            refine R.nil ?_
            refine E.condF rfl ?_  -- cond t96
            refine E.skip ?_
            refine E.regionP rfl ?_  -- region 20
            refine R.addN (n := 1) rfl rfl (by omega) ?_  -- 97 := binOp ('add',) 3 ('tmp', 85) ('const', ('int', ('i64',), 1)) 3
            refine R.move ?_  -- 85 := move ('tmp', 97)
            refine R.nil ?_
            exact ⟨ms.length - (i + 1), by omega, i + 1, rfl, by omega, hE, hL26, hQ29, hB2, hB5, rfl, rfl, rfl, rfl, rfl, rfl, rfl, trivial⟩  -- round end 1 path FT
          · replace hc86 := dF hc86
            refine E.exit ?_  -- exit 2
            refine E.seq ?_
            refine E.regionP rfl ?_  -- region 21
            refine R.loadA t24 hB5 rfl rfl rfl trivial ?_  -- 98 := load 24 ('tmp', 5)
            refine R.loadA t24 hB2 rfl rfl rfl trivial ?_  -- 99 := load 24 ('tmp', 2)
            refine R.callE2 ent33 (kept _ hL26 (hm.ext hE) hF.l6 hF.x6) rfl rfl nofun ?_  -- 100 := call {'callee': ('value', ('func', 33)), 'args': [('tmp', 98), ('tmp', 99)], 'argTypes': [24, 24]}
            rintro v100 w17 hx17 rfl
            replace hL26 := hL26.ext hx17
            replace hQ29 := hQ29.ext hx17
            replace hB2 := hB2.ext hx17
            replace hB5 := hB5.ext hx17
            replace hE := hE.ext hx17
            refine R.move ?_  -- 101 := move ('tmp', 100)
            refine R.gT rfl rfl ?_
            refine R.callE0 ent19 (awake _)  nofun ?_  -- 102 := call {'callee': ('value', ('func', 19)), 'args': [], 'argTypes': []}
            rintro v102 w18 hx18 rfl
            replace hL26 := hL26.ext hx18
            replace hQ29 := hQ29.ext hx18
            replace hB2 := hB2.ext hx18
            replace hB5 := hB5.ext hx18
            replace hE := hE.ext hx18
            refine R.pickT rfl ?_  -- 103 := pick ('tmp', 101) ('tmp', 102) ('const', ('bool', ('false',)))
            refine R.assign ?_  -- 4 := assign ('tmp', 103)
            refine R.nil ?_
            refine E.ret ?_
            exact ret1 (.bool true) rfl rfl ⟨_, rfl, hE, rfl⟩  -- return 0 path FF
  · refine calls_E (args := [.agg #[v, .int .i64 h], vm]) 104 Try.func6 rfl rfl (by simp) ?_
    have hE : Ext w w := Upd.refl w
    refine E.seq ?_
    refine E.regionP rfl ?_  -- region 0
    refine R.box rfl nofun ?_  -- 2 := box 24 ('tmp', 0)
    intro b2 w1 hb2 hx1 hB2
    replace hb2 := Nat.le_trans hE.size hb2
    replace hE := hE.ext hx1
    replace hB2 : Blk _ b2 24 #[v, .int .i64 h] := hB2
    refine R.assign ?_  -- 4 := assign ('const', ('bool', ('false',)))
    refine R.nil ?_
    refine E.seq ?_
    refine E.seq ?_
    refine E.regionP rfl ?_  -- region 1
    refine R.loadA t24 hB2 rfl rfl rfl trivial ?_  -- 16 := load 24 ('tmp', 2)
    refine R.callE1 ent17 (few _ (hm.ext hE) hl) rfl nofun ?_  -- 17 := call {'callee': ('value', ('func', 17)), 'args': [('tmp', 16)], 'argTypes': [24]}
    rintro v17 w2 hx2 rfl
    rw [hq]
    replace hB2 := hB2.ext hx2
    replace hE := hE.ext hx2
    refine R.not rfl ?_  -- 18 := unOp ('not',) 4 ('tmp', 17)
    refine R.move ?_  -- 19 := move ('tmp', 18)
    refine R.gF rfl rfl rfl ?_  -- 20 := move ('tmp', 1)
    refine R.gF rfl rfl rfl ?_  -- 21 := call {'callee': ('builtin', ('len',)), 'args': [('tmp', 20)], 'argTypes': [48]}
    refine R.gF rfl rfl rfl ?_  -- 22 := binOp ('gtr',) 3 ('tmp', 21) ('const', ('int', ('i64',), 60)) 3
    refine R.pickT rfl ?_  -- 23 := pick ('tmp', 19) ('const', ('bool', ('true',))) ('tmp', 22)
    refine R.nil ?_
    refine E.condT rfl ?_  -- cond t23
    refine E.seq ?_
    refine E.regionP rfl ?_  -- region 2
    refine R.callE0 ent19 (awake _)  nofun ?_  -- 24 := call {'callee': ('value', ('func', 19)), 'args': [], 'argTypes': []}
    rintro v24 w3 hx3 rfl
    replace hB2 := hB2.ext hx3
    replace hE := hE.ext hx3
    refine R.assign ?_  -- 4 := assign ('tmp', 24)
    refine R.nil ?_
    refine E.ret ?_
    exact ret1 (.bool true) rfl rfl ⟨_, rfl, hE, rfl⟩  -- return 0 path 

end Go.Proofs.Ytfdmndkoiheebaa
