/- boxes, alike -/
import Derived.Test.YtfdmndkoiheebaaMaps2
import Derived.Test.YtfdmndkoiheebaaH1
namespace Go.Proofs.Ytfdmndkoiheebaa
open Go Go.RowKit


theorem R.nextB {P : Program} {ops : Array Oper} {S : Bool → Nat → Prop} {dr : Bool} {B : List Nat} {F : Env → World → Prop} {rest : List Oper} {e : Env} {w : World} {d : Tmp} {ty : TypeId} {pos : String} {aft : Array Edge} {x : Operand} {i r k clock : Nat} {es : Array MapEntry} (hI : It w i r es clock k) (hx : ev e x = .pointer (some ⟨i, 0, none⟩)) (hd : dr = false)
    (h : ∀ w' (bb : Bool) (vs : Array Value), vs[0]? = some (.bool bb) → Upd (one i) w w' → (bb = true → ∃ k', k' < k ∧ It w' i r es clock k' ∧ Came w' i r es clock) → wpR P ops S dr (kind B) F rest (upd e d (.tuple vs)) w') : wpR P ops S dr (kind B) F (⟨some d, .next x false, ty, pos, aft, none⟩ :: rest) e w :=
  R.next hI hx hd (fun w' hU => h w' false _ rfl hU nofun) (fun w' k' _ _ hU hk hI' hC => h w' true _ rfl hU fun _ => ⟨k', hk, hI', hC⟩)
theorem It.ne {w : World} {i r k clock b : Nat} {es : Array MapEntry} {ty : TypeId} {cs : Array Value} (h : It w i r es clock k) (hb : Blk w b ty cs) : b ≠ i := fun e => by
  obtain ⟨seen, h1, _⟩ := h.it
  subst e
  unfold Blk at hb
  rw [hb] at h1; cases h1
theorem MapJ.ne_it {w : World} {i r k clock b : Nat} {M : List (Int × Int)} {es : Array MapEntry} (h : MapJ w b M) (hI : It w i r es clock k) : b ≠ i := fun e => by
  obtain ⟨seen, h1, _⟩ := hI.it
  obtain ⟨es', c, h2, _⟩ := h
  subst e
  rw [h2] at h1; cases h1
theorem prefix_fresh {xss : List (List Int)} {i k : Nat} (hn : xss.flatten.Nodup) (hi : i < xss.length) (hk : k < xss[i].length) : (mget (cntM ((xss.take i).flatten ++ xss[i].take k)) xss[i][k]).getD 0 = 0 := by
  obtain ⟨r, hr⟩ := flatten_prefix (xss := xss) (j := k + 1) hi
  rw [hr, ← List.take_append_getElem hk, ← List.append_assoc, List.append_assoc] at hn
  have h1 : ((xss.take i).flatten ++ xss[i].take k).Nodup := (List.nodup_append.1 hn).1
  have h2 : xss[i][k] ∉ (xss.take i).flatten ++ xss[i].take k := fun hm => (List.nodup_append.1 hn).2.2 _ hm _ (by simp) rfl
  rw [cntM_nodup h1, (mget_none (fun p hp => by obtain ⟨x, hx, rfl⟩ := List.mem_map.1 hp; exact fun e => h2 (e ▸ hx))).1]
  rfl

set_option maxHeartbeats 1600000 in
theorem boxes (w : World) {v : Value} {h : Int} {us : List Value} {xss : List (List Int)} (hm : Mat w v us xss) (hl : xss.length < 1000000) (hx : ∀ xs ∈ xss, xs.length < 1000000) (hn : xss.flatten.Nodup) :
    Calls Try.prog 70 #[.agg #[v, .int .i64 h]] w (Ret fun x w' => Ext w w' ∧ ∃ r, x = .map (some r) ∧ MapJ w' r (cntM xss.flatten)) := by
  refine calls_E (args := [.agg #[v, .int .i64 h]]) 29 Try.func70 rfl rfl (by simp) ?_
  have hE : Ext w w := Upd.refl w
  refine E.seq ?_
  refine E.regionP rfl ?_  -- region 0
  refine R.box rfl nofun ?_  -- 1 := box 24 ('tmp', 0)
  intro b1 w1 hb1 hx1 hB1
  replace hb1 := Nat.le_trans hE.size hb1
  replace hE := hE.ext hx1
  replace hB1 : Blk _ b1 24 #[v, .int .i64 h] := hB1
  refine R.assign ?_  -- 2 := assign ('const', ('map', ('none',)))
  refine R.nil ?_
  refine E.seq ?_
  refine E.regionP rfl ?_  -- region 1
  refine R.makeMapJ nofun ?_  -- 8 := makeMap 97 ('none',)
  intro r w8 hr hx8 hJ
  replace hr := Nat.le_trans hE.size hr
  replace hB1 := hB1.ext hx8
  replace hE := hE.ext hx8
  refine R.assign ?_  -- 3 := assign ('tmp', 8)
  refine R.nil ?_
  refine E.seq ?_
  refine E.seq ?_
  refine E.regionP rfl ?_  -- region 2
  refine R.fld fa24_0 rfl ?_  -- 9 := fieldAddr 24 ('tmp', 1) 0
  refine R.loadB t22 hB1 rfl rfl rfl trivial ?_  -- 10 := load 22 ('tmp', 9)
  refine R.len Try.underlying22 hm.row rfl ?_  -- 11 := call {'callee': ('builtin', ('len',)), 'args': [('tmp', 10)], 'argTypes': [22]}
  refine R.move ?_  -- 12 := move ('const', ('int', ('i64',), 0))
  refine R.nil ?_
  refine E.block ?_  -- block 0
  refine E.loop (fun n e wr => ∃ (i : Nat), n = xss.length - i ∧ i ≤ xss.length ∧ Ext w wr ∧ MapJ wr r (cntM (xss.take i).flatten) ∧ Blk wr b1 24 #[v, .int .i64 h] ∧ Has e [(1, .pointer (some ⟨b1, 0, none⟩)), (3, .map (some r)), (10, v), (11, .int .i64 xss.length), (12, .int .i64 (i : Nat))]) (xss.length) ?_ ?_
  · exact ⟨0, rfl, Nat.zero_le _, hE, hJ, hB1, rfl, rfl, rfl, rfl, rfl, trivial⟩
  · rintro n e wr ⟨i, rfl, hi, hE, hJ, hB1, hH⟩
    obtain ⟨e, rfl⟩ := hH.ex
    clear hH
    refine E.seq ?_
    refine E.regionP rfl ?_  -- region 3
    refine R.lss rfl rfl rfl ?_  -- 13 := binOp ('lss',) 3 ('tmp', 12) ('tmp', 11) 3
    refine R.nil ?_
    refine E.seq ?_
    refine E.cond rfl (fun hc13 => ?_) (fun hc13 => ?_)  -- cond t13
    · replace hc13 := dT hc13
      have hi1 : i < xss.length := by omega
      have hxi := hx _ (List.getElem_mem hi1)
      refine E.skip ?_
      refine E.seq ?_
      refine E.block ?_  -- block 1
      refine E.seq ?_
      refine E.regionP rfl ?_  -- region 4
      refine R.ix Try.underlying22 t35 (by decide) hm.row rfl rfl (by omega) ?_  -- 14 := indexAddr 22 ('tmp', 10) ('tmp', 12)
      obtain ⟨u15, hu15, hr15⟩ := hm.get i (by omega)
      refine R.ld t35 (hm.row.ext hE) rfl hu15 rfl (fun _ _ => trivial) ?_  -- 15 := load 35 ('tmp', 14)
      refine R.assign ?_  -- 5 := assign ('tmp', 15)
      refine R.nil ?_
      refine E.seq ?_
      refine E.regionP rfl ?_  -- region 5
      refine R.move ?_  -- 16 := move ('tmp', 5)
      refine R.len Try.underlying35 hr15 rfl ?_  -- 17 := call {'callee': ('builtin', ('len',)), 'args': [('tmp', 16)], 'argTypes': [35]}
      refine R.move ?_  -- 18 := move ('const', ('int', ('i64',), 0))
      refine R.nil ?_
      refine E.block ?_  -- block 2
      refine E.loop (fun n e wr => ∃ (k : Nat), n = xss[i].length - k ∧ k ≤ xss[i].length ∧ Ext w wr ∧ MapJ wr r (cntM ((xss.take i).flatten ++ xss[i].take k)) ∧ Blk wr b1 24 #[v, .int .i64 h] ∧ Has e [(1, .pointer (some ⟨b1, 0, none⟩)), (3, .map (some r)), (10, v), (11, .int .i64 xss.length), (12, .int .i64 (i : Nat)), (16, u15), (17, .int .i64 xss[i].length), (18, .int .i64 (k : Nat))]) (xss[i].length) ?_ ?_
      · exact ⟨0, rfl, Nat.zero_le _, hE, by simpa using hJ, hB1, rfl, rfl, rfl, rfl, rfl, rfl, rfl, rfl, trivial⟩
      · rintro n e wr ⟨k, rfl, hk, hE, hJ, hB1, hH⟩
        obtain ⟨e, rfl⟩ := hH.ex
        clear hH
        refine E.seq ?_
        refine E.regionP rfl ?_  -- region 6
        refine R.lss rfl rfl rfl ?_  -- 19 := binOp ('lss',) 3 ('tmp', 18) ('tmp', 17) 3
        refine R.nil ?_
        refine E.seq ?_
        refine E.cond rfl (fun hc19 => ?_) (fun hc19 => ?_)  -- cond t19
        · replace hc19 := dT hc19
          have hk1 : k < xss[i].length := by omega
          refine E.skip ?_
          refine E.seq ?_
          refine E.block ?_  -- block 3
          refine E.seq ?_
          refine E.regionP rfl ?_  -- region 7
          refine R.ix Try.underlying35 t3 (by decide) hr15 rfl rfl (by omega) ?_  -- 20 := indexAddr 35 ('tmp', 16) ('tmp', 18)
          refine R.ld t3 (hr15.ext hE) rfl (int_at (by omega)) rfl (fun _ _ => trivial) ?_  -- 21 := load 3 ('tmp', 20)
          refine R.assign ?_  -- 7 := assign ('tmp', 21)
          refine R.nil ?_
          refine E.regionP rfl ?_  -- region 8
          refine R.move ?_  -- 22 := move ('tmp', 3)
          refine R.move ?_  -- 23 := move ('tmp', 7)
          refine R.look Try.underlying97 Try.underlying3 t3 hJ.i rfl rfl trivial ?_  -- 24 := lookup 97 ('tmp', 22) ('tmp', 23) ('false',)
          rw [prefix_fresh hn hi1 hk1]
          refine R.add rfl rfl (by decide) (by decide) ?_  -- 25 := binOp ('add',) 3 ('tmp', 24) ('const', ('int', ('i64',), 1)) 3
          refine R.mapSetJ (v := 0 + 1) Try.underlying97 Try.underlying3 hJ rfl rfl rfl nofun ?_  -- None := mapUpdate 97 ('tmp', 22) ('tmp', 23) ('tmp', 25)
          intro w25 hU25 hs25 hJ25
          replace hB1 := hB1.up hU25 (fun e => hJ.i.ne hB1 e.symm)
          replace hE := hE.own hU25 hr
          rw [← prefix_fresh hn hi1 hk1, ← cntM_snoc, List.append_assoc, List.take_append_getElem hk1] at hJ25
          replace hJ := hJ25
          clear hJ25
          refine R.nil ?_
          refine E.regionP rfl ?_  -- region 9
          refine R.addN (n := 1) rfl rfl (by omega) ?_  -- 26 := binOp ('add',) 3 ('tmp', 18) ('const', ('int', ('i64',), 1)) 3
          refine R.move ?_  -- 18 := move ('tmp', 26)
          refine R.nil ?_
          exact ⟨xss[i].length - (k + 1), by omega, k + 1, rfl, by omega, hE, hJ, hB1, rfl, rfl, rfl, rfl, rfl, rfl, rfl, rfl, trivial⟩  -- round end 0 path TT
        · replace hc19 := dF hc19
          refine E.exit ?_  -- exit 2
          refine E.regionP rfl ?_  -- region 10
          refine R.addN (n := 1) rfl rfl (by omega) ?_  -- 27 := binOp ('add',) 3 ('tmp', 12) ('const', ('int', ('i64',), 1)) 3
          refine R.move ?_  -- 12 := move ('tmp', 27)
          refine R.nil ?_
          obtain rfl : k = xss[i].length := by omega  -- round end 1 path TF
          refine ⟨xss.length - (i + 1), by omega, i + 1, rfl, by omega, hE, ?_, hB1, rfl, rfl, rfl, rfl, rfl, trivial⟩
          rw [flatten_take_succ hi1]
          rw [List.take_length] at hJ
          exact hJ
    · replace hc13 := dF hc13
      refine E.exit ?_  -- exit 0
      refine E.seq ?_
      refine E.regionP rfl ?_  -- region 11
      refine R.move ?_  -- 28 := move ('tmp', 3)
      refine R.assign ?_  -- 2 := assign ('tmp', 28)
      refine R.nil ?_
      refine E.ret ?_
      obtain rfl : i = xss.length := by omega  -- return 0 path F
      rw [List.take_length] at hJ
      exact ret1 (.map (some r)) rfl rfl ⟨_, rfl, hE, _, rfl, hJ⟩


theorem boxesE (w : World) {v : Value} {h : Int} {us : List Value} {xss : List (List Int)} (hm : Mat w v us xss) (hR : RightP xss h) :
    Calls Try.prog 70 #[.agg #[v, .int .i64 h]] w (Ret fun x w' => Ext w w' ∧ ∃ r, x = .map (some r) ∧ MapJ w' r (xss.flatten.map fun b => (b, 1))) := by
  have := boxes w (h := h) hm hR.l6 hR.x6 hR.2.2.2.2.2.2
  rw [cntM_nodup hR.2.2.2.2.2.2] at this
  exact this

set_option maxHeartbeats 1600000 in
theorem alike (w : World) {v1 v2 : Value} {h1 h2 : Int} {us1 us2 : List Value} {xss yss : List (List Int)} (hm1 : Mat w v1 us1 xss) (hm2 : Mat w v2 us2 yss) (hR1 : RightP xss h1) (hR2 : RightP yss h2) (hp : xss.flatten.Perm yss.flatten) :
    Calls Try.prog 37 #[.agg #[v1, .int .i64 h1], .agg #[v2, .int .i64 h2]] w (Ret fun x w' => Ext w w' ∧ x = .bool true) := by
  refine calls_E (args := [.agg #[v1, .int .i64 h1], .agg #[v2, .int .i64 h2]]) 33 Try.func37 rfl rfl (by simp) ?_
  have hE : Ext w w := Upd.refl w
  refine E.seq ?_
  refine E.regionP rfl ?_  -- region 0
  refine R.box rfl nofun ?_  -- 2 := box 24 ('tmp', 0)
  intro b2 w1 hb2 hx1 hB2
  replace hb2 := Nat.le_trans hE.size hb2
  replace hE := hE.ext hx1
  replace hB2 : Blk _ b2 24 #[v1, .int .i64 h1] := hB2
  refine R.box rfl nofun ?_  -- 3 := box 24 ('tmp', 1)
  intro b3 w2 hb3 hx2 hB3
  have ne2_3 : b2 ≠ b3 := by have := hB2.lt; omega
  replace hb3 := Nat.le_trans hE.size hb3
  replace hB2 := hB2.ext hx2
  replace hE := hE.ext hx2
  replace hB3 : Blk _ b3 24 #[v2, .int .i64 h2] := hB3
  refine R.assign ?_  -- 4 := assign ('const', ('bool', ('false',)))
  refine R.nil ?_
  refine E.seq ?_
  refine E.regionW (fun _ b => b < w2.heap.size) [] mixed rfl (by kernel_rfl) ?_  -- region 1
  intro w3 hx3 hh3
  replace hB2 := hB2.ext hx3
  replace hB3 := hB3.ext hx3
  replace hE := hE.ext hx3
  have hEs : Ext w3 w3 := Upd.refl _
  have hS0 := hx3.size
  have hSs : ∀ b, b < w3.heap.size → b < w2.heap.size := fun b hb => by rw [hh3] at hb; exact hb
  have hSa : ∀ b, b < w.heap.size → b < w2.heap.size := fun b hb => by have := hE.size; rw [hh3] at this; omega
  have hB2s := hB2
  have hB3s := hB3
  refine R.loadAE t24 hB2s hEs rfl rfl rfl hSs ?_  -- 9 := load 24 ('tmp', 2)
  refine R.callE1 ent70 (boxesE _ (hm1.ext hE) hR1) rfl (fun _ _ hb => Nat.lt_of_lt_of_le hb (Nat.le_trans hS0 hEs.size)) ?_  -- 10 := call {'callee': ('value', ('func', 70)), 'args': [('tmp', 9)], 'argTypes': [24]}
  rintro v10 w4 hx4 ⟨r10, rfl, hJ10⟩
  replace hB2 := hB2.ext hx4
  replace hB3 := hB3.ext hx4
  replace hE := hE.ext hx4
  replace hEs := hEs.ext hx4
  refine R.loadAE t24 hB3s hEs rfl rfl rfl hSs ?_  -- 11 := load 24 ('tmp', 3)
  refine R.callE1 ent70 (boxesE _ (hm2.ext hE) hR2) rfl (fun _ _ hb => Nat.lt_of_lt_of_le hb (Nat.le_trans hS0 hEs.size)) ?_  -- 12 := call {'callee': ('value', ('func', 70)), 'args': [('tmp', 11)], 'argTypes': [24]}
  rintro v12 w5 hx5 ⟨r12, rfl, hJ12⟩
  replace hJ10 := hJ10.ext hx5
  replace hB2 := hB2.ext hx5
  replace hB3 := hB3.ext hx5
  replace hE := hE.ext hx5
  replace hEs := hEs.ext hx5
  refine R.assign ?_  -- 5 := assign ('tmp', 10)
  refine R.assign ?_  -- 6 := assign ('tmp', 12)
  refine R.nil ?_
  refine E.seq ?_
  refine E.seq ?_
  refine E.regionP rfl ?_  -- region 2
  refine R.move ?_  -- 13 := move ('tmp', 5)
  refine R.lenMap Try.underlying97 hJ10.i rfl trivial ?_  -- 14 := call {'callee': ('builtin', ('len',)), 'args': [('tmp', 13)], 'argTypes': [97]}
  refine R.move ?_  -- 15 := move ('tmp', 6)
  refine R.lenMap Try.underlying97 hJ12.i rfl trivial ?_  -- 16 := call {'callee': ('builtin', ('len',)), 'args': [('tmp', 15)], 'argTypes': [97]}
  refine R.neq (b := false) rfl rfl (by rw [List.length_map, List.length_map, hp.length_eq]; simp) ?_  -- 17 := binOp ('neq',) 3 ('tmp', 14) ('tmp', 16) 3
  refine R.nil ?_
  refine E.condF rfl ?_  -- cond t17
  refine E.skip ?_
  refine E.seq ?_
  refine E.seq ?_
  refine E.regionP rfl ?_  -- region 4
  refine R.move ?_  -- 18 := move ('tmp', 5)
  refine R.range Try.underlying97 hJ10 rfl nofun ?_  -- 19 := range 97 ('tmp', 18)
  intro it w19 es clk kk hit hx19 hrd hI
  replace hit := Nat.le_trans hE.size hit
  replace hJ10 := hJ10.ext hx19
  replace hJ12 := hJ12.ext hx19
  replace hB2 := hB2.ext hx19
  replace hB3 := hB3.ext hx19
  replace hE := hE.ext hx19
  refine R.nil ?_
  refine E.block ?_  -- block 0
  refine E.loop (fun n e wr => Ext w wr ∧ MapJ wr r12 (yss.flatten.map fun b => (b, 1)) ∧ It wr it r10 es clk n ∧ Has e [(6, .map (some r12)), (19, .pointer (some ⟨it, 0, none⟩))]) (kk) ?_ ?_
  · exact ⟨hE, hJ12, hI, rfl, rfl, trivial⟩
  · rintro n e wr ⟨hE, hJ12, hI, hH⟩
    obtain ⟨e, rfl⟩ := hH.ex
    clear hH
    refine E.seq ?_
    refine E.regionP rfl ?_  -- region 5
    refine R.nextB hI rfl rfl ?_  -- 20 := next ('tmp', 19) ('false',)
    intro w20 bb vs hvs hU20 hnx
    replace hJ12 := hJ12.up hU20 (hJ12.ne_it hI)
    replace hE := hE.own hU20 hit
    clear hI
    refine R.extract (v := .bool bb) rfl hvs ?_  -- 21 := extract ('tmp', 20) 0
    refine R.nil ?_
    refine E.seq ?_
    refine E.cond rfl (fun hc21 => ?_) (fun hc21 => ?_)  -- cond t21
    · obtain ⟨k1, hk1, hI, hC⟩ := hnx hc21
      refine E.skip ?_
      refine E.block ?_  -- block 1
      refine E.seq ?_
      refine E.regionP rfl ?_  -- region 6
      refine R.entry hC hrd rfl rfl ?_  -- 22 := entry ('tmp', 19)
      intro p hpm
      obtain ⟨q, hq, rfl⟩ := List.mem_map.1 hpm
      refine R.extract rfl rfl ?_  -- 23 := extract ('tmp', 22) 0
      refine R.extract rfl rfl ?_  -- 24 := extract ('tmp', 22) 1
      refine R.assign ?_  -- 7 := assign ('tmp', 23)
      refine R.assign ?_  -- 8 := assign ('tmp', 24)
      refine R.nil ?_
      refine E.seq ?_
      refine E.regionP rfl ?_  -- region 7
      refine R.move ?_  -- 25 := move ('tmp', 8)
      refine R.neq (b := false) rfl rfl (by simp) ?_  -- 26 := binOp ('neq',) 3 ('tmp', 25) ('const', ('int', ('i64',), 1)) 3
      refine R.move ?_  -- 27 := move ('tmp', 26)
      refine R.gT rfl rfl ?_
      refine R.move ?_  -- 28 := move ('tmp', 6)
      refine R.gT rfl rfl ?_
      refine R.move ?_  -- 29 := move ('tmp', 7)
      refine R.gT rfl rfl ?_
      refine R.look Try.underlying97 Try.underlying3 t3 hJ12.i rfl rfl trivial ?_  -- 30 := lookup 97 ('tmp', 28) ('tmp', 29) ('false',)
      rw [mget_one (hp.mem_iff.1 hq)]
      refine R.gT rfl rfl ?_
      refine R.neq (b := false) rfl rfl (by simp) ?_  -- 31 := binOp ('neq',) 3 ('tmp', 30) ('const', ('int', ('i64',), 1)) 3
      refine R.pickF rfl ?_  -- 32 := pick ('tmp', 27) ('const', ('bool', ('true',))) ('tmp', 31)
      refine R.nil ?_
      refine E.condF rfl ?_  -- cond t32
      refine E.skip ?_
      exact ⟨k1, hk1, hE, hJ12, hI, rfl, rfl, trivial⟩  -- round end 0 path T
    · refine E.exit ?_  -- exit 0
      refine E.seq ?_
      refine E.regionP rfl ?_  -- region 9
      refine R.assign ?_  -- 4 := assign ('const', ('bool', ('true',)))
      refine R.nil ?_
      refine E.ret ?_
      exact ret1 (.bool true) rfl rfl ⟨_, rfl, hE, rfl⟩  -- return 0 path F

end Go.Proofs.Ytfdmndkoiheebaa
