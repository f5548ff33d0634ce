/- Room, Boxes -/
import Derived.Test.YtfdmndkoiheebaaB3
namespace Go.Proofs.Ytfdmndkoiheebaa
open Go Go.RowKit


def roomL (xss : List (List Int)) (h : Int) : Int × Int := if rightB xss h then (xss.length * h - xss.flatten.length, 0) else (0, 2)
theorem room_sum {xss : List (List Int)} {h : Int} {i : Nat} (hi : i < xss.length) : ((i : Int) * h - ((xss.take i).flatten.length : Int)) + (h - (xss[i].length : Int)) = ((i + 1 : Nat) : Int) * h - ((xss.take (i + 1)).flatten.length : Int) := by
  rw [flatten_take_succ hi, List.length_append]
  simp [Int.add_mul]; omega
theorem flatten_le {xss : List (List Int)} {k : Nat} (h : ∀ xs ∈ xss, xs.length ≤ k) : xss.flatten.length ≤ xss.length * k := by
  induction xss with
  | nil => simp
  | cons x xss ih =>
    have h1 := h x List.mem_cons_self
    have h2 := ih (fun xs hx => h xs (List.mem_cons_of_mem _ hx))
    simp [Nat.add_mul] at *; omega
theorem flatten_take_le {xss : List (List Int)} {i : Nat} : (xss.take i).flatten.length ≤ xss.flatten.length := by
  conv => rhs; rw [← List.take_append_drop i xss, List.flatten_append, List.length_append]
  omega
theorem mul_bounds {i : Nat} {h : Int} (hi : i ≤ 30) (h1 : 1 ≤ h) (h2 : h ≤ 6) : 0 ≤ (i : Int) * h ∧ (i : Int) * h ≤ 180 := by
  have a1 : (0 : Int) ≤ i := by omega
  have a2 : (i : Int) ≤ 30 := by omega
  exact ⟨Int.mul_nonneg a1 (by omega), by
    have := Int.mul_le_mul a2 h2 (by omega) (by omega)
    omega⟩

theorem room (w : World) {v : Value} {h : Int} {us : List Value} {xss : List (List Int)} (hm : Mat w v us xss) (hl : xss.length < 1000000) (hx : ∀ xs ∈ xss, xs.length < 1000000) :
    Calls Try.prog 29 #[.agg #[v, .int .i64 h]] w (Ret fun r w' => Ext w w' ∧ r = .tuple #[.int .i64 (roomL xss h).1, .int .i64 (roomL xss h).2]) := by
  cases hR : rightB xss h
  rotate_left
  · refine calls_E (args := [.agg #[v, .int .i64 h]]) 26 Try.func29 rfl rfl (by simp) ?_
    have hE : Ext w w := Upd.refl w
    refine E.seq ?_
    refine E.regionP rfl ?_  -- region 0
    refine R.box rfl nofun ?_  -- 1 := box 24 ('tmp', 0)
    intro b1 w1 hb1 hx1 hB1
    replace hb1 := Nat.le_trans hE.size hb1
    replace hE := hE.ext hx1
    replace hB1 : Blk _ b1 24 #[v, .int .i64 h] := hB1
    refine R.assign ?_  -- 2 := assign ('const', ('int', ('i64',), 0))
    refine R.assign ?_  -- 3 := assign ('const', ('int', ('i64',), 0))
    refine R.nil ?_
    refine E.seq ?_
    refine E.seq ?_
    refine E.regionP rfl ?_  -- region 1
    refine R.loadA t24 hB1 rfl rfl rfl trivial ?_  -- 7 := load 24 ('tmp', 1)
    refine R.callE1 ent27 (right _ (hm.ext hE) hl hx) rfl nofun ?_  -- 8 := call {'callee': ('value', ('func', 27)), 'args': [('tmp', 7)], 'argTypes': [24]}
    rintro v8 w2 hx2 rfl
    rw [hR]
    replace hB1 := hB1.ext hx2
    replace hE := hE.ext hx2
    refine R.not rfl ?_  -- 9 := unOp ('not',) 4 ('tmp', 8)
    refine R.nil ?_
    refine E.condF rfl ?_  -- cond t9
    refine E.skip ?_
    refine E.seq ?_
    refine E.regionP rfl ?_  -- region 3
    refine R.assign ?_  -- 4 := assign ('const', ('int', ('i64',), 0))
    refine R.nil ?_
    refine E.seq ?_
    refine E.seq ?_
    refine E.regionP rfl ?_  -- region 4
    refine R.fld fa24_0 rfl ?_  -- 10 := fieldAddr 24 ('tmp', 1) 0
    refine R.loadB t22 hB1 rfl rfl rfl trivial ?_  -- 11 := load 22 ('tmp', 10)
    refine R.len Try.underlying22 hm.row rfl ?_  -- 12 := call {'callee': ('builtin', ('len',)), 'args': [('tmp', 11)], 'argTypes': [22]}
    refine R.move ?_  -- 13 := move ('const', ('int', ('i64',), 0))
    refine R.nil ?_
    refine E.block ?_  -- block 0
    refine E.loop (fun n e wr => ∃ i : Nat, n = xss.length - i ∧ i ≤ xss.length ∧ Ext w wr ∧ Blk wr b1 24 #[v, .int .i64 h] ∧ Has e [(1, .pointer (some ⟨b1, 0, none⟩)), (4, .int .i64 ((i : Int) * h - ((xss.take i).flatten.length : Int))), (11, v), (12, .int .i64 xss.length), (13, .int .i64 i)]) (xss.length) ?_ ?_
    · exact ⟨0, rfl, Nat.zero_le _, hE, hB1, rfl, by show (_ : Value) = _; simp [upd, ev], rfl, rfl, rfl, trivial⟩
    · rintro n e wr ⟨i, rfl, hi, hE, hB1, hH⟩
      obtain ⟨e, rfl⟩ := hH.ex
      clear hH
      have hP := rightB_true.1 hR
      have hb1' := mul_bounds (i := i) (h := h) (by have := hP.2.2.2.1; omega) hP.1 hP.2.1
      have hb2' := flatten_take_le (xss := xss) (i := i)
      have hb3' := flatten_le (sum_lengths hP)
      have hb4' := hP.2.2.2.1
      have hb5' := hP.2.1
      have hb6' := hP.1
      refine E.seq ?_
      refine E.regionP rfl ?_  -- region 5
      refine R.lss rfl rfl rfl ?_  -- 14 := binOp ('lss',) 3 ('tmp', 13) ('tmp', 12) 3
      refine R.nil ?_
      refine E.seq ?_
      refine E.cond rfl (fun hc14 => ?_) (fun hc14 => ?_)  -- cond t14
      · replace hc14 := dT hc14
        have hb7 := sum_lengths hP xss[i] (List.getElem_mem _)
        refine E.skip ?_
        refine E.seq ?_
        refine E.block ?_  -- block 1
        refine E.seq ?_
        refine E.regionP rfl ?_  -- region 6
        refine R.ix Try.underlying22 t35 (by decide) hm.row rfl rfl (by omega) ?_  -- 15 := indexAddr 22 ('tmp', 11) ('tmp', 13)
        obtain ⟨u16, hu16, hr16⟩ := hm.get i (by omega)
        refine R.ld t35 (hm.row.ext hE) rfl hu16 rfl (fun _ _ => trivial) ?_  -- 16 := load 35 ('tmp', 15)
        refine R.assign ?_  -- 6 := assign ('tmp', 16)
        refine R.nil ?_
        refine E.regionP rfl ?_  -- region 7
        refine R.move ?_  -- 17 := move ('tmp', 4)
        refine R.fld fa24_1 rfl ?_  -- 18 := fieldAddr 24 ('tmp', 1) 1
        refine R.loadB t3 hB1 rfl rfl rfl trivial ?_  -- 19 := load 3 ('tmp', 18)
        refine R.move ?_  -- 20 := move ('tmp', 6)
        refine R.len Try.underlying35 hr16 rfl ?_  -- 21 := call {'callee': ('builtin', ('len',)), 'args': [('tmp', 20)], 'argTypes': [35]}
        refine R.sub rfl rfl (by omega) (by omega) ?_  -- 22 := binOp ('sub',) 3 ('tmp', 19) ('tmp', 21) 3
        refine R.add rfl rfl (by omega) (by omega) ?_  -- 23 := binOp ('add',) 3 ('tmp', 17) ('tmp', 22) 3
        refine R.assign ?_  -- 4 := assign ('tmp', 23)
        refine R.nil ?_
        refine E.regionP rfl ?_  -- region 8
        refine R.addN (n := 1) rfl rfl (by omega) ?_  -- 24 := binOp ('add',) 3 ('tmp', 13) ('const', ('int', ('i64',), 1)) 3
        refine R.move ?_  -- 13 := move ('tmp', 24)
        refine R.nil ?_
        refine ⟨xss.length - (i + 1), by omega, i + 1, rfl, by omega, hE, hB1, rfl, ?_, rfl, rfl, rfl, trivial⟩  -- round end 0 path T
        rw [← room_sum (by omega)]
        rfl
      · replace hc14 := dF hc14
        refine E.exit ?_  -- exit 0
        refine E.seq ?_
        refine E.regionP rfl ?_  -- region 9
        refine R.move ?_  -- 25 := move ('tmp', 4)
        refine R.assign ?_  -- 2 := assign ('tmp', 25)
        refine R.assign ?_  -- 3 := assign ('const', ('int', ('i64',), 0))
        refine R.nil ?_
        refine E.ret ?_
        refine ret2 (.int .i64 ((i : Int) * h - ((xss.take i).flatten.length : Int))) (.int .i64 0) rfl rfl rfl ⟨_, rfl, hE, ?_⟩  -- return 0 path F
        obtain rfl : i = xss.length := by omega
        rw [List.take_length]
        simp [roomL, hR]
  · refine calls_E (args := [.agg #[v, .int .i64 h]]) 26 Try.func29 rfl rfl (by simp) ?_
    have hE : Ext w w := Upd.refl w
    refine E.seq ?_
    refine E.regionP rfl ?_  -- region 0
    refine R.box rfl nofun ?_  -- 1 := box 24 ('tmp', 0)
    intro b1 w1 hb1 hx1 hB1
    replace hb1 := Nat.le_trans hE.size hb1
    replace hE := hE.ext hx1
    replace hB1 : Blk _ b1 24 #[v, .int .i64 h] := hB1
    refine R.assign ?_  -- 2 := assign ('const', ('int', ('i64',), 0))
    refine R.assign ?_  -- 3 := assign ('const', ('int', ('i64',), 0))
    refine R.nil ?_
    refine E.seq ?_
    refine E.seq ?_
    refine E.regionP rfl ?_  -- region 1
    refine R.loadA t24 hB1 rfl rfl rfl trivial ?_  -- 7 := load 24 ('tmp', 1)
    refine R.callE1 ent27 (right _ (hm.ext hE) hl hx) rfl nofun ?_  -- 8 := call {'callee': ('value', ('func', 27)), 'args': [('tmp', 7)], 'argTypes': [24]}
    rintro v8 w2 hx2 rfl
    rw [hR]
    replace hB1 := hB1.ext hx2
    replace hE := hE.ext hx2
    refine R.not rfl ?_  -- 9 := unOp ('not',) 4 ('tmp', 8)
    refine R.nil ?_
    refine E.condT rfl ?_  -- cond t9
    refine E.seq ?_
    refine E.regionP rfl ?_  -- region 2
    refine R.assign ?_  -- 2 := assign ('const', ('int', ('i64',), 0))
    refine R.assign ?_  -- 3 := assign ('const', ('int', ('i64',), 2))
    refine R.nil ?_
    refine E.ret ?_
    refine ret2 (.int .i64 0) (.int .i64 2) rfl rfl rfl ⟨_, rfl, hE, ?_⟩  -- return 0 path 
    simp [roomL, hR]

theorem rBoxes (w : World) {v : Value} {h : Int} {us : List Value} {xss : List (List Int)} (hm : Mat w v us xss) (hl : xss.length < 100000) (hx : ∀ xs ∈ xss, xs.length ≤ 10) :
    Calls Try.prog 90 #[.agg #[v, .int .i64 h]] w (Ret fun r w' => Ext w w' ∧ SInts w' r xss.flatten ∧ Fresh w r) := by
  refine calls_E (args := [.agg #[v, .int .i64 h]]) 20 Try.func90 rfl rfl (by simp) ?_
  have hE : Ext w w := Upd.refl w
  refine E.seq ?_
  refine E.regionP rfl ?_  -- region 0
  refine R.box rfl nofun ?_  -- 1 := box 54 ('tmp', 0)
  intro b1 w1 hb1 hx1 hB1
  replace hb1 := Nat.le_trans hE.size hb1
  replace hE := hE.ext hx1
  replace hB1 : Blk _ b1 54 #[v, .int .i64 h] := hB1
  refine R.assign ?_  -- 2 := assign ('const', ('slice', ('none',), 0, 0))
  refine R.nil ?_
  refine E.seq ?_
  refine E.regionP rfl ?_  -- region 1
  refine R.assign ?_  -- 3 := assign ('const', ('slice', ('none',), 0, 0))
  refine R.nil ?_
  refine E.seq ?_
  refine E.seq ?_
  refine E.regionP rfl ?_  -- region 2
  refine R.assign ?_  -- 4 := assign ('const', ('int', ('i64',), 0))
  refine R.nil ?_
  refine E.block ?_  -- block 0
  refine E.loop (fun n e wr => ∃ (i : Nat) (vv : Value), n = xss.length - i ∧ i ≤ xss.length ∧ Ext w wr ∧ Blk wr b1 54 #[v, .int .i64 h] ∧ SInts wr vv (xss.take i).flatten ∧ Fresh w vv ∧ Has e [(1, .pointer (some ⟨b1, 0, none⟩)), (3, vv), (4, .int .i64 i)]) (xss.length) ?_ ?_
  · exact ⟨0, _, rfl, Nat.zero_le _, hE, hB1, SInts.nil _, Fresh.nil _, rfl, rfl, rfl, trivial⟩
  · rintro n e wr ⟨i, vv, rfl, hi, hE, hB1, hS, hf, hH⟩
    obtain ⟨e, rfl⟩ := hH.ex
    clear hH
    refine E.seq ?_
    refine E.seq ?_
    refine E.regionP rfl ?_  -- region 3
    refine R.move ?_  -- 5 := move ('tmp', 4)
    refine R.fld fa54_0 rfl ?_  -- 6 := fieldAddr 54 ('tmp', 1) 0
    refine R.loadB t22 hB1 rfl rfl rfl trivial ?_  -- 7 := load 22 ('tmp', 6)
    refine R.len Try.underlying22 hm.row rfl ?_  -- 8 := call {'callee': ('builtin', ('len',)), 'args': [('tmp', 7)], 'argTypes': [22]}
    refine R.lss rfl rfl rfl ?_  -- 9 := binOp ('lss',) 3 ('tmp', 5) ('tmp', 8) 3
    refine R.nil ?_
    refine E.cond rfl (fun hc9 => ?_) (fun hc9 => ?_)  -- cond t9
    · replace hc9 := dT hc9
      refine E.skip ?_
      refine E.seq ?_
      refine E.block ?_  -- block 1
      refine E.regionP rfl ?_  -- region 5
      refine R.move ?_  -- 12 := move ('tmp', 3)
      refine R.fld fa54_0 rfl ?_  -- 13 := fieldAddr 54 ('tmp', 1) 0
      refine R.loadB t22 hB1 rfl rfl rfl trivial ?_  -- 14 := load 22 ('tmp', 13)
      refine R.move ?_  -- 15 := move ('tmp', 4)
      refine R.ix Try.underlying22 t35 (by decide) hm.row rfl rfl (by omega) ?_  -- 16 := indexAddr 22 ('tmp', 14) ('tmp', 15)
      obtain ⟨u17, hu17, hr17⟩ := hm.get i (by omega)
      refine R.ld t35 (hm.row.ext hE) rfl hu17 rfl (fun _ _ => trivial) ?_  -- 17 := load 35 ('tmp', 16)
      have hb1' := flatten_take_le (xss := xss) (i := i)  -- 18 := call {'callee': ('builtin', ('append',)), 'args': [('tmp', 12), ('tmp', 17)], 'argTypes': [35, 35]}
      have hb3' := flatten_le hx
      have hb4' := hx xss[i] (List.getElem_mem _)
      refine R.append Try.underlying35 Try.underlying35 t3 (by decide) rfl hS (hr17.ext hE) ints_one rfl rfl (by omega) (by omega) nofun ?_
      intro v18 w18 hU18 hS18 hd18
      have hf18 := Fresh.app hE hf hd18
      have hBx : b1 < wr.heap.size := hB1.lt
      replace hB1 := hB1.up hU18 (fun e => by
        obtain ⟨a', c', rfl, _, _, h'⟩ := hS
        rcases h' with ⟨rfl, _⟩ | ⟨b', off', cur', rfl, hb', _⟩
        · simp [vblk] at e
        · simp [vblk] at e; subst e; exact absurd (hb'.inj hB1).2 (by decide))
      replace hE := hE.app hU18 hf
      refine R.assign ?_  -- 3 := assign ('tmp', 18)
      refine R.nil ?_
      refine E.regionP rfl ?_  -- region 4
      refine R.move ?_  -- 10 := move ('tmp', 4)
      refine R.addN (n := 1) rfl rfl (by omega) ?_  -- 11 := binOp ('add',) 3 ('tmp', 10) ('const', ('int', ('i64',), 1)) 3
      refine R.assign ?_  -- 4 := assign ('tmp', 11)
      refine R.nil ?_
      refine ⟨xss.length - (i + 1), by omega, i + 1, v18, rfl, by omega, hE, hB1, ?_, hf18, rfl, rfl, rfl, trivial⟩  -- round end 0 path T
      rw [flatten_take_succ (by omega)]
      exact SInts.app hS18 rfl
    · replace hc9 := dF hc9
      refine E.exit ?_  -- exit 0
      refine E.seq ?_
      refine E.regionP rfl ?_  -- region 6
      refine R.move ?_  -- 19 := move ('tmp', 3)
      refine R.assign ?_  -- 2 := assign ('tmp', 19)
      refine R.nil ?_
      refine E.ret ?_
      obtain rfl : i = xss.length := by omega  -- return 0 path F
      rw [List.take_length] at hS
      exact ret1 vv rfl rfl ⟨_, rfl, hE, hS, hf⟩

end Go.Proofs.Ytfdmndkoiheebaa
