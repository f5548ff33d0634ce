/- Lent slices are kept -/
import Derived.Test.YtfdmndkoiheebaaA5
namespace Go.Proofs.Ytfdmndkoiheebaa
open Go Go.RowKit


theorem cut_cut (v : Value) (a : Option Addr) (n c l r : Nat) (h : v = .slice a n c) : cut 1 (cut 1 v 0 l) 0 r = .slice a r c := by
  subst h
  have e : ∀ p : Option Addr, (if c = 0 then p else p.map (·.add (0 * 1))) = p := by
    intro p
    split
    · rfl
    · cases p <;> simp [Addr.add]
  simp only [cut, e, Nat.sub_zero]
theorem Lent.full {w : World} {v : Value} {xs : List Int} (h : Lent w v xs) : SInts w (cut 1 v 0 (xs.length + 12)) (xs ++ marks 12) := by
  obtain ⟨v0, h, rfl⟩ := h
  obtain ⟨a, c, hv, _⟩ := id h
  rw [cut_cut v0 a _ c _ _ hv]
  have : (xs ++ marks 12).length = xs.length + 12 := by simp [marks_length]
  rw [this] at hv
  rw [← hv]
  exact h
theorem Lent.cap {w : World} {v : Value} {xs : List Int} (h : Lent w v xs) : ∃ a c, v = .slice a xs.length c ∧ xs.length + 12 ≤ c := by
  obtain ⟨v0, h, rfl⟩ := h
  obtain ⟨a, c, rfl, hc, _⟩ := h
  have : (xs ++ marks 12).length = xs.length + 12 := by simp [marks_length]
  exact ⟨_, _, rfl, by omega⟩
theorem lent_left {xs : List Int} {i : Nat} (h : i < xs.length) : (ints (xs ++ marks 12))[i]? = some (.int .i64 xs[i]) := by
  simp [ints, List.getElem?_append_left, h]
theorem lent_right {xs : List Int} {i : Nat} (h : xs.length ≤ i) (h2 : i < xs.length + 12) : (ints (xs ++ marks 12))[i]? = some (.int .i64 (markL 1 (i - xs.length))) := by
  have : i - xs.length < 12 := by omega
  rw [show ints (xs ++ marks 12) = ints xs ++ ints (marks 12) by simp [ints], List.getElem?_append_right (by simpa using h)]
  simp [ints, marks, this]

theorem keptInts (w : World) {v1 v2 : Value} {xs : List Int} (h1 : Lent w v1 xs) (h2 : Ints w v2 xs) (hl : xs.length < 1000000) :
    Calls Try.prog 83 #[v1, v2] w (Ret fun r w' => Ext w w' ∧ r = .bool true) := by
  have hF := h1.full.row
  have hlen : (xs ++ marks 12).length = xs.length + 12 := by simp [marks_length]
  obtain ⟨a1, c1, hv1, hc1⟩ := h1.cap
  have h1r := h1.ints
  refine calls_E (args := [v1, v2]) 58 Try.func83 rfl rfl (by simp) ?_
  have hE : Ext w w := Upd.refl w
  refine E.seq ?_
  refine E.regionP rfl ?_  -- region 0
  refine R.assign ?_  -- 4 := assign ('const', ('bool', ('false',)))
  refine R.nil ?_
  refine E.seq ?_
  refine E.seq ?_
  refine E.regionP rfl ?_  -- region 1
  refine R.move ?_  -- 7 := move ('tmp', 0)
  refine R.len Try.underlying35 h1r rfl ?_  -- 8 := call {'callee': ('builtin', ('len',)), 'args': [('tmp', 7)], 'argTypes': [35]}
  refine R.move ?_  -- 9 := move ('tmp', 1)
  refine R.len Try.underlying35 h2 rfl ?_  -- 10 := call {'callee': ('builtin', ('len',)), 'args': [('tmp', 9)], 'argTypes': [35]}
  refine R.neq (b := false) rfl rfl (by simp) ?_  -- 11 := binOp ('neq',) 3 ('tmp', 8) ('tmp', 10) 3
  refine R.nil ?_
  refine E.condF rfl ?_  -- cond t11
  refine E.skip ?_
  refine E.seq ?_
  refine E.regionP rfl ?_  -- region 3
  refine R.move ?_  -- 12 := move ('tmp', 0)
  refine R.move ?_  -- 13 := move ('tmp', 1)
  refine R.len Try.underlying35 h2 rfl ?_  -- 14 := call {'callee': ('builtin', ('len',)), 'args': [('tmp', 13)], 'argTypes': [35]}
  refine R.addN (n := 12) rfl rfl (by omega) ?_  -- 15 := binOp ('add',) 3 ('tmp', 14) ('const', ('int', ('i64',), 12)) 3
  refine R.slc (l := 0) (r := xs.length + 12) Try.underlying35 t3 rfl hv1 rfl ⟨_, rfl⟩ (Nat.zero_le _) hc1 ?_  -- 16 := slice 35 ('tmp', 12) ('none',) ('some', ('tmp', 15)) ('none',)
  refine R.assign ?_  -- 5 := assign ('tmp', 16)
  refine R.nil ?_
  refine E.seq ?_
  refine E.seq ?_
  refine E.regionP rfl ?_  -- region 4
  refine R.assign ?_  -- 6 := assign ('const', ('int', ('i64',), 0))
  refine R.nil ?_
  refine E.block ?_  -- block 0
  refine E.loop (fun n e wr => ∃ i : Nat, n = xs.length + 12 - i ∧ i ≤ xs.length + 12 ∧ Ext w wr ∧ Has e [(1, v2), (5, cut 1 v1 0 (xs.length + 12)), (6, .int .i64 i)]) (xs.length + 12) ?_ ?_
  · exact ⟨0, rfl, Nat.zero_le _, hE, rfl, rfl, rfl, trivial⟩
  · rintro n e wr ⟨i, rfl, hi, hE, hH⟩
    obtain ⟨e, rfl⟩ := hH.ex
    clear hH
    refine E.seq ?_
    refine E.seq ?_
    refine E.regionP rfl ?_  -- region 5
    refine R.move ?_  -- 17 := move ('tmp', 6)
    refine R.move ?_  -- 18 := move ('tmp', 5)
    refine R.len Try.underlying35 hF rfl ?_  -- 19 := call {'callee': ('builtin', ('len',)), 'args': [('tmp', 18)], 'argTypes': [35]}
    refine R.lss rfl rfl rfl ?_  -- 20 := binOp ('lss',) 3 ('tmp', 17) ('tmp', 19) 3
    refine R.nil ?_
    refine E.cond rfl (fun hc20 => ?_) (fun hc20 => ?_)  -- cond t20
    · replace hc20 := dT hc20
      refine E.skip ?_
      refine E.seq ?_
      refine E.block ?_  -- block 1
      refine E.seq ?_
      by_cases hlt : i < xs.length
      · refine E.regionW (fun _ b => b < wr.heap.size) [] mixed rfl (by kernel_rfl) ?_  -- region 7
        intro w1 hx1 hh1
        replace hE := hE.ext hx1
        have hEs : Ext w1 w1 := Upd.refl _
        have hS0 := hx1.size
        have hSs : ∀ b, b < w1.heap.size → b < wr.heap.size := fun b hb => by rw [hh1] at hb; exact hb
        have hSa : ∀ b, b < w.heap.size → b < wr.heap.size := fun b hb => by have := hE.size; rw [hh1] at this; omega
        refine R.move ?_  -- 23 := move ('tmp', 6)
        refine R.move ?_  -- 24 := move ('tmp', 1)
        refine R.len Try.underlying35 h2 rfl ?_  -- 25 := call {'callee': ('builtin', ('len',)), 'args': [('tmp', 24)], 'argTypes': [35]}
        refine R.lss (b := true) rfl rfl (decide_eq_true (by omega)) ?_  -- 26 := binOp ('lss',) 3 ('tmp', 23) ('tmp', 25) 3
        refine R.move ?_  -- 27 := move ('tmp', 26)
        refine R.gT rfl rfl ?_
        refine R.move ?_  -- 28 := move ('tmp', 5)
        refine R.gT rfl rfl ?_
        refine R.move ?_  -- 29 := move ('tmp', 6)
        refine R.gT rfl rfl ?_
        refine R.ix Try.underlying35 t3 (by decide) hF rfl rfl (by omega) ?_  -- 30 := indexAddr 35 ('tmp', 28) ('tmp', 29)
        refine R.gT rfl rfl ?_
        refine R.ldE t3 hF hE rfl (lent_left hlt) rfl hSa ?_  -- 31 := load 3 ('tmp', 30)
        refine R.gT rfl rfl ?_
        refine R.move ?_  -- 32 := move ('tmp', 1)
        refine R.gT rfl rfl ?_
        refine R.move ?_  -- 33 := move ('tmp', 6)
        refine R.gT rfl rfl ?_
        refine R.ix Try.underlying35 t3 (by decide) h2 rfl rfl (by omega) ?_  -- 34 := indexAddr 35 ('tmp', 32) ('tmp', 33)
        refine R.gT rfl rfl ?_
        refine R.ldE t3 h2 hE rfl (int_at hlt) rfl hSa ?_  -- 35 := load 3 ('tmp', 34)
        refine R.gT rfl rfl ?_
        refine R.eql (b := true) rfl rfl (decide_eq_true rfl) ?_  -- 36 := binOp ('eql',) 3 ('tmp', 31) ('tmp', 35) 3
        refine R.gT rfl rfl ?_
        refine R.not rfl ?_  -- 37 := unOp ('not',) 4 ('tmp', 36)
        refine R.pickT rfl ?_  -- 38 := pick ('tmp', 27) ('tmp', 37) ('const', ('bool', ('false',)))
        refine R.move ?_  -- 39 := move ('tmp', 38)
        refine R.gT rfl rfl ?_
        refine R.move ?_  -- 40 := move ('tmp', 6)
        refine R.gT rfl rfl ?_
        refine R.move ?_  -- 41 := move ('tmp', 1)
        refine R.gT rfl rfl ?_
        refine R.len Try.underlying35 h2 rfl ?_  -- 42 := call {'callee': ('builtin', ('len',)), 'args': [('tmp', 41)], 'argTypes': [35]}
        refine R.gT rfl rfl ?_
        refine R.geq (b := false) rfl rfl (decide_eq_false (by omega)) ?_  -- 43 := binOp ('geq',) 3 ('tmp', 40) ('tmp', 42) 3
        refine R.gT rfl rfl ?_
        refine R.move ?_  -- 44 := move ('tmp', 43)
        refine R.gF rfl rfl rfl ?_  -- 45 := move ('tmp', 5)
        refine R.gF rfl rfl rfl ?_  -- 46 := move ('tmp', 6)
        refine R.gF rfl rfl rfl ?_  -- 47 := indexAddr 35 ('tmp', 45) ('tmp', 46)
        refine R.gF rfl rfl rfl ?_  -- 48 := load 3 ('tmp', 47)
        refine R.gF rfl rfl rfl ?_  -- 49 := move ('tmp', 6)
        refine R.gF rfl rfl rfl ?_  -- 50 := move ('tmp', 1)
        refine R.gF rfl rfl rfl ?_  -- 51 := call {'callee': ('builtin', ('len',)), 'args': [('tmp', 50)], 'argTypes': [35]}
        refine R.gF rfl rfl rfl ?_  -- 52 := binOp ('sub',) 3 ('tmp', 49) ('tmp', 51) 3
        refine R.gF rfl rfl rfl ?_  -- 53 := call {'callee': ('value', ('func', 97)), 'args': [('const', ('int', ('i64',), 1)), ('tmp', 52)], 'argTypes': [3, 3]}
        refine R.gF rfl rfl rfl ?_  -- 54 := binOp ('eql',) 3 ('tmp', 48) ('tmp', 53) 3
        refine R.gF rfl rfl rfl ?_  -- 55 := unOp ('not',) 4 ('tmp', 54)
        refine R.gT rfl rfl ?_
        refine R.pickF rfl ?_  -- 56 := pick ('tmp', 44) ('tmp', 55) ('const', ('bool', ('false',)))
        refine R.pickF rfl ?_  -- 57 := pick ('tmp', 39) ('const', ('bool', ('true',))) ('tmp', 56)
        refine R.nil ?_
        refine E.condF rfl ?_  -- cond t57
        refine E.skip ?_
        refine E.regionP rfl ?_  -- region 6
        refine R.move ?_  -- 21 := move ('tmp', 6)
        refine R.addN (n := 1) rfl rfl (by omega) ?_  -- 22 := binOp ('add',) 3 ('tmp', 21) ('const', ('int', ('i64',), 1)) 3
        refine R.assign ?_  -- 6 := assign ('tmp', 22)
        refine R.nil ?_
        exact ⟨xs.length + 12 - (i + 1), by omega, i + 1, rfl, by omega, hE, rfl, rfl, rfl, trivial⟩  -- round end 0 path T0
      · refine E.regionW (fun _ b => b < wr.heap.size) [] mixed rfl (by kernel_rfl) ?_  -- region 7
        intro w2 hx2 hh2
        replace hE := hE.ext hx2
        have hEs : Ext w2 w2 := Upd.refl _
        have hS0 := hx2.size
        have hSs : ∀ b, b < w2.heap.size → b < wr.heap.size := fun b hb => by rw [hh2] at hb; exact hb
        have hSa : ∀ b, b < w.heap.size → b < wr.heap.size := fun b hb => by have := hE.size; rw [hh2] at this; omega
        refine R.move ?_  -- 23 := move ('tmp', 6)
        refine R.move ?_  -- 24 := move ('tmp', 1)
        refine R.len Try.underlying35 h2 rfl ?_  -- 25 := call {'callee': ('builtin', ('len',)), 'args': [('tmp', 24)], 'argTypes': [35]}
        refine R.lss (b := false) rfl rfl (decide_eq_false (by omega)) ?_  -- 26 := binOp ('lss',) 3 ('tmp', 23) ('tmp', 25) 3
        refine R.move ?_  -- 27 := move ('tmp', 26)
        refine R.gF rfl rfl rfl ?_  -- 28 := move ('tmp', 5)
        refine R.gF rfl rfl rfl ?_  -- 29 := move ('tmp', 6)
        refine R.gF rfl rfl rfl ?_  -- 30 := indexAddr 35 ('tmp', 28) ('tmp', 29)
        refine R.gF rfl rfl rfl ?_  -- 31 := load 3 ('tmp', 30)
        refine R.gF rfl rfl rfl ?_  -- 32 := move ('tmp', 1)
        refine R.gF rfl rfl rfl ?_  -- 33 := move ('tmp', 6)
        refine R.gF rfl rfl rfl ?_  -- 34 := indexAddr 35 ('tmp', 32) ('tmp', 33)
        refine R.gF rfl rfl rfl ?_  -- 35 := load 3 ('tmp', 34)
        refine R.gF rfl rfl rfl ?_  -- 36 := binOp ('eql',) 3 ('tmp', 31) ('tmp', 35) 3
        refine R.gF rfl rfl rfl ?_  -- 37 := unOp ('not',) 4 ('tmp', 36)
        refine R.pickF rfl ?_  -- 38 := pick ('tmp', 27) ('tmp', 37) ('const', ('bool', ('false',)))
        refine R.move ?_  -- 39 := move ('tmp', 38)
        refine R.gT rfl rfl ?_
        refine R.move ?_  -- 40 := move ('tmp', 6)
        refine R.gT rfl rfl ?_
        refine R.move ?_  -- 41 := move ('tmp', 1)
        refine R.gT rfl rfl ?_
        refine R.len Try.underlying35 h2 rfl ?_  -- 42 := call {'callee': ('builtin', ('len',)), 'args': [('tmp', 41)], 'argTypes': [35]}
        refine R.gT rfl rfl ?_
        refine R.geq (b := true) rfl rfl (decide_eq_true (by omega)) ?_  -- 43 := binOp ('geq',) 3 ('tmp', 40) ('tmp', 42) 3
        refine R.gT rfl rfl ?_
        refine R.move ?_  -- 44 := move ('tmp', 43)
        refine R.gT rfl rfl ?_
        refine R.move ?_  -- 45 := move ('tmp', 5)
        refine R.gT rfl rfl ?_
        refine R.move ?_  -- 46 := move ('tmp', 6)
        refine R.gT rfl rfl ?_
        refine R.ix Try.underlying35 t3 (by decide) hF rfl rfl (by omega) ?_  -- 47 := indexAddr 35 ('tmp', 45) ('tmp', 46)
        refine R.gT rfl rfl ?_
        refine R.ldE t3 hF hE rfl (lent_right (by omega) (by omega)) rfl hSa ?_  -- 48 := load 3 ('tmp', 47)
        refine R.gT rfl rfl ?_
        refine R.move ?_  -- 49 := move ('tmp', 6)
        refine R.gT rfl rfl ?_
        refine R.move ?_  -- 50 := move ('tmp', 1)
        refine R.gT rfl rfl ?_
        refine R.len Try.underlying35 h2 rfl ?_  -- 51 := call {'callee': ('builtin', ('len',)), 'args': [('tmp', 50)], 'argTypes': [35]}
        refine R.gT rfl rfl ?_
        refine R.subN rfl rfl (by omega) (by omega) ?_  -- 52 := binOp ('sub',) 3 ('tmp', 49) ('tmp', 51) 3
        refine R.gT rfl rfl ?_
        refine R.callE2 ent97 (mark_ _ (k := 1) (i := i - xs.length) (by decide) (by omega)) rfl rfl (fun _ _ hb => Nat.lt_of_lt_of_le hb (Nat.le_trans hS0 hEs.size)) ?_  -- 53 := call {'callee': ('value', ('func', 97)), 'args': [('const', ('int', ('i64',), 1)), ('tmp', 52)], 'argTypes': [3, 3]}
        rintro v53 w3 hx3 rfl
        replace hE := hE.ext hx3
        replace hEs := hEs.ext hx3
        refine R.gT rfl rfl ?_
        refine R.eql (b := true) rfl rfl (decide_eq_true rfl) ?_  -- 54 := binOp ('eql',) 3 ('tmp', 48) ('tmp', 53) 3
        refine R.gT rfl rfl ?_
        refine R.not rfl ?_  -- 55 := unOp ('not',) 4 ('tmp', 54)
        refine R.gT rfl rfl ?_
        refine R.pickT rfl ?_  -- 56 := pick ('tmp', 44) ('tmp', 55) ('const', ('bool', ('false',)))
        refine R.pickF rfl ?_  -- 57 := pick ('tmp', 39) ('const', ('bool', ('true',))) ('tmp', 56)
        refine R.nil ?_
        refine E.condF rfl ?_  -- cond t57
        refine E.skip ?_
        refine E.regionP rfl ?_  -- region 6
        refine R.move ?_  -- 21 := move ('tmp', 6)
        refine R.addN (n := 1) rfl rfl (by omega) ?_  -- 22 := binOp ('add',) 3 ('tmp', 21) ('const', ('int', ('i64',), 1)) 3
        refine R.assign ?_  -- 6 := assign ('tmp', 22)
        refine R.nil ?_
        exact ⟨xs.length + 12 - (i + 1), by omega, i + 1, rfl, by omega, hE, rfl, rfl, rfl, trivial⟩  -- round end 1 path T1
    · replace hc20 := dF hc20
      refine E.exit ?_  -- exit 0
      refine E.seq ?_
      refine E.regionP rfl ?_  -- region 9
      refine R.assign ?_  -- 4 := assign ('const', ('bool', ('true',)))
      refine R.nil ?_
      refine E.ret ?_
      exact ret1 (.bool true) rfl rfl ⟨_, rfl, hE, rfl⟩  -- return 0 path F

end Go.Proofs.Ytfdmndkoiheebaa
