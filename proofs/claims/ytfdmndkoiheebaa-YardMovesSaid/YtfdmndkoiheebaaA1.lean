/- SameInts -/
import Derived.Test.YtfdmndkoiheebaaBase3
namespace Go.Proofs.Ytfdmndkoiheebaa
open Go Go.RowKit

theorem sameInts (w : World) {v1 v2 : Value} {xs ys : List Int} (h1 : Ints w v1 xs) (h2 : Ints w v2 ys) (hl1 : xs.length < 1000000000) (hl2 : ys.length < 1000000000) :
    Calls Try.prog 56 #[v1, v2] w (Ret fun v w' => Ext w w' ∧ v = .bool (decide (xs = ys))) := by
  refine calls_E (args := [v1, v2]) 26 Try.func56 rfl rfl (by simp) ?_
  have hE : Ext w w := Upd.refl w
  refine E.seq ?_
  refine E.regionP rfl ?_  -- region 0
  refine R.assign ?_  -- 4 := assign ('const', ('bool', ('false',)))
  refine R.nil ?_
  refine E.seq ?_
  refine E.seq ?_
  refine E.regionP rfl ?_  -- region 1
  refine R.move ?_  -- 6 := move ('tmp', 0)
  refine R.len Try.underlying35 h1 rfl ?_  -- 7 := call {'callee': ('builtin', ('len',)), 'args': [('tmp', 6)], 'argTypes': [35]}
  refine R.move ?_  -- 8 := move ('tmp', 1)
  refine R.len Try.underlying35 h2 rfl ?_  -- 9 := call {'callee': ('builtin', ('len',)), 'args': [('tmp', 8)], 'argTypes': [35]}
  refine R.neq rfl rfl rfl ?_  -- 10 := binOp ('neq',) 3 ('tmp', 7) ('tmp', 9) 3
  refine R.nil ?_
  refine E.cond rfl (fun hc10 => ?_) (fun hc10 => ?_)  -- cond t10
  · replace hc10 := nT hc10
    refine E.seq ?_
    refine E.regionP rfl ?_  -- region 2
    refine R.assign ?_  -- 4 := assign ('const', ('bool', ('false',)))
    refine R.nil ?_
    refine E.ret ?_
    refine ret1 (.bool false) rfl rfl ⟨_, rfl, hE, ?_⟩  -- return 0 path T
    have : xs ≠ ys := fun h => hc10 (by rw [h])
    simp [this]
  · replace hc10 := nF hc10
    refine E.skip ?_
    refine E.seq ?_
    refine E.seq ?_
    refine E.regionP rfl ?_  -- region 3
    refine R.assign ?_  -- 5 := assign ('const', ('int', ('i64',), 0))
    refine R.nil ?_
    refine E.block ?_  -- block 0
    refine E.loop (fun n e wr => ∃ k : Nat, n = xs.length - k ∧ k ≤ xs.length ∧ xs.take k = ys.take k ∧ Ext w wr ∧ Has e [(0, v1), (1, v2), (5, .int .i64 k)]) (xs.length) ?_ ?_
    · exact ⟨0, rfl, Nat.zero_le _, rfl, hE, rfl, rfl, rfl, trivial⟩
    · rintro n e wr ⟨k, rfl, hk, htk, hE, hH⟩
      obtain ⟨e, rfl⟩ := hH.ex
      clear hH
      refine E.seq ?_
      refine E.seq ?_
      refine E.regionP rfl ?_  -- region 4
      refine R.move ?_  -- 11 := move ('tmp', 5)
      refine R.move ?_  -- 12 := move ('tmp', 0)
      refine R.len Try.underlying35 h1 rfl ?_  -- 13 := call {'callee': ('builtin', ('len',)), 'args': [('tmp', 12)], 'argTypes': [35]}
      refine R.lss rfl rfl rfl ?_  -- 14 := binOp ('lss',) 3 ('tmp', 11) ('tmp', 13) 3
      refine R.nil ?_
      refine E.cond rfl (fun hc14 => ?_) (fun hc14 => ?_)  -- cond t14
      · replace hc14 := dT hc14
        refine E.skip ?_
        refine E.seq ?_
        refine E.block ?_  -- block 1
        refine E.seq ?_
        refine E.regionW allS [] mixed rfl (by kernel_rfl) ?_  -- region 6
        intro w1 hx1 hh1
        replace hE := hE.ext hx1
        refine R.move ?_  -- 17 := move ('tmp', 0)
        refine R.move ?_  -- 18 := move ('tmp', 5)
        refine R.ix Try.underlying35 t3 (by decide) h1 rfl rfl (by omega) ?_  -- 19 := indexAddr 35 ('tmp', 17) ('tmp', 18)
        refine R.ld t3 (h1.ext hE) rfl (int_at (by omega)) rfl (fun _ _ => trivial) ?_  -- 20 := load 3 ('tmp', 19)
        refine R.move ?_  -- 21 := move ('tmp', 1)
        refine R.move ?_  -- 22 := move ('tmp', 5)
        refine R.ix Try.underlying35 t3 (by decide) h2 rfl rfl (by omega) ?_  -- 23 := indexAddr 35 ('tmp', 21) ('tmp', 22)
        refine R.ld t3 (h2.ext hE) rfl (int_at (by omega)) rfl (fun _ _ => trivial) ?_  -- 24 := load 3 ('tmp', 23)
        refine R.neq rfl rfl rfl ?_  -- 25 := binOp ('neq',) 3 ('tmp', 20) ('tmp', 24) 3
        refine R.nil ?_
        refine E.cond rfl (fun hc25 => ?_) (fun hc25 => ?_)  -- cond t25
        · replace hc25 := nT hc25
          refine E.seq ?_
          refine E.regionP rfl ?_  -- region 7
          refine R.assign ?_  -- 4 := assign ('const', ('bool', ('false',)))
          refine R.nil ?_
          refine E.ret ?_
          refine ret1 (.bool false) rfl rfl ⟨_, rfl, hE, ?_⟩  -- return 1 path FTT
          have : xs ≠ ys := fun h => hc25 (by subst h; rfl)
          simp [this]
        · replace hc25 := nF hc25
          refine E.skip ?_
          refine E.regionP rfl ?_  -- region 5
          refine R.move ?_  -- 15 := move ('tmp', 5)
          refine R.addN (n := 1) rfl rfl (by omega) ?_  -- 16 := binOp ('add',) 3 ('tmp', 15) ('const', ('int', ('i64',), 1)) 3
          refine R.assign ?_  -- 5 := assign ('tmp', 16)
          refine R.nil ?_
          refine ⟨xs.length - (k + 1), by omega, k + 1, rfl, by omega, ?_, hE, rfl, rfl, rfl, trivial⟩  -- round end 0 path FTF
          rw [List.take_succ_eq_append_getElem (by omega), List.take_succ_eq_append_getElem (by omega), htk, hc25]
      · replace hc14 := dF hc14
        refine E.exit ?_  -- exit 0
        refine E.seq ?_
        refine E.regionP rfl ?_  -- region 8
        refine R.assign ?_  -- 4 := assign ('const', ('bool', ('true',)))
        refine R.nil ?_
        refine E.ret ?_
        refine ret1 (.bool true) rfl rfl ⟨_, rfl, hE, ?_⟩  -- return 2 path FF
        obtain rfl : k = xs.length := by omega
        have hlen : xs.length = ys.length := by omega
        rw [List.take_length, hlen, List.take_length] at htk
        simp [htk]

end Go.Proofs.Ytfdmndkoiheebaa
