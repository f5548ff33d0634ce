/- asks -/
import Derived.Test.YtfdmndkoiheebaaC5
import Derived.Test.YtfdmndkoiheebaaB5
import Derived.Test.YtfdmndkoiheebaaB6
import Derived.Test.YtfdmndkoiheebaaA7
namespace Go.Proofs.Ytfdmndkoiheebaa
open Go Go.RowKit


theorem aboveL_len {xss : List (List Int)} {h b : Int} (hx : ∀ xs ∈ xss, xs.length ≤ 10) : (aboveL xss h b).1.length < 1000000000 := by
  cases hR : rightB xss h
  · simp [aboveL, hR]
  · rcases hF : findL xss b with _ | ⟨i, k⟩
    · simp [aboveL, hR, hF]
    · obtain ⟨hi, _⟩ := findL_some hF
      have := hx _ (List.getElem_mem hi)
      simp [aboveL, hR, hF, hi]
      omega
theorem findE (w : World) {v : Value} {h b : Int} {xss : List (List Int)} (hm : ∃ us, Mat w v us xss) (hl : xss.length < 1000000) (hx : ∀ xs ∈ xss, xs.length < 1000000) {r0 : Value} (hr : findV xss b = r0) :
    Calls Try.prog 23 #[.agg #[v, .int .i64 h], .int .i64 b] w (Ret fun r w' => Ext w w' ∧ r = r0) := by
  subst hr; obtain ⟨us, hm⟩ := hm; exact find w hm hl hx
theorem rFindE (w : World) {v : Value} {h b : Int} {us : List Value} {xss : List (List Int)} (hm : Mat w v us xss) (hl : xss.length < 1000000) (hx : ∀ xs ∈ xss, xs.length < 1000000) {r0 : Value} (hr : findV xss b = r0) :
    Calls Try.prog 52 #[.agg #[v, .int .i64 h], .int .i64 b] w (Ret fun r w' => Ext w w' ∧ r = r0) := by
  subst hr; exact rFind w hm hl hx
theorem aboveE (w : World) {v : Value} {h b : Int} {xss : List (List Int)} (hm : ∃ us, Mat w v us xss) (hl : xss.length < 1000000) (hx : ∀ xs ∈ xss, xs.length < 1000000) :
    Calls Try.prog 24 #[.agg #[v, .int .i64 h], .int .i64 b] w (Ret fun r w' => Ext w w' ∧ ∃ u, r = .tuple #[u, .int .i64 (aboveL xss h b).2] ∧ SInts w' u (aboveL xss h b).1 ∧ Fresh w u) := by
  obtain ⟨us, hm⟩ := hm; exact above w hm hl hx
theorem roomE (w : World) {v : Value} {h : Int} {xss : List (List Int)} (hm : ∃ us, Mat w v us xss) (hl : xss.length < 1000000) (hx : ∀ xs ∈ xss, xs.length < 1000000) :
    Calls Try.prog 29 #[.agg #[v, .int .i64 h]] w (Ret fun r w' => Ext w w' ∧ r = .tuple #[.int .i64 (roomL xss h).1, .int .i64 (roomL xss h).2]) := by
  obtain ⟨us, hm⟩ := hm; exact room w hm hl hx
theorem rightE (w : World) {v : Value} {h : Int} {xss : List (List Int)} (hm : ∃ us, Mat w v us xss) (hl : xss.length < 1000000) (hx : ∀ xs ∈ xss, xs.length < 1000000) :
    Calls Try.prog 27 #[.agg #[v, .int .i64 h]] w (Ret fun r w' => Ext w w' ∧ r = .bool (rightB xss h)) := by
  obtain ⟨us, hm⟩ := hm; exact right w hm hl hx

set_option maxHeartbeats 1600000 in
theorem asks (w : World) {v : Value} {h b : Int} {us : List Value} {xss : List (List Int)} (hm : Mat w v us xss) (hl : xss.length ≤ 32) (hx : ∀ xs ∈ xss, xs.length ≤ 10) :
    Calls Try.prog 18 #[.agg #[v, .int .i64 h], .int .i64 b] w (Ret fun r w' => Ext w w' ∧ r = .bool true) := by
  have hx6 : ∀ xs ∈ xss, xs.length < 1000000 := fun xs h => by have := hx xs h; omega
  rcases hF : findL xss b with _ | ⟨i, k⟩
  · have hr0 : findV xss b = .tuple #[.int .i64 0, .int .i64 0, .bool false] := by simp [findV, hF]
    refine calls_E (args := [.agg #[v, .int .i64 h], .int .i64 b]) 105 Try.func18 rfl rfl (by simp) ?_
    have hE : Ext w w := Upd.refl w
    refine E.seq ?_
    refine E.regionP rfl ?_  -- region 0
    refine R.box rfl nofun ?_  -- 2 := box 24 ('tmp', 0)
    intro b2 w1 hb2 hx1 hB2
    replace hb2 := Nat.le_trans hE.size hb2
    replace hE := hE.ext hx1
    replace hB2 : Blk _ b2 24 #[v, .int .i64 h] := hB2
    refine R.assign ?_  -- 4 := assign ('const', ('bool', ('false',)))
    refine R.nil ?_
    refine E.seq ?_
    refine E.regionP rfl ?_  -- region 1
    refine R.loadA t24 hB2 rfl rfl rfl trivial ?_  -- 21 := load 24 ('tmp', 2)
    refine R.callE1 ent30 (own _ (hm.ext hE) (by omega) hx6) rfl nofun ?_  -- 22 := call {'callee': ('value', ('func', 30)), 'args': [('tmp', 21)], 'argTypes': [24]}
    rintro v22 w2 hx2 ⟨u22, rfl, hL22, hf22⟩
    replace hB2 := hB2.ext hx2
    replace hE := hE.ext hx2
    refine R.alloc t24 nofun ?_  -- 5 := alloc 24
    intro b5 w3 hb5 hx3 hB5
    have ne2_5 : b2 ≠ b5 := by have := hB2.lt; omega
    replace hb5 := Nat.le_trans hE.size hb5
    replace hL22 := hL22.ext hx3
    replace hB2 := hB2.ext hx3
    replace hE := hE.ext hx3
    replace hB5 : Blk _ b5 24 #[.slice none 0 0, .int .i64 0] := hB5
    refine R.storeA t24 hB5 rfl rfl rfl rfl (ones2 hL22.one rfl) nofun ?_  -- None := store 24 ('tmp', 5) ('tmp', 22)
    intro w4 hU4 hs4 hN4
    replace hL22 := hL22.upT hU4 hB5 (by decide)
    replace hB2 := hB2.up hU4 (fun h => ne2_5 h)
    replace hE := hE.own hU4 hb5
    replace hB5 : Blk _ b5 24 #[u22, .int .i64 h] := hN4
    clear hN4
    refine R.nil ?_
    refine E.seq ?_
    refine E.regionP rfl ?_  -- region 2
    refine R.loadA t24 hB2 rfl rfl rfl trivial ?_  -- 23 := load 24 ('tmp', 2)
    refine R.alloc t54 nofun ?_  -- 6 := alloc 54
    intro b6 w5 hb6 hx5 hB6
    replace hb6 := Nat.le_trans hE.size hb6
    replace hL22 := hL22.ext hx5
    replace hB2 := hB2.ext hx5
    replace hB5 := hB5.ext hx5
    replace hE := hE.ext hx5
    replace hB6 : Blk _ b6 54 #[.slice none 0 0, .int .i64 0] := hB6
    refine R.storeA t54 hB6 rfl rfl rfl rfl (ones2 hm.row.one rfl) nofun ?_  -- None := store 54 ('tmp', 6) ('tmp', 23)
    intro w6 hU6 hs6 hN6
    replace hL22 := hL22.upT hU6 hB6 (by decide)
    replace hB2 := hB2.upT hU6 hB6 (by decide)
    replace hB5 := hB5.upT hU6 hB6 (by decide)
    replace hE := hE.own hU6 hb6
    replace hB6 : Blk _ b6 54 #[v, .int .i64 h] := hN6
    clear hN6
    refine R.nil ?_
    refine E.seq ?_
    refine E.regionP rfl ?_  -- region 3
    refine R.loadA t24 hB5 rfl rfl rfl trivial ?_  -- 25 := load 24 ('tmp', 5)
    refine R.move ?_  -- 26 := move ('tmp', 1)
    refine R.callE2 ent23 (findE _ hL22.mat (by omega) hx6 hr0) rfl rfl nofun ?_  -- 27 := call {'callee': ('value', ('func', 23)), 'args': [('tmp', 25), ('tmp', 26)], 'argTypes': [24, 3]}
    rintro v27 w7 hx7 rfl
    replace hL22 := hL22.ext hx7
    replace hB2 := hB2.ext hx7
    replace hB5 := hB5.ext hx7
    replace hB6 := hB6.ext hx7
    replace hE := hE.ext hx7
    refine R.move ?_  -- 24 := move ('tmp', 27)
    refine R.extract rfl rfl ?_  -- 28 := extract ('tmp', 24) 0
    refine R.extract rfl rfl ?_  -- 29 := extract ('tmp', 24) 1
    refine R.extract rfl rfl ?_  -- 30 := extract ('tmp', 24) 2
    refine R.assign ?_  -- 7 := assign ('tmp', 28)
    refine R.assign ?_  -- 8 := assign ('tmp', 29)
    refine R.assign ?_  -- 9 := assign ('tmp', 30)
    refine R.nil ?_
    refine E.seq ?_
    refine E.regionP rfl ?_  -- region 4
    refine R.loadA t54 hB6 rfl rfl rfl trivial ?_  -- 32 := load 54 ('tmp', 6)
    refine R.move ?_  -- 33 := move ('tmp', 1)
    refine R.callE2 ent52 (rFindE _ (hm.ext hE) (by omega) hx6 hr0) rfl rfl nofun ?_  -- 34 := call {'callee': ('value', ('func', 52)), 'args': [('tmp', 32), ('tmp', 33)], 'argTypes': [54, 3]}
    rintro v34 w8 hx8 rfl
    replace hL22 := hL22.ext hx8
    replace hB2 := hB2.ext hx8
    replace hB5 := hB5.ext hx8
    replace hB6 := hB6.ext hx8
    replace hE := hE.ext hx8
    refine R.move ?_  -- 31 := move ('tmp', 34)
    refine R.extract rfl rfl ?_  -- 35 := extract ('tmp', 31) 0
    refine R.extract rfl rfl ?_  -- 36 := extract ('tmp', 31) 1
    refine R.extract rfl rfl ?_  -- 37 := extract ('tmp', 31) 2
    refine R.assign ?_  -- 10 := assign ('tmp', 35)
    refine R.assign ?_  -- 11 := assign ('tmp', 36)
    refine R.assign ?_  -- 12 := assign ('tmp', 37)
    refine R.nil ?_
    refine E.seq ?_
    refine E.regionP rfl ?_  -- region 5
    refine R.loadA t24 hB5 rfl rfl rfl trivial ?_  -- 39 := load 24 ('tmp', 5)
    refine R.move ?_  -- 40 := move ('tmp', 1)
    refine R.callE2 ent24 (aboveE _ hL22.mat (by omega) hx6) rfl rfl nofun ?_  -- 41 := call {'callee': ('value', ('func', 24)), 'args': [('tmp', 39), ('tmp', 40)], 'argTypes': [24, 3]}
    rintro v41 w9 hx9 ⟨u41, rfl, hS41, hf41⟩
    replace hL22 := hL22.ext hx9
    replace hB2 := hB2.ext hx9
    replace hB5 := hB5.ext hx9
    replace hB6 := hB6.ext hx9
    replace hE := hE.ext hx9
    refine R.move ?_  -- 38 := move ('tmp', 41)
    refine R.extract rfl rfl ?_  -- 42 := extract ('tmp', 38) 0
    refine R.extract rfl rfl ?_  -- 43 := extract ('tmp', 38) 1
    refine R.assign ?_  -- 13 := assign ('tmp', 42)
    refine R.assign ?_  -- 14 := assign ('tmp', 43)
    refine R.nil ?_
    refine E.seq ?_
    refine E.regionP rfl ?_  -- region 6
    refine R.loadA t54 hB6 rfl rfl rfl trivial ?_  -- 45 := load 54 ('tmp', 6)
    refine R.move ?_  -- 46 := move ('tmp', 1)
    refine R.callE2 ent53 (rAbove _ (hm.ext hE) (by omega) hx) rfl rfl nofun ?_  -- 47 := call {'callee': ('value', ('func', 53)), 'args': [('tmp', 45), ('tmp', 46)], 'argTypes': [54, 3]}
    rintro v47 w10 hx10 ⟨u47, rfl, hS47, hf47⟩
    replace hL22 := hL22.ext hx10
    replace hS41 := hS41.ext hx10
    replace hB2 := hB2.ext hx10
    replace hB5 := hB5.ext hx10
    replace hB6 := hB6.ext hx10
    replace hE := hE.ext hx10
    refine R.move ?_  -- 44 := move ('tmp', 47)
    refine R.extract rfl rfl ?_  -- 48 := extract ('tmp', 44) 0
    refine R.extract rfl rfl ?_  -- 49 := extract ('tmp', 44) 1
    refine R.assign ?_  -- 15 := assign ('tmp', 48)
    refine R.assign ?_  -- 16 := assign ('tmp', 49)
    refine R.nil ?_
    refine E.seq ?_
    refine E.regionP rfl ?_  -- region 7
    refine R.loadA t24 hB5 rfl rfl rfl trivial ?_  -- 51 := load 24 ('tmp', 5)
    refine R.callE1 ent29 (roomE _ hL22.mat (by omega) hx6) rfl nofun ?_  -- 52 := call {'callee': ('value', ('func', 29)), 'args': [('tmp', 51)], 'argTypes': [24]}
    rintro v52 w11 hx11 rfl
    replace hL22 := hL22.ext hx11
    replace hS41 := hS41.ext hx11
    replace hS47 := hS47.ext hx11
    replace hB2 := hB2.ext hx11
    replace hB5 := hB5.ext hx11
    replace hB6 := hB6.ext hx11
    replace hE := hE.ext hx11
    refine R.move ?_  -- 50 := move ('tmp', 52)
    refine R.extract rfl rfl ?_  -- 53 := extract ('tmp', 50) 0
    refine R.extract rfl rfl ?_  -- 54 := extract ('tmp', 50) 1
    refine R.assign ?_  -- 17 := assign ('tmp', 53)
    refine R.assign ?_  -- 18 := assign ('tmp', 54)
    refine R.nil ?_
    refine E.seq ?_
    refine E.regionP rfl ?_  -- region 8
    refine R.loadA t54 hB6 rfl rfl rfl trivial ?_  -- 56 := load 54 ('tmp', 6)
    refine R.callE1 ent54 (rRoom _ (hm.ext hE) (by omega) hx) rfl nofun ?_  -- 57 := call {'callee': ('value', ('func', 54)), 'args': [('tmp', 56)], 'argTypes': [54]}
    rintro v57 w12 hx12 rfl
    replace hL22 := hL22.ext hx12
    replace hS41 := hS41.ext hx12
    replace hS47 := hS47.ext hx12
    replace hB2 := hB2.ext hx12
    replace hB5 := hB5.ext hx12
    replace hB6 := hB6.ext hx12
    replace hE := hE.ext hx12
    refine R.move ?_  -- 55 := move ('tmp', 57)
    refine R.extract rfl rfl ?_  -- 58 := extract ('tmp', 55) 0
    refine R.extract rfl rfl ?_  -- 59 := extract ('tmp', 55) 1
    refine R.assign ?_  -- 19 := assign ('tmp', 58)
    refine R.assign ?_  -- 20 := assign ('tmp', 59)
    refine R.nil ?_
    refine E.seq ?_
    refine E.regionW (fun _ b => b < w12.heap.size) [] mixed rfl (by kernel_rfl) ?_  -- region 9
    intro w13 hx13 hh13
    replace hL22 := hL22.ext hx13
    replace hS41 := hS41.ext hx13
    replace hS47 := hS47.ext hx13
    replace hB2 := hB2.ext hx13
    replace hB5 := hB5.ext hx13
    replace hB6 := hB6.ext hx13
    replace hE := hE.ext hx13
    have hEs : Ext w13 w13 := Upd.refl _
    have hS0 := hx13.size
    have hSs : ∀ b, b < w13.heap.size → b < w12.heap.size := fun b hb => by rw [hh13] at hb; exact hb
    have hSa : ∀ b, b < w.heap.size → b < w12.heap.size := fun b hb => by have := hE.size; rw [hh13] at this; omega
    have hL22s := hL22
    have hS41s := hS41
    have hS47s := hS47
    have hB2s := hB2
    have hB5s := hB5
    have hB6s := hB6
    refine R.loadAE t24 hB5s hEs rfl rfl rfl hSs ?_  -- 60 := load 24 ('tmp', 5)
    refine R.callE1 ent27 (rightE _ hL22.mat (by omega) hx6) rfl (fun _ _ hb => Nat.lt_of_lt_of_le hb (Nat.le_trans hS0 hEs.size)) ?_  -- 61 := call {'callee': ('value', ('func', 27)), 'args': [('tmp', 60)], 'argTypes': [24]}
    rintro v61 w14 hx14 rfl
    replace hL22 := hL22.ext hx14
    replace hS41 := hS41.ext hx14
    replace hS47 := hS47.ext hx14
    replace hB2 := hB2.ext hx14
    replace hB5 := hB5.ext hx14
    replace hB6 := hB6.ext hx14
    replace hE := hE.ext hx14
    replace hEs := hEs.ext hx14
    refine R.loadAE t54 hB6s hEs rfl rfl rfl hSs ?_  -- 62 := load 54 ('tmp', 6)
    refine R.callE1 ent55 (rRight _ (hm.ext hE) (by omega) hx) rfl (fun _ _ hb => Nat.lt_of_lt_of_le hb (Nat.le_trans hS0 hEs.size)) ?_  -- 63 := call {'callee': ('value', ('func', 55)), 'args': [('tmp', 62)], 'argTypes': [54]}
    rintro v63 w15 hx15 rfl
    replace hL22 := hL22.ext hx15
    replace hS41 := hS41.ext hx15
    replace hS47 := hS47.ext hx15
    replace hB2 := hB2.ext hx15
    replace hB5 := hB5.ext hx15
    replace hB6 := hB6.ext hx15
    replace hE := hE.ext hx15
    replace hEs := hEs.ext hx15
    refine R.eqlB (b := true) Try.underlying4 rfl rfl (by simp) ?_  -- 64 := binOp ('eql',) 4 ('tmp', 61) ('tmp', 63) 4
    refine R.move ?_  -- 65 := move ('tmp', 64)
    refine R.gT rfl rfl ?_
    refine R.move ?_  -- 66 := move ('tmp', 7)
    refine R.gT rfl rfl ?_
    refine R.move ?_  -- 67 := move ('tmp', 10)
    refine R.gT rfl rfl ?_
    refine R.eql (b := true) rfl rfl (decide_eq_true rfl) ?_  -- 68 := binOp ('eql',) 3 ('tmp', 66) ('tmp', 67) 3
    refine R.pickT rfl ?_  -- 69 := pick ('tmp', 65) ('tmp', 68) ('const', ('bool', ('false',)))
    refine R.move ?_  -- 70 := move ('tmp', 69)
    refine R.gT rfl rfl ?_
    refine R.move ?_  -- 71 := move ('tmp', 8)
    refine R.gT rfl rfl ?_
    refine R.move ?_  -- 72 := move ('tmp', 11)
    refine R.gT rfl rfl ?_
    refine R.eql (b := true) rfl rfl (decide_eq_true rfl) ?_  -- 73 := binOp ('eql',) 3 ('tmp', 71) ('tmp', 72) 3
    refine R.pickT rfl ?_  -- 74 := pick ('tmp', 70) ('tmp', 73) ('const', ('bool', ('false',)))
    refine R.move ?_  -- 75 := move ('tmp', 74)
    refine R.gT rfl rfl ?_
    refine R.move ?_  -- 76 := move ('tmp', 9)
    refine R.gT rfl rfl ?_
    refine R.move ?_  -- 77 := move ('tmp', 12)
    refine R.gT rfl rfl ?_
    refine R.eqlB (b := true) Try.underlying4 rfl rfl (by simp) ?_  -- 78 := binOp ('eql',) 4 ('tmp', 76) ('tmp', 77) 4
    refine R.pickT rfl ?_  -- 79 := pick ('tmp', 75) ('tmp', 78) ('const', ('bool', ('false',)))
    refine R.move ?_  -- 80 := move ('tmp', 79)
    refine R.gT rfl rfl ?_
    refine R.move ?_  -- 81 := move ('tmp', 13)
    refine R.gT rfl rfl ?_
    refine R.move ?_  -- 82 := move ('tmp', 15)
    refine R.gT rfl rfl ?_
    refine R.callE2 ent56 (sameInts1 _ hS41.row hS47.row (aboveL_len hx)) rfl rfl (fun _ _ hb => Nat.lt_of_lt_of_le hb (Nat.le_trans hS0 hEs.size)) ?_  -- 83 := call {'callee': ('value', ('func', 56)), 'args': [('tmp', 81), ('tmp', 82)], 'argTypes': [35, 35]}
    rintro v83 w16 hx16 rfl
    replace hL22 := hL22.ext hx16
    replace hS41 := hS41.ext hx16
    replace hS47 := hS47.ext hx16
    replace hB2 := hB2.ext hx16
    replace hB5 := hB5.ext hx16
    replace hB6 := hB6.ext hx16
    replace hE := hE.ext hx16
    replace hEs := hEs.ext hx16
    refine R.pickT rfl ?_  -- 84 := pick ('tmp', 80) ('tmp', 83) ('const', ('bool', ('false',)))
    refine R.move ?_  -- 85 := move ('tmp', 84)
    refine R.gT rfl rfl ?_
    refine R.move ?_  -- 86 := move ('tmp', 14)
    refine R.gT rfl rfl ?_
    refine R.move ?_  -- 87 := move ('tmp', 16)
    refine R.gT rfl rfl ?_
    refine R.eql (b := true) rfl rfl (decide_eq_true rfl) ?_  -- 88 := binOp ('eql',) 3 ('tmp', 86) ('tmp', 87) 3
    refine R.pickT rfl ?_  -- 89 := pick ('tmp', 85) ('tmp', 88) ('const', ('bool', ('false',)))
    refine R.move ?_  -- 90 := move ('tmp', 89)
    refine R.gT rfl rfl ?_
    refine R.move ?_  -- 91 := move ('tmp', 17)
    refine R.gT rfl rfl ?_
    refine R.move ?_  -- 92 := move ('tmp', 19)
    refine R.gT rfl rfl ?_
    refine R.eql (b := true) rfl rfl (decide_eq_true rfl) ?_  -- 93 := binOp ('eql',) 3 ('tmp', 91) ('tmp', 92) 3
    refine R.pickT rfl ?_  -- 94 := pick ('tmp', 90) ('tmp', 93) ('const', ('bool', ('false',)))
    refine R.move ?_  -- 95 := move ('tmp', 94)
    refine R.gT rfl rfl ?_
    refine R.move ?_  -- 96 := move ('tmp', 18)
    refine R.gT rfl rfl ?_
    refine R.move ?_  -- 97 := move ('tmp', 20)
    refine R.gT rfl rfl ?_
    refine R.eql (b := true) rfl rfl (decide_eq_true rfl) ?_  -- 98 := binOp ('eql',) 3 ('tmp', 96) ('tmp', 97) 3
    refine R.pickT rfl ?_  -- 99 := pick ('tmp', 95) ('tmp', 98) ('const', ('bool', ('false',)))
    refine R.move ?_  -- 100 := move ('tmp', 99)
    refine R.gT rfl rfl ?_
    refine R.loadAE t24 hB5s hEs rfl rfl rfl hSs ?_  -- 101 := load 24 ('tmp', 5)
    refine R.gT rfl rfl ?_
    refine R.loadAE t24 hB2s hEs rfl rfl rfl hSs ?_  -- 102 := load 24 ('tmp', 2)
    refine R.gT rfl rfl ?_
    refine R.callE2 ent33 (kept _ hL22 (hm.ext hE) (by omega) hx6) rfl rfl (fun _ _ hb => Nat.lt_of_lt_of_le hb (Nat.le_trans hS0 hEs.size)) ?_  -- 103 := call {'callee': ('value', ('func', 33)), 'args': [('tmp', 101), ('tmp', 102)], 'argTypes': [24, 24]}
    rintro v103 w17 hx17 rfl
    replace hL22 := hL22.ext hx17
    replace hS41 := hS41.ext hx17
    replace hS47 := hS47.ext hx17
    replace hB2 := hB2.ext hx17
    replace hB5 := hB5.ext hx17
    replace hB6 := hB6.ext hx17
    replace hE := hE.ext hx17
    replace hEs := hEs.ext hx17
    refine R.pickT rfl ?_  -- 104 := pick ('tmp', 100) ('tmp', 103) ('const', ('bool', ('false',)))
    refine R.assign ?_  -- 4 := assign ('tmp', 104)
    refine R.nil ?_
    refine E.ret ?_
    exact ret1 (.bool true) rfl rfl ⟨_, rfl, hE, rfl⟩  -- return 0 path 
  · have hr0 : findV xss b = .tuple #[.int .i64 i, .int .i64 k, .bool true] := by simp [findV, hF]
    refine calls_E (args := [.agg #[v, .int .i64 h], .int .i64 b]) 105 Try.func18 rfl rfl (by simp) ?_
    have hE : Ext w w := Upd.refl w
    refine E.seq ?_
    refine E.regionP rfl ?_  -- region 0
    refine R.box rfl nofun ?_  -- 2 := box 24 ('tmp', 0)
    intro b2 w1 hb2 hx1 hB2
    replace hb2 := Nat.le_trans hE.size hb2
    replace hE := hE.ext hx1
    replace hB2 : Blk _ b2 24 #[v, .int .i64 h] := hB2
    refine R.assign ?_  -- 4 := assign ('const', ('bool', ('false',)))
    refine R.nil ?_
    refine E.seq ?_
    refine E.regionP rfl ?_  -- region 1
    refine R.loadA t24 hB2 rfl rfl rfl trivial ?_  -- 21 := load 24 ('tmp', 2)
    refine R.callE1 ent30 (own _ (hm.ext hE) (by omega) hx6) rfl nofun ?_  -- 22 := call {'callee': ('value', ('func', 30)), 'args': [('tmp', 21)], 'argTypes': [24]}
    rintro v22 w2 hx2 ⟨u22, rfl, hL22, hf22⟩
    replace hB2 := hB2.ext hx2
    replace hE := hE.ext hx2
    refine R.alloc t24 nofun ?_  -- 5 := alloc 24
    intro b5 w3 hb5 hx3 hB5
    have ne2_5 : b2 ≠ b5 := by have := hB2.lt; omega
    replace hb5 := Nat.le_trans hE.size hb5
    replace hL22 := hL22.ext hx3
    replace hB2 := hB2.ext hx3
    replace hE := hE.ext hx3
    replace hB5 : Blk _ b5 24 #[.slice none 0 0, .int .i64 0] := hB5
    refine R.storeA t24 hB5 rfl rfl rfl rfl (ones2 hL22.one rfl) nofun ?_  -- None := store 24 ('tmp', 5) ('tmp', 22)
    intro w4 hU4 hs4 hN4
    replace hL22 := hL22.upT hU4 hB5 (by decide)
    replace hB2 := hB2.up hU4 (fun h => ne2_5 h)
    replace hE := hE.own hU4 hb5
    replace hB5 : Blk _ b5 24 #[u22, .int .i64 h] := hN4
    clear hN4
    refine R.nil ?_
    refine E.seq ?_
    refine E.regionP rfl ?_  -- region 2
    refine R.loadA t24 hB2 rfl rfl rfl trivial ?_  -- 23 := load 24 ('tmp', 2)
    refine R.alloc t54 nofun ?_  -- 6 := alloc 54
    intro b6 w5 hb6 hx5 hB6
    replace hb6 := Nat.le_trans hE.size hb6
    replace hL22 := hL22.ext hx5
    replace hB2 := hB2.ext hx5
    replace hB5 := hB5.ext hx5
    replace hE := hE.ext hx5
    replace hB6 : Blk _ b6 54 #[.slice none 0 0, .int .i64 0] := hB6
    refine R.storeA t54 hB6 rfl rfl rfl rfl (ones2 hm.row.one rfl) nofun ?_  -- None := store 54 ('tmp', 6) ('tmp', 23)
    intro w6 hU6 hs6 hN6
    replace hL22 := hL22.upT hU6 hB6 (by decide)
    replace hB2 := hB2.upT hU6 hB6 (by decide)
    replace hB5 := hB5.upT hU6 hB6 (by decide)
    replace hE := hE.own hU6 hb6
    replace hB6 : Blk _ b6 54 #[v, .int .i64 h] := hN6
    clear hN6
    refine R.nil ?_
    refine E.seq ?_
    refine E.regionP rfl ?_  -- region 3
    refine R.loadA t24 hB5 rfl rfl rfl trivial ?_  -- 25 := load 24 ('tmp', 5)
    refine R.move ?_  -- 26 := move ('tmp', 1)
    refine R.callE2 ent23 (findE _ hL22.mat (by omega) hx6 hr0) rfl rfl nofun ?_  -- 27 := call {'callee': ('value', ('func', 23)), 'args': [('tmp', 25), ('tmp', 26)], 'argTypes': [24, 3]}
    rintro v27 w7 hx7 rfl
    replace hL22 := hL22.ext hx7
    replace hB2 := hB2.ext hx7
    replace hB5 := hB5.ext hx7
    replace hB6 := hB6.ext hx7
    replace hE := hE.ext hx7
    refine R.move ?_  -- 24 := move ('tmp', 27)
    refine R.extract rfl rfl ?_  -- 28 := extract ('tmp', 24) 0
    refine R.extract rfl rfl ?_  -- 29 := extract ('tmp', 24) 1
    refine R.extract rfl rfl ?_  -- 30 := extract ('tmp', 24) 2
    refine R.assign ?_  -- 7 := assign ('tmp', 28)
    refine R.assign ?_  -- 8 := assign ('tmp', 29)
    refine R.assign ?_  -- 9 := assign ('tmp', 30)
    refine R.nil ?_
    refine E.seq ?_
    refine E.regionP rfl ?_  -- region 4
    refine R.loadA t54 hB6 rfl rfl rfl trivial ?_  -- 32 := load 54 ('tmp', 6)
    refine R.move ?_  -- 33 := move ('tmp', 1)
    refine R.callE2 ent52 (rFindE _ (hm.ext hE) (by omega) hx6 hr0) rfl rfl nofun ?_  -- 34 := call {'callee': ('value', ('func', 52)), 'args': [('tmp', 32), ('tmp', 33)], 'argTypes': [54, 3]}
    rintro v34 w8 hx8 rfl
    replace hL22 := hL22.ext hx8
    replace hB2 := hB2.ext hx8
    replace hB5 := hB5.ext hx8
    replace hB6 := hB6.ext hx8
    replace hE := hE.ext hx8
    refine R.move ?_  -- 31 := move ('tmp', 34)
    refine R.extract rfl rfl ?_  -- 35 := extract ('tmp', 31) 0
    refine R.extract rfl rfl ?_  -- 36 := extract ('tmp', 31) 1
    refine R.extract rfl rfl ?_  -- 37 := extract ('tmp', 31) 2
    refine R.assign ?_  -- 10 := assign ('tmp', 35)
    refine R.assign ?_  -- 11 := assign ('tmp', 36)
    refine R.assign ?_  -- 12 := assign ('tmp', 37)
    refine R.nil ?_
    refine E.seq ?_
    refine E.regionP rfl ?_  -- region 5
    refine R.loadA t24 hB5 rfl rfl rfl trivial ?_  -- 39 := load 24 ('tmp', 5)
    refine R.move ?_  -- 40 := move ('tmp', 1)
    refine R.callE2 ent24 (aboveE _ hL22.mat (by omega) hx6) rfl rfl nofun ?_  -- 41 := call {'callee': ('value', ('func', 24)), 'args': [('tmp', 39), ('tmp', 40)], 'argTypes': [24, 3]}
    rintro v41 w9 hx9 ⟨u41, rfl, hS41, hf41⟩
    replace hL22 := hL22.ext hx9
    replace hB2 := hB2.ext hx9
    replace hB5 := hB5.ext hx9
    replace hB6 := hB6.ext hx9
    replace hE := hE.ext hx9
    refine R.move ?_  -- 38 := move ('tmp', 41)
    refine R.extract rfl rfl ?_  -- 42 := extract ('tmp', 38) 0
    refine R.extract rfl rfl ?_  -- 43 := extract ('tmp', 38) 1
    refine R.assign ?_  -- 13 := assign ('tmp', 42)
    refine R.assign ?_  -- 14 := assign ('tmp', 43)
    refine R.nil ?_
    refine E.seq ?_
    refine E.regionP rfl ?_  -- region 6
    refine R.loadA t54 hB6 rfl rfl rfl trivial ?_  -- 45 := load 54 ('tmp', 6)
    refine R.move ?_  -- 46 := move ('tmp', 1)
    refine R.callE2 ent53 (rAbove _ (hm.ext hE) (by omega) hx) rfl rfl nofun ?_  -- 47 := call {'callee': ('value', ('func', 53)), 'args': [('tmp', 45), ('tmp', 46)], 'argTypes': [54, 3]}
    rintro v47 w10 hx10 ⟨u47, rfl, hS47, hf47⟩
    replace hL22 := hL22.ext hx10
    replace hS41 := hS41.ext hx10
    replace hB2 := hB2.ext hx10
    replace hB5 := hB5.ext hx10
    replace hB6 := hB6.ext hx10
    replace hE := hE.ext hx10
    refine R.move ?_  -- 44 := move ('tmp', 47)
    refine R.extract rfl rfl ?_  -- 48 := extract ('tmp', 44) 0
    refine R.extract rfl rfl ?_  -- 49 := extract ('tmp', 44) 1
    refine R.assign ?_  -- 15 := assign ('tmp', 48)
    refine R.assign ?_  -- 16 := assign ('tmp', 49)
    refine R.nil ?_
    refine E.seq ?_
    refine E.regionP rfl ?_  -- region 7
    refine R.loadA t24 hB5 rfl rfl rfl trivial ?_  -- 51 := load 24 ('tmp', 5)
    refine R.callE1 ent29 (roomE _ hL22.mat (by omega) hx6) rfl nofun ?_  -- 52 := call {'callee': ('value', ('func', 29)), 'args': [('tmp', 51)], 'argTypes': [24]}
    rintro v52 w11 hx11 rfl
    replace hL22 := hL22.ext hx11
    replace hS41 := hS41.ext hx11
    replace hS47 := hS47.ext hx11
    replace hB2 := hB2.ext hx11
    replace hB5 := hB5.ext hx11
    replace hB6 := hB6.ext hx11
    replace hE := hE.ext hx11
    refine R.move ?_  -- 50 := move ('tmp', 52)
    refine R.extract rfl rfl ?_  -- 53 := extract ('tmp', 50) 0
    refine R.extract rfl rfl ?_  -- 54 := extract ('tmp', 50) 1
    refine R.assign ?_  -- 17 := assign ('tmp', 53)
    refine R.assign ?_  -- 18 := assign ('tmp', 54)
    refine R.nil ?_
    refine E.seq ?_
    refine E.regionP rfl ?_  -- region 8
    refine R.loadA t54 hB6 rfl rfl rfl trivial ?_  -- 56 := load 54 ('tmp', 6)
    refine R.callE1 ent54 (rRoom _ (hm.ext hE) (by omega) hx) rfl nofun ?_  -- 57 := call {'callee': ('value', ('func', 54)), 'args': [('tmp', 56)], 'argTypes': [54]}
    rintro v57 w12 hx12 rfl
    replace hL22 := hL22.ext hx12
    replace hS41 := hS41.ext hx12
    replace hS47 := hS47.ext hx12
    replace hB2 := hB2.ext hx12
    replace hB5 := hB5.ext hx12
    replace hB6 := hB6.ext hx12
    replace hE := hE.ext hx12
    refine R.move ?_  -- 55 := move ('tmp', 57)
    refine R.extract rfl rfl ?_  -- 58 := extract ('tmp', 55) 0
    refine R.extract rfl rfl ?_  -- 59 := extract ('tmp', 55) 1
    refine R.assign ?_  -- 19 := assign ('tmp', 58)
    refine R.assign ?_  -- 20 := assign ('tmp', 59)
    refine R.nil ?_
    refine E.seq ?_
    refine E.regionW (fun _ b => b < w12.heap.size) [] mixed rfl (by kernel_rfl) ?_  -- region 9
    intro w13 hx13 hh13
    replace hL22 := hL22.ext hx13
    replace hS41 := hS41.ext hx13
    replace hS47 := hS47.ext hx13
    replace hB2 := hB2.ext hx13
    replace hB5 := hB5.ext hx13
    replace hB6 := hB6.ext hx13
    replace hE := hE.ext hx13
    have hEs : Ext w13 w13 := Upd.refl _
    have hS0 := hx13.size
    have hSs : ∀ b, b < w13.heap.size → b < w12.heap.size := fun b hb => by rw [hh13] at hb; exact hb
    have hSa : ∀ b, b < w.heap.size → b < w12.heap.size := fun b hb => by have := hE.size; rw [hh13] at this; omega
    have hL22s := hL22
    have hS41s := hS41
    have hS47s := hS47
    have hB2s := hB2
    have hB5s := hB5
    have hB6s := hB6
    refine R.loadAE t24 hB5s hEs rfl rfl rfl hSs ?_  -- 60 := load 24 ('tmp', 5)
    refine R.callE1 ent27 (rightE _ hL22.mat (by omega) hx6) rfl (fun _ _ hb => Nat.lt_of_lt_of_le hb (Nat.le_trans hS0 hEs.size)) ?_  -- 61 := call {'callee': ('value', ('func', 27)), 'args': [('tmp', 60)], 'argTypes': [24]}
    rintro v61 w14 hx14 rfl
    replace hL22 := hL22.ext hx14
    replace hS41 := hS41.ext hx14
    replace hS47 := hS47.ext hx14
    replace hB2 := hB2.ext hx14
    replace hB5 := hB5.ext hx14
    replace hB6 := hB6.ext hx14
    replace hE := hE.ext hx14
    replace hEs := hEs.ext hx14
    refine R.loadAE t54 hB6s hEs rfl rfl rfl hSs ?_  -- 62 := load 54 ('tmp', 6)
    refine R.callE1 ent55 (rRight _ (hm.ext hE) (by omega) hx) rfl (fun _ _ hb => Nat.lt_of_lt_of_le hb (Nat.le_trans hS0 hEs.size)) ?_  -- 63 := call {'callee': ('value', ('func', 55)), 'args': [('tmp', 62)], 'argTypes': [54]}
    rintro v63 w15 hx15 rfl
    replace hL22 := hL22.ext hx15
    replace hS41 := hS41.ext hx15
    replace hS47 := hS47.ext hx15
    replace hB2 := hB2.ext hx15
    replace hB5 := hB5.ext hx15
    replace hB6 := hB6.ext hx15
    replace hE := hE.ext hx15
    replace hEs := hEs.ext hx15
    refine R.eqlB (b := true) Try.underlying4 rfl rfl (by simp) ?_  -- 64 := binOp ('eql',) 4 ('tmp', 61) ('tmp', 63) 4
    refine R.move ?_  -- 65 := move ('tmp', 64)
    refine R.gT rfl rfl ?_
    refine R.move ?_  -- 66 := move ('tmp', 7)
    refine R.gT rfl rfl ?_
    refine R.move ?_  -- 67 := move ('tmp', 10)
    refine R.gT rfl rfl ?_
    refine R.eql (b := true) rfl rfl (decide_eq_true rfl) ?_  -- 68 := binOp ('eql',) 3 ('tmp', 66) ('tmp', 67) 3
    refine R.pickT rfl ?_  -- 69 := pick ('tmp', 65) ('tmp', 68) ('const', ('bool', ('false',)))
    refine R.move ?_  -- 70 := move ('tmp', 69)
    refine R.gT rfl rfl ?_
    refine R.move ?_  -- 71 := move ('tmp', 8)
    refine R.gT rfl rfl ?_
    refine R.move ?_  -- 72 := move ('tmp', 11)
    refine R.gT rfl rfl ?_
    refine R.eql (b := true) rfl rfl (decide_eq_true rfl) ?_  -- 73 := binOp ('eql',) 3 ('tmp', 71) ('tmp', 72) 3
    refine R.pickT rfl ?_  -- 74 := pick ('tmp', 70) ('tmp', 73) ('const', ('bool', ('false',)))
    refine R.move ?_  -- 75 := move ('tmp', 74)
    refine R.gT rfl rfl ?_
    refine R.move ?_  -- 76 := move ('tmp', 9)
    refine R.gT rfl rfl ?_
    refine R.move ?_  -- 77 := move ('tmp', 12)
    refine R.gT rfl rfl ?_
    refine R.eqlB (b := true) Try.underlying4 rfl rfl (by simp) ?_  -- 78 := binOp ('eql',) 4 ('tmp', 76) ('tmp', 77) 4
    refine R.pickT rfl ?_  -- 79 := pick ('tmp', 75) ('tmp', 78) ('const', ('bool', ('false',)))
    refine R.move ?_  -- 80 := move ('tmp', 79)
    refine R.gT rfl rfl ?_
    refine R.move ?_  -- 81 := move ('tmp', 13)
    refine R.gT rfl rfl ?_
    refine R.move ?_  -- 82 := move ('tmp', 15)
    refine R.gT rfl rfl ?_
    refine R.callE2 ent56 (sameInts1 _ hS41.row hS47.row (aboveL_len hx)) rfl rfl (fun _ _ hb => Nat.lt_of_lt_of_le hb (Nat.le_trans hS0 hEs.size)) ?_  -- 83 := call {'callee': ('value', ('func', 56)), 'args': [('tmp', 81), ('tmp', 82)], 'argTypes': [35, 35]}
    rintro v83 w16 hx16 rfl
    replace hL22 := hL22.ext hx16
    replace hS41 := hS41.ext hx16
    replace hS47 := hS47.ext hx16
    replace hB2 := hB2.ext hx16
    replace hB5 := hB5.ext hx16
    replace hB6 := hB6.ext hx16
    replace hE := hE.ext hx16
    replace hEs := hEs.ext hx16
    refine R.pickT rfl ?_  -- 84 := pick ('tmp', 80) ('tmp', 83) ('const', ('bool', ('false',)))
    refine R.move ?_  -- 85 := move ('tmp', 84)
    refine R.gT rfl rfl ?_
    refine R.move ?_  -- 86 := move ('tmp', 14)
    refine R.gT rfl rfl ?_
    refine R.move ?_  -- 87 := move ('tmp', 16)
    refine R.gT rfl rfl ?_
    refine R.eql (b := true) rfl rfl (decide_eq_true rfl) ?_  -- 88 := binOp ('eql',) 3 ('tmp', 86) ('tmp', 87) 3
    refine R.pickT rfl ?_  -- 89 := pick ('tmp', 85) ('tmp', 88) ('const', ('bool', ('false',)))
    refine R.move ?_  -- 90 := move ('tmp', 89)
    refine R.gT rfl rfl ?_
    refine R.move ?_  -- 91 := move ('tmp', 17)
    refine R.gT rfl rfl ?_
    refine R.move ?_  -- 92 := move ('tmp', 19)
    refine R.gT rfl rfl ?_
    refine R.eql (b := true) rfl rfl (decide_eq_true rfl) ?_  -- 93 := binOp ('eql',) 3 ('tmp', 91) ('tmp', 92) 3
    refine R.pickT rfl ?_  -- 94 := pick ('tmp', 90) ('tmp', 93) ('const', ('bool', ('false',)))
    refine R.move ?_  -- 95 := move ('tmp', 94)
    refine R.gT rfl rfl ?_
    refine R.move ?_  -- 96 := move ('tmp', 18)
    refine R.gT rfl rfl ?_
    refine R.move ?_  -- 97 := move ('tmp', 20)
    refine R.gT rfl rfl ?_
    refine R.eql (b := true) rfl rfl (decide_eq_true rfl) ?_  -- 98 := binOp ('eql',) 3 ('tmp', 96) ('tmp', 97) 3
    refine R.pickT rfl ?_  -- 99 := pick ('tmp', 95) ('tmp', 98) ('const', ('bool', ('false',)))
    refine R.move ?_  -- 100 := move ('tmp', 99)
    refine R.gT rfl rfl ?_
    refine R.loadAE t24 hB5s hEs rfl rfl rfl hSs ?_  -- 101 := load 24 ('tmp', 5)
    refine R.gT rfl rfl ?_
    refine R.loadAE t24 hB2s hEs rfl rfl rfl hSs ?_  -- 102 := load 24 ('tmp', 2)
    refine R.gT rfl rfl ?_
    refine R.callE2 ent33 (kept _ hL22 (hm.ext hE) (by omega) hx6) rfl rfl (fun _ _ hb => Nat.lt_of_lt_of_le hb (Nat.le_trans hS0 hEs.size)) ?_  -- 103 := call {'callee': ('value', ('func', 33)), 'args': [('tmp', 101), ('tmp', 102)], 'argTypes': [24, 24]}
    rintro v103 w17 hx17 rfl
    replace hL22 := hL22.ext hx17
    replace hS41 := hS41.ext hx17
    replace hS47 := hS47.ext hx17
    replace hB2 := hB2.ext hx17
    replace hB5 := hB5.ext hx17
    replace hB6 := hB6.ext hx17
    replace hE := hE.ext hx17
    replace hEs := hEs.ext hx17
    refine R.pickT rfl ?_  -- 104 := pick ('tmp', 100) ('tmp', 103) ('const', ('bool', ('false',)))
    refine R.assign ?_  -- 4 := assign ('tmp', 104)
    refine R.nil ?_
    refine E.ret ?_
    exact ret1 (.bool true) rfl rfl ⟨_, rfl, hE, rfl⟩  -- return 0 path 

theorem yardAsks (w : World) {v : Value} {h b : Int} {us : List Value} {xss : List (List Int)} (hm : Mat w v us xss) (hl : xss.length ≤ 9223372036854775807) :
    Calls Try.prog 3 #[.agg #[v, .int .i64 h], .int .i64 b] w (Ret fun r w' => Ext w w' ∧ r = .bool true) := by
  cases hq : decide ((∀ xs ∈ xss, xs.length ≤ 10) ∧ xss.length ≤ 32)
  · refine calls_E (args := [.agg #[v, .int .i64 h], .int .i64 b]) 16 Try.func3 rfl rfl (by simp) ?_
    have hE : Ext w w := Upd.refl w
    refine E.seq ?_
    refine E.regionP rfl ?_  -- region 0
    refine R.box rfl nofun ?_  -- 2 := box 24 ('tmp', 0)
    intro b2 w1 hb2 hx1 hB2
    replace hb2 := Nat.le_trans hE.size hb2
    replace hE := hE.ext hx1
    replace hB2 : Blk _ b2 24 #[v, .int .i64 h] := hB2
    refine R.assign ?_  -- 4 := assign ('const', ('bool', ('false',)))
    refine R.nil ?_
    refine E.seq ?_
    refine E.regionP rfl ?_  -- region 1
    refine R.loadA t24 hB2 rfl rfl rfl trivial ?_  -- 5 := load 24 ('tmp', 2)
    refine R.callE1 ent17 (few _ (hm.ext hE) hl) rfl nofun ?_  -- 6 := call {'callee': ('value', ('func', 17)), 'args': [('tmp', 5)], 'argTypes': [24]}
    rintro v6 w2 hx2 rfl
    rw [hq]
    replace hB2 := hB2.ext hx2
    replace hE := hE.ext hx2
    refine R.not rfl ?_  -- 7 := unOp ('not',) 4 ('tmp', 6)
    refine R.move ?_  -- 8 := move ('tmp', 7)
    refine R.gF rfl rfl rfl ?_  -- 9 := load 24 ('tmp', 2)
    refine R.gF rfl rfl rfl ?_  -- 10 := move ('tmp', 1)
    refine R.gF rfl rfl rfl ?_  -- 11 := call {'callee': ('value', ('func', 18)), 'args': [('tmp', 9), ('tmp', 10)], 'argTypes': [24, 3]}
    refine R.pickT rfl ?_  -- 12 := pick ('tmp', 8) ('const', ('bool', ('true',))) ('tmp', 11)
    refine R.move ?_  -- 13 := move ('tmp', 12)
    refine R.gT rfl rfl ?_
    refine R.callE0 ent19 (awake _)  nofun ?_  -- 14 := call {'callee': ('value', ('func', 19)), 'args': [], 'argTypes': []}
    rintro v14 w3 hx3 rfl
    replace hB2 := hB2.ext hx3
    replace hE := hE.ext hx3
    refine R.pickT rfl ?_  -- 15 := pick ('tmp', 13) ('tmp', 14) ('const', ('bool', ('false',)))
    refine R.assign ?_  -- 4 := assign ('tmp', 15)
    refine R.nil ?_
    refine E.ret ?_
    exact ret1 (.bool true) rfl rfl ⟨_, rfl, hE, rfl⟩  -- return 0 path 
  · refine calls_E (args := [.agg #[v, .int .i64 h], .int .i64 b]) 16 Try.func3 rfl rfl (by simp) ?_
    have hE : Ext w w := Upd.refl w
    refine E.seq ?_
    refine E.regionP rfl ?_  -- region 0
    refine R.box rfl nofun ?_  -- 2 := box 24 ('tmp', 0)
    intro b2 w1 hb2 hx1 hB2
    replace hb2 := Nat.le_trans hE.size hb2
    replace hE := hE.ext hx1
    replace hB2 : Blk _ b2 24 #[v, .int .i64 h] := hB2
    refine R.assign ?_  -- 4 := assign ('const', ('bool', ('false',)))
    refine R.nil ?_
    refine E.seq ?_
    refine E.regionP rfl ?_  -- region 1
    refine R.loadA t24 hB2 rfl rfl rfl trivial ?_  -- 5 := load 24 ('tmp', 2)
    refine R.callE1 ent17 (few _ (hm.ext hE) hl) rfl nofun ?_  -- 6 := call {'callee': ('value', ('func', 17)), 'args': [('tmp', 5)], 'argTypes': [24]}
    rintro v6 w2 hx2 rfl
    rw [hq]
    replace hB2 := hB2.ext hx2
    replace hE := hE.ext hx2
    refine R.not rfl ?_  -- 7 := unOp ('not',) 4 ('tmp', 6)
    refine R.move ?_  -- 8 := move ('tmp', 7)
    refine R.gT rfl rfl ?_
    refine R.loadA t24 hB2 rfl rfl rfl trivial ?_  -- 9 := load 24 ('tmp', 2)
    refine R.gT rfl rfl ?_
    refine R.move ?_  -- 10 := move ('tmp', 1)
    refine R.gT rfl rfl ?_
    refine R.callE2 ent18 (asks _ (hm.ext hE) (of_decide_eq_true hq).2 (of_decide_eq_true hq).1) rfl rfl nofun ?_  -- 11 := call {'callee': ('value', ('func', 18)), 'args': [('tmp', 9), ('tmp', 10)], 'argTypes': [24, 3]}
    rintro v11 w3 hx3 rfl
    replace hB2 := hB2.ext hx3
    replace hE := hE.ext hx3
    refine R.pickF rfl ?_  -- 12 := pick ('tmp', 8) ('const', ('bool', ('true',))) ('tmp', 11)
    refine R.move ?_  -- 13 := move ('tmp', 12)
    refine R.gT rfl rfl ?_
    refine R.callE0 ent19 (awake _)  nofun ?_  -- 14 := call {'callee': ('value', ('func', 19)), 'args': [], 'argTypes': []}
    rintro v14 w4 hx4 rfl
    replace hB2 := hB2.ext hx4
    replace hE := hE.ext hx4
    refine R.pickT rfl ?_  -- 15 := pick ('tmp', 13) ('tmp', 14) ('const', ('bool', ('false',)))
    refine R.assign ?_  -- 4 := assign ('tmp', 15)
    refine R.nil ?_
    refine E.ret ?_
    exact ret1 (.bool true) rfl rfl ⟨_, rfl, hE, rfl⟩  -- return 0 path 

end Go.Proofs.Ytfdmndkoiheebaa
