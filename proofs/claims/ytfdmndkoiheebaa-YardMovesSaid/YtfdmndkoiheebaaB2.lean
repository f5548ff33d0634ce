/- Find, Reverse -/
import Derived.Test.YtfdmndkoiheebaaB1
namespace Go.Proofs.Ytfdmndkoiheebaa
open Go Go.RowKit


theorem SInts.nil (w : World) : SInts w (.slice none 0 0) [] := Sl.nil w 3 1
theorem SInts.app {w : World} {v : Value} {xs ys : List Int} {m : Nat} (h : Sl w 3 1 v (xs.length + m) (ints xs ++ ints ys)) (hm : m = ys.length) : SInts w v (xs ++ ys) := by
  show Sl w 3 1 v (xs ++ ys).length _
  rw [List.length_append, show ints (xs ++ ys) = ints xs ++ ints ys by simp [ints], ← hm]
  exact h
theorem Ints.drop {w : World} {v : Value} {xs : List Int} (h : Ints w v xs) {k : Nat} (hk : k ≤ xs.length) : Ints w (cut 1 v k xs.length) (xs.drop k) := by
  have := h.cut (l := k) (r := xs.length) hk (Nat.le_refl _)
  show Row w 1 _ (xs.drop k).length _
  have e : (ints xs).drop (k * 1) = ints (xs.drop k) := by simp [ints, List.map_drop]
  rw [e, Nat.mul_one, List.take_of_length_le (by simp [ints])] at this
  rw [List.length_drop]
  exact this
theorem SInts.take {w : World} {v : Value} {xs : List Int} (h : SInts w v xs) {k : Nat} (hk : k ≤ xs.length) : SInts w (cut 1 v 0 k) (xs.take k) := by
  have := h.cut (l := 0) (r := k) (Nat.zero_le _) hk
  show Sl w 3 1 _ (xs.take k).length _
  have e : ((ints xs).drop (0 * 1)).take ((k - 0) * 1) = ints (xs.take k) := by simp [ints, List.map_take]
  rw [e, Nat.sub_zero] at this
  rw [List.length_take, Nat.min_eq_left hk]
  exact this


def findV (xss : List (List Int)) (b : Int) : Value :=
  match findL xss b with
  | some (i, k) => .tuple #[.int .i64 i, .int .i64 k, .bool true]
  | none => .tuple #[.int .i64 0, .int .i64 0, .bool false]

theorem find (w : World) {v : Value} {h b : Int} {us : List Value} {xss : List (List Int)} (hm : Mat w v us xss) (hl : xss.length < 1000000) (hx : ∀ xs ∈ xss, xs.length < 1000000) :
    Calls Try.prog 23 #[.agg #[v, .int .i64 h], .int .i64 b] w (Ret fun r w' => Ext w w' ∧ r = findV xss b) := by
  refine calls_E (args := [.agg #[v, .int .i64 h], .int .i64 b]) 26 Try.func23 rfl rfl (by simp) ?_
  have hE : Ext w w := Upd.refl w
  refine E.seq ?_
  refine E.regionP rfl ?_  -- region 0
  refine R.box rfl nofun ?_  -- 2 := box 24 ('tmp', 0)
  intro b2 w1 hb2 hx1 hB2
  replace hb2 := Nat.le_trans hE.size hb2
  replace hE := hE.ext hx1
  replace hB2 : Blk _ b2 24 #[v, .int .i64 h] := hB2
  refine R.assign ?_  -- 4 := assign ('const', ('int', ('i64',), 0))
  refine R.assign ?_  -- 5 := assign ('const', ('int', ('i64',), 0))
  refine R.assign ?_  -- 6 := assign ('const', ('bool', ('false',)))
  refine R.nil ?_
  refine E.seq ?_
  refine E.seq ?_
  refine E.regionP rfl ?_  -- region 1
  refine R.fld fa24_0 rfl ?_  -- 10 := fieldAddr 24 ('tmp', 2) 0
  refine R.loadB t22 hB2 rfl rfl rfl trivial ?_  -- 11 := load 22 ('tmp', 10)
  refine R.len Try.underlying22 hm.row rfl ?_  -- 12 := call {'callee': ('builtin', ('len',)), 'args': [('tmp', 11)], 'argTypes': [22]}
  refine R.move ?_  -- 13 := move ('const', ('int', ('i64',), 0))
  refine R.nil ?_
  refine E.block ?_  -- block 0
  refine E.loop (fun n e wr => ∃ i : Nat, n = xss.length - i ∧ i ≤ xss.length ∧ Ext w wr ∧ (∀ xs ∈ xss.take i, b ∉ xs) ∧ Has e [(1, .int .i64 b), (11, v), (12, .int .i64 xss.length), (13, .int .i64 i)]) (xss.length) ?_ ?_
  · exact ⟨0, rfl, Nat.zero_le _, hE, by simp, rfl, rfl, rfl, rfl, trivial⟩
  · rintro n e wr ⟨i, rfl, hi, hE, hn, hH⟩
    obtain ⟨e, rfl⟩ := hH.ex
    clear hH
    refine E.seq ?_
    refine E.regionP rfl ?_  -- region 2
    refine R.lss rfl rfl rfl ?_  -- 14 := binOp ('lss',) 3 ('tmp', 13) ('tmp', 12) 3
    refine R.nil ?_
    refine E.seq ?_
    refine E.cond rfl (fun hc14 => ?_) (fun hc14 => ?_)  -- cond t14
    · replace hc14 := dT hc14
      refine E.skip ?_
      refine E.seq ?_
      refine E.block ?_  -- block 1
      refine E.seq ?_
      refine E.regionP rfl ?_  -- region 3
      refine R.move ?_  -- 15 := move ('tmp', 13)
      refine R.ix Try.underlying22 t35 (by decide) hm.row rfl rfl (by omega) ?_  -- 16 := indexAddr 22 ('tmp', 11) ('tmp', 13)
      obtain ⟨u17, hu17, hr17⟩ := hm.get i (by omega)
      refine R.ld t35 (hm.row.ext hE) rfl hu17 rfl (fun _ _ => trivial) ?_  -- 17 := load 35 ('tmp', 16)
      refine R.assign ?_  -- 7 := assign ('tmp', 15)
      refine R.assign ?_  -- 8 := assign ('tmp', 17)
      refine R.nil ?_
      refine E.seq ?_
      refine E.regionP rfl ?_  -- region 4
      refine R.move ?_  -- 18 := move ('tmp', 8)
      refine R.move ?_  -- 19 := move ('tmp', 1)
      refine R.callE2 ent61 (sIndex _ (hr17.ext hE) (Nat.lt_trans (hx _ (List.getElem_mem _)) (by decide))) rfl rfl nofun ?_  -- 20 := call {'callee': ('value', ('func', 61)), 'args': [('tmp', 18), ('tmp', 19)], 'argTypes': [35, 3]}
      rintro v20 w2 hx2 rfl
      replace hE := hE.ext hx2
      refine R.assign ?_  -- 9 := assign ('tmp', 20)
      refine R.nil ?_
      refine E.seq ?_
      refine E.regionP rfl ?_  -- region 5
      refine R.move ?_  -- 21 := move ('tmp', 9)
      refine R.geq rfl rfl rfl ?_  -- 22 := binOp ('geq',) 3 ('tmp', 21) ('const', ('int', ('i64',), 0)) 3
      refine R.nil ?_
      refine E.cond rfl (fun hc22 => ?_) (fun hc22 => ?_)  -- cond t22
      · replace hc22 := dT hc22
        refine E.seq ?_
        refine E.regionP rfl ?_  -- region 6
        refine R.move ?_  -- 23 := move ('tmp', 7)
        refine R.move ?_  -- 24 := move ('tmp', 9)
        refine R.assign ?_  -- 4 := assign ('tmp', 23)
        refine R.assign ?_  -- 5 := assign ('tmp', 24)
        refine R.assign ?_  -- 6 := assign ('const', ('bool', ('true',)))
        refine R.nil ?_
        refine E.ret ?_
        have hin : b ∈ xss[i] := by  -- return 0 path TT
          refine Decidable.byContradiction fun hn => ?_
          rw [indexL_miss hn] at hc22
          omega
        have hi2 : indexL xss[i] b = (xss[i].idxOf b : Nat) := by simp [indexL, hin]
        refine ret3 (.int .i64 i) (.int .i64 (xss[i].idxOf b : Nat)) (.bool true) rfl rfl (by rw [← hi2]; rfl) rfl ⟨_, rfl, hE, ?_⟩
        simp [findV, findL_hit (by omega) hn hin]
      · replace hc22 := dF hc22
        refine E.skip ?_
        refine E.regionP rfl ?_  -- region 7
        refine R.addN (n := 1) rfl rfl (by omega) ?_  -- 25 := binOp ('add',) 3 ('tmp', 13) ('const', ('int', ('i64',), 1)) 3
        refine R.move ?_  -- 13 := move ('tmp', 25)
        refine R.nil ?_
        refine ⟨xss.length - (i + 1), by omega, i + 1, rfl, by omega, hE, ?_, rfl, rfl, rfl, rfl, trivial⟩  -- round end 0 path TF
        intro xs hxs
        rw [List.take_succ_eq_append_getElem (by omega)] at hxs
        rcases List.mem_append.1 hxs with hxs | hxs
        · exact hn xs hxs
        · simp at hxs; subst hxs
          intro hb
          apply hc22
          simp [indexL, hb]
    · replace hc14 := dF hc14
      refine E.exit ?_  -- exit 0
      refine E.seq ?_
      refine E.regionP rfl ?_  -- region 8
      refine R.assign ?_  -- 4 := assign ('const', ('int', ('i64',), 0))
      refine R.assign ?_  -- 5 := assign ('const', ('int', ('i64',), 0))
      refine R.assign ?_  -- 6 := assign ('const', ('bool', ('false',)))
      refine R.nil ?_
      refine E.ret ?_
      refine ret3 (.int .i64 0) (.int .i64 0) (.bool false) rfl rfl rfl rfl ⟨_, rfl, hE, ?_⟩  -- return 1 path F
      obtain rfl : i = xss.length := by omega
      rw [List.take_length] at hn
      simp [findV, findL_miss hn]


/-- The first i and the last i of xs are exchanged. -/
def swapped (xs ys : List Int) (i : Nat) : Prop := ys.length = xs.length ∧ ∀ k, k < xs.length → ys[k]? = if k < i ∨ xs.length - i ≤ k then xs[xs.length - 1 - k]? else xs[k]?
theorem swapped_end {xs ys : List Int} {i : Nat} (h : swapped xs ys i) (hi : xs.length ≤ 2 * i + 1) : ys = xs.reverse := by
  obtain ⟨h1, h2⟩ := h
  apply List.ext_getElem?
  intro k
  by_cases hk : k < xs.length
  · rw [h2 k hk, List.getElem?_reverse hk]
    split
    · rfl
    · congr 1; omega
  · rw [List.getElem?_eq_none (by omega), List.getElem?_eq_none (by simp; omega)]
theorem swapped_step {xs ys : List Int} {i : Nat} (h : swapped xs ys i) (hi : 2 * i + 1 < xs.length) {a b : Int} (ha : ys[xs.length - 1 - i]? = some a) (hb : ys[i]? = some b) : swapped xs ((ys.set i a).set (xs.length - 1 - i) b) (i + 1) := by
  obtain ⟨h1, h2⟩ := h
  refine ⟨by simpa using h1, fun k hk => ?_⟩
  have e1 := h2 i (by omega)
  have e2 := h2 (xs.length - 1 - i) (by omega)
  rw [if_neg (by omega)] at e1 e2
  rw [ha] at e2
  rw [hb] at e1
  simp only [List.getElem?_set, List.length_set, h1]
  by_cases hk1 : xs.length - 1 - i = k
  · subst hk1
    rw [if_pos rfl, if_pos (by omega), if_pos (by omega), e1]
    congr 1; omega
  · rw [if_neg hk1]
    by_cases hk2 : i = k
    · subst hk2
      rw [if_pos rfl, if_pos (by omega), if_pos (by omega), e2]
    · rw [if_neg hk2, h2 k hk]
      by_cases hk3 : k < i ∨ xs.length - i ≤ k
      · rw [if_pos hk3, if_pos (by omega)]
      · rw [if_neg hk3, if_neg (by omega)]
theorem ints_set (ys : List Int) (i : Nat) (a : Int) : (ints ys).set i (.int .i64 a) = ints (ys.set i a) := by simp [ints]

theorem sReverse (w : World) {v : Value} {xs : List Int} (hs : SInts w v xs) (hl : xs.length < 1000000) :
    Calls Try.prog 63 #[v] w (Ret fun r w' => r = .tuple #[] ∧ Upd (fun b => vblk v = some b) w w' ∧ SInts w' v xs.reverse) := by
  have hr0 := hs.row
  refine calls_E (args := [v]) 28 Try.func63 rfl rfl (by simp) ?_
  refine E.seq ?_
  refine E.regionP rfl ?_  -- region 0
  refine R.move ?_  -- 4 := move ('tmp', 0)
  refine R.len Try.underlying35 hr0 rfl ?_  -- 5 := call {'callee': ('builtin', ('len',)), 'args': [('tmp', 4)], 'argTypes': [35]}
  refine R.sub rfl rfl (by omega) (by omega) ?_  -- 6 := binOp ('sub',) 3 ('tmp', 5) ('const', ('int', ('i64',), 1)) 3
  refine R.assign ?_  -- 2 := assign ('const', ('int', ('i64',), 0))
  refine R.assign ?_  -- 3 := assign ('tmp', 6)
  refine R.nil ?_
  refine E.block ?_  -- block 0
  refine E.loop (fun n e wr => ∃ (i : Nat) (jj : Int) (ys : List Int), n = xs.length - i ∧ i ≤ xs.length ∧ jj = xs.length - 1 - i ∧ Upd (fun b => vblk v = some b) w wr ∧ Sl wr 3 1 v xs.length (ints ys) ∧ swapped xs ys i ∧ Has e [(0, v), (2, .int .i64 i), (3, .int .i64 jj)]) (xs.length) ?_ ?_
  · exact ⟨0, _, xs, rfl, Nat.zero_le _, by omega, Upd.refl w, hs, ⟨rfl, fun k hk => by rw [if_neg (by omega)]⟩, rfl, rfl, rfl, trivial⟩
  · rintro n e wr ⟨i, jj, ys, rfl, hi, hjj, hU, hS, hsw, hH⟩
    obtain ⟨e, rfl⟩ := hH.ex
    clear hH
    refine E.seq ?_
    refine E.seq ?_
    refine E.regionP rfl ?_  -- region 1
    refine R.move ?_  -- 7 := move ('tmp', 2)
    refine R.move ?_  -- 8 := move ('tmp', 3)
    refine R.lss rfl rfl rfl ?_  -- 9 := binOp ('lss',) 3 ('tmp', 7) ('tmp', 8) 3
    refine R.nil ?_
    refine E.cond rfl (fun hc9 => ?_) (fun hc9 => ?_)  -- cond t9
    · replace hc9 := dT hc9
      obtain ⟨j, rfl⟩ : ∃ j : Nat, jj = j := ⟨jj.toNat, by omega⟩
      obtain rfl : j = xs.length - 1 - i := by omega
      have hy1 := hsw.1
      refine E.skip ?_
      refine E.seq ?_
      refine E.block ?_  -- block 1
      refine E.regionW (fun c b => match c with | true => True | false => vblk v ≠ some b) [21, 25] mixed rfl (by kernel_rfl) ?_  -- region 3
      intro w1 hx1 hh1
      replace hS := hS.ext hx1
      replace hU := hU.ext hx1
      refine R.move ?_  -- 14 := move ('tmp', 0)
      refine R.move ?_  -- 15 := move ('tmp', 2)
      refine R.move ?_  -- 16 := move ('tmp', 0)
      refine R.move ?_  -- 17 := move ('tmp', 3)
      refine R.move ?_  -- 18 := move ('tmp', 0)
      refine R.move ?_  -- 19 := move ('tmp', 3)
      refine R.ix Try.underlying35 t3 (by decide) hS.row rfl rfl (by omega) ?_  -- 20 := indexAddr 35 ('tmp', 18) ('tmp', 19)
      obtain ⟨a21, ha21⟩ : ∃ a, ys[xs.length - 1 - i]? = some a := ⟨_, List.getElem?_eq_getElem (by omega)⟩  -- 21 := load 3 ('tmp', 20)
      refine R.ld (u := .int .i64 a21) t3 hS.row rfl (by simp [ints, ha21]) rfl (fun _ _ => trivial) ?_
      refine R.move ?_  -- 22 := move ('tmp', 0)
      refine R.move ?_  -- 23 := move ('tmp', 2)
      refine R.ix Try.underlying35 t3 (by decide) hS.row rfl rfl (by omega) ?_  -- 24 := indexAddr 35 ('tmp', 22) ('tmp', 23)
      obtain ⟨a25, ha25⟩ : ∃ a, ys[i]? = some a := ⟨_, List.getElem?_eq_getElem (by omega)⟩  -- 25 := load 3 ('tmp', 24)
      refine R.ld (u := .int .i64 a25) t3 hS.row rfl (by simp [ints, ha25]) rfl (fun _ _ => trivial) ?_
      refine R.ix Try.underlying35 t3 (by decide) hS.row rfl rfl (by omega) ?_  -- 26 := indexAddr 35 ('tmp', 14) ('tmp', 15)
      refine R.stE (u := .int .i64 a21) t3 hS rfl rfl rfl (by omega) (fun _ b hb h => h hb) ?_  -- None := store 3 ('tmp', 26) ('tmp', 21)
      intro w26 hU26 hs26 hS26
      replace hU := hU.trans hU26 (fun _ _ h => h)
      refine R.ix Try.underlying35 t3 (by decide) hS26.row rfl rfl (by omega) ?_  -- 27 := indexAddr 35 ('tmp', 16) ('tmp', 17)
      refine R.stE (u := .int .i64 a25) t3 hS26 rfl rfl rfl (by omega) (fun _ b hb h => h hb) ?_  -- None := store 3 ('tmp', 27) ('tmp', 25)
      intro w27 hU27 hs27 hS27
      replace hU := hU.trans hU27 (fun _ _ h => h)
      refine R.nil ?_
      refine E.regionP rfl ?_  -- region 2
      refine R.move ?_  -- 10 := move ('tmp', 2)
      refine R.addN (n := 1) rfl rfl (by omega) ?_  -- 11 := binOp ('add',) 3 ('tmp', 10) ('const', ('int', ('i64',), 1)) 3
      refine R.move ?_  -- 12 := move ('tmp', 3)
      refine R.sub rfl rfl (by omega) (by omega) ?_  -- 13 := binOp ('sub',) 3 ('tmp', 12) ('const', ('int', ('i64',), 1)) 3
      refine R.assign ?_  -- 2 := assign ('tmp', 11)
      refine R.assign ?_  -- 3 := assign ('tmp', 13)
      refine R.nil ?_
      refine ⟨xs.length - (i + 1), by omega, i + 1, _, _, rfl, by omega, ?_, hU, ?_, swapped_step hsw (by omega) ha21 ha25, rfl, rfl, rfl, trivial⟩  -- round end 0 path T
      · omega
      · rw [ints_set, ints_set] at hS27
        exact hS27
    · replace hc9 := dF hc9
      refine E.exit ?_  -- exit 0
      refine end0 rfl ⟨_, rfl, rfl, hU, ?_⟩  -- end
      rw [swapped_end hsw (by omega)] at hS
      show Sl _ 3 1 v xs.reverse.length _
      rw [List.length_reverse]
      exact hS

end Go.Proofs.Ytfdmndkoiheebaa
