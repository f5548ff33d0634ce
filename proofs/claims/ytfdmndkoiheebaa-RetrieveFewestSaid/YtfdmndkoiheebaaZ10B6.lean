import Derived.Test.YtfdmndkoiheebaaZ10B1
namespace Go.Proofs.Ytfdmndkoiheebaa
open Go Go.RowKit
theorem SInts.nil (w : World) : SInts w (.slice none 0 0) [] := Sl.nil w 3 1
theorem SInts.app {w : World} {v : Value} {xs ys : List Int} {m : Nat} (h : Sl w 3 1 v (xs.length + m) (ints xs ++ ints ys)) (hm : m = ys.length) : SInts w v (xs ++ ys) := by
  show Sl w 3 1 v (xs ++ ys).length _
  rw [List.length_append, show ints (xs ++ ys) = ints xs ++ ints ys by simp [ints], ← hm]
  exact h
theorem Ints.drop {w : World} {v : Value} {xs : List Int} (h : Ints w v xs) {k : Nat} (hk : k ≤ xs.length) : Ints w (cut 1 v k xs.length) (xs.drop k) := by
  have := h.cut (l := k) (r := xs.length) hk (Nat.le_refl _)
  show Row w 1 _ (xs.drop k).length _
  have e : (ints xs).drop (k * 1) = ints (xs.drop k) := by simp [ints, List.map_drop]
  rw [e, Nat.mul_one, List.take_of_length_le (by simp [ints])] at this
  rw [List.length_drop]
  exact this
theorem SInts.take {w : World} {v : Value} {xs : List Int} (h : SInts w v xs) {k : Nat} (hk : k ≤ xs.length) : SInts w (cut 1 v 0 k) (xs.take k) := by
  have := h.cut (l := 0) (r := k) (Nat.zero_le _) hk
  show Sl w 3 1 _ (xs.take k).length _
  have e : ((ints xs).drop (0 * 1)).take ((k - 0) * 1) = ints (xs.take k) := by simp [ints, List.map_take]
  rw [e, Nat.sub_zero] at this
  rw [List.length_take, Nat.min_eq_left hk]
  exact this
def findV (xss : List (List Int)) (b : Int) : Value :=
  match findL xss b with
  | some (i, k) => .tuple #[.int .i64 i, .int .i64 k, .bool true]
  | none => .tuple #[.int .i64 0, .int .i64 0, .bool false]
theorem find (w : World) {v : Value} {h b : Int} {us : List Value} {xss : List (List Int)} (hm : Mat w v us xss) (hl : xss.length < 1000000) (hx : ∀ xs ∈ xss, xs.length < 1000000) :
    Calls Try.prog 23 #[.agg #[v, .int .i64 h], .int .i64 b] w (Ret fun r w' => Ext w w' ∧ r = findV xss b) := by
  refine calls_E (args := [.agg #[v, .int .i64 h], .int .i64 b]) 26 Try.func23 rfl rfl (by simp) ?_
  have hE : Ext w w := Upd.refl w
  refine E.seq ?_
  refine E.regionP rfl ?_
  refine R.box rfl nofun ?_
  intro b2 w1 hb2 hx1 hB2
  replace hb2 := Nat.le_trans hE.size hb2
  replace hE := hE.ext hx1
  replace hB2 : Blk _ b2 24 #[v, .int .i64 h] := hB2
  refine R.assign ?_
  refine R.assign ?_
  refine R.assign ?_
  refine R.nil ?_
  refine E.seq ?_
  refine E.seq ?_
  refine E.regionP rfl ?_
  refine R.fld fa24_0 rfl ?_
  refine R.loadB t22 hB2 rfl rfl rfl trivial ?_
  refine R.len Try.underlying22 hm.row rfl ?_
  refine R.move ?_
  refine R.nil ?_
  refine E.block ?_
  refine E.loop (fun n e wr => ∃ i : Nat, n = xss.length - i ∧ i ≤ xss.length ∧ Ext w wr ∧ (∀ xs ∈ xss.take i, b ∉ xs) ∧ Has e [(1, .int .i64 b), (11, v), (12, .int .i64 xss.length), (13, .int .i64 i)]) (xss.length) ?_ ?_
  · exact ⟨0, rfl, Nat.zero_le _, hE, by simp, rfl, rfl, rfl, rfl, trivial⟩
  · rintro n e wr ⟨i, rfl, hi, hE, hn, hH⟩
    obtain ⟨e, rfl⟩ := hH.ex
    clear hH
    refine E.seq ?_
    refine E.regionP rfl ?_
    refine R.lss rfl rfl rfl ?_
    refine R.nil ?_
    refine E.seq ?_
    refine E.cond rfl (fun hc14 => ?_) (fun hc14 => ?_)
    · replace hc14 := dT hc14
      refine E.skip ?_
      refine E.seq ?_
      refine E.block ?_
      refine E.seq ?_
      refine E.regionP rfl ?_
      refine R.move ?_
      refine R.ix Try.underlying22 t35 (by decide) hm.row rfl rfl (by omega) ?_
      obtain ⟨u17, hu17, hr17⟩ := hm.get i (by omega)
      refine R.ld t35 (hm.row.ext hE) rfl hu17 rfl (fun _ _ => trivial) ?_
      refine R.assign ?_
      refine R.assign ?_
      refine R.nil ?_
      refine E.seq ?_
      refine E.regionP rfl ?_
      refine R.move ?_
      refine R.move ?_
      refine R.callE2 ent61 (sIndex _ (hr17.ext hE) (Nat.lt_trans (hx _ (List.getElem_mem _)) (by decide))) rfl rfl nofun ?_
      rintro v20 w2 hx2 rfl
      replace hE := hE.ext hx2
      refine R.assign ?_
      refine R.nil ?_
      refine E.seq ?_
      refine E.regionP rfl ?_
      refine R.move ?_
      refine R.geq rfl rfl rfl ?_
      refine R.nil ?_
      refine E.cond rfl (fun hc22 => ?_) (fun hc22 => ?_)
      · replace hc22 := dT hc22
        refine E.seq ?_
        refine E.regionP rfl ?_
        refine R.move ?_
        refine R.move ?_
        refine R.assign ?_
        refine R.assign ?_
        refine R.assign ?_
        refine R.nil ?_
        refine E.ret ?_
        have hin : b ∈ xss[i] := by
          refine Decidable.byContradiction fun hn => ?_
          rw [indexL_miss hn] at hc22
          omega
        have hi2 : indexL xss[i] b = (xss[i].idxOf b : Nat) := by simp [indexL, hin]
        refine ret3 (.int .i64 i) (.int .i64 (xss[i].idxOf b : Nat)) (.bool true) rfl rfl (by rw [← hi2]; rfl) rfl ⟨_, rfl, hE, ?_⟩
        simp [findV, findL_hit (by omega) hn hin]
      · replace hc22 := dF hc22
        refine E.skip ?_
        refine E.regionP rfl ?_
        refine R.addN (n := 1) rfl rfl (by omega) ?_
        refine R.move ?_
        refine R.nil ?_
        refine ⟨xss.length - (i + 1), by omega, i + 1, rfl, by omega, hE, ?_, rfl, rfl, rfl, rfl, trivial⟩
        intro xs hxs
        rw [List.take_succ_eq_append_getElem (by omega)] at hxs
        rcases List.mem_append.1 hxs with hxs | hxs
        · exact hn xs hxs
        · simp at hxs; subst hxs
          intro hb
          apply hc22
          simp [indexL, hb]
    · replace hc14 := dF hc14
      refine E.exit ?_
      refine E.seq ?_
      refine E.regionP rfl ?_
      refine R.assign ?_
      refine R.assign ?_
      refine R.assign ?_
      refine R.nil ?_
      refine E.ret ?_
      refine ret3 (.int .i64 0) (.int .i64 0) (.bool false) rfl rfl rfl rfl ⟨_, rfl, hE, ?_⟩
      obtain rfl : i = xss.length := by omega
      rw [List.take_length] at hn
      simp [findV, findL_miss hn]
def swapped (xs ys : List Int) (i : Nat) : Prop := ys.length = xs.length ∧ ∀ k, k < xs.length → ys[k]? = if k < i ∨ xs.length - i ≤ k then xs[xs.length - 1 - k]? else xs[k]?
theorem swapped_end {xs ys : List Int} {i : Nat} (h : swapped xs ys i) (hi : xs.length ≤ 2 * i + 1) : ys = xs.reverse := by
  obtain ⟨h1, h2⟩ := h
  apply List.ext_getElem?
  intro k
  by_cases hk : k < xs.length
  · rw [h2 k hk, List.getElem?_reverse hk]
    split
    · rfl
    · congr 1; omega
  · rw [List.getElem?_eq_none (by omega), List.getElem?_eq_none (by simp; omega)]
theorem swapped_step {xs ys : List Int} {i : Nat} (h : swapped xs ys i) (hi : 2 * i + 1 < xs.length) {a b : Int} (ha : ys[xs.length - 1 - i]? = some a) (hb : ys[i]? = some b) : swapped xs ((ys.set i a).set (xs.length - 1 - i) b) (i + 1) := by
  obtain ⟨h1, h2⟩ := h
  refine ⟨by simpa using h1, fun k hk => ?_⟩
  have e1 := h2 i (by omega)
  have e2 := h2 (xs.length - 1 - i) (by omega)
  rw [if_neg (by omega)] at e1 e2
  rw [ha] at e2
  rw [hb] at e1
  simp only [List.getElem?_set, List.length_set, h1]
  by_cases hk1 : xs.length - 1 - i = k
  · subst hk1
    rw [if_pos rfl, if_pos (by omega), if_pos (by omega), e1]
    congr 1; omega
  · rw [if_neg hk1]
    by_cases hk2 : i = k
    · subst hk2
      rw [if_pos rfl, if_pos (by omega), if_pos (by omega), e2]
    · rw [if_neg hk2, h2 k hk]
      by_cases hk3 : k < i ∨ xs.length - i ≤ k
      · rw [if_pos hk3, if_pos (by omega)]
      · rw [if_neg hk3, if_neg (by omega)]
theorem ints_set (ys : List Int) (i : Nat) (a : Int) : (ints ys).set i (.int .i64 a) = ints (ys.set i a) := by simp [ints]
theorem sReverse (w : World) {v : Value} {xs : List Int} (hs : SInts w v xs) (hl : xs.length < 1000000) :
    Calls Try.prog 63 #[v] w (Ret fun r w' => r = .tuple #[] ∧ Upd (fun b => vblk v = some b) w w' ∧ SInts w' v xs.reverse) := by
  have hr0 := hs.row
  refine calls_E (args := [v]) 28 Try.func63 rfl rfl (by simp) ?_
  refine E.seq ?_
  refine E.regionP rfl ?_
  refine R.move ?_
  refine R.len Try.underlying35 hr0 rfl ?_
  refine R.sub rfl rfl (by omega) (by omega) ?_
  refine R.assign ?_
  refine R.assign ?_
  refine R.nil ?_
  refine E.block ?_
  refine E.loop (fun n e wr => ∃ (i : Nat) (jj : Int) (ys : List Int), n = xs.length - i ∧ i ≤ xs.length ∧ jj = xs.length - 1 - i ∧ Upd (fun b => vblk v = some b) w wr ∧ Sl wr 3 1 v xs.length (ints ys) ∧ swapped xs ys i ∧ Has e [(0, v), (2, .int .i64 i), (3, .int .i64 jj)]) (xs.length) ?_ ?_
  · exact ⟨0, _, xs, rfl, Nat.zero_le _, by omega, Upd.refl w, hs, ⟨rfl, fun k hk => by rw [if_neg (by omega)]⟩, rfl, rfl, rfl, trivial⟩
  · rintro n e wr ⟨i, jj, ys, rfl, hi, hjj, hU, hS, hsw, hH⟩
    obtain ⟨e, rfl⟩ := hH.ex
    clear hH
    refine E.seq ?_
    refine E.seq ?_
    refine E.regionP rfl ?_
    refine R.move ?_
    refine R.move ?_
    refine R.lss rfl rfl rfl ?_
    refine R.nil ?_
    refine E.cond rfl (fun hc9 => ?_) (fun hc9 => ?_)
    · replace hc9 := dT hc9
      obtain ⟨j, rfl⟩ : ∃ j : Nat, jj = j := ⟨jj.toNat, by omega⟩
      obtain rfl : j = xs.length - 1 - i := by omega
      have hy1 := hsw.1
      refine E.skip ?_
      refine E.seq ?_
      refine E.block ?_
      refine E.regionW (fun c b => match c with | true => True | false => vblk v ≠ some b) [21, 25] mixed rfl (by kernel_rfl) ?_
      intro w1 hx1 hh1
      replace hS := hS.ext hx1
      replace hU := hU.ext hx1
      refine R.move ?_
      refine R.move ?_
      refine R.move ?_
      refine R.move ?_
      refine R.move ?_
      refine R.move ?_
      refine R.ix Try.underlying35 t3 (by decide) hS.row rfl rfl (by omega) ?_
      obtain ⟨a21, ha21⟩ : ∃ a, ys[xs.length - 1 - i]? = some a := ⟨_, List.getElem?_eq_getElem (by omega)⟩
      refine R.ld (u := .int .i64 a21) t3 hS.row rfl (by simp [ints, ha21]) rfl (fun _ _ => trivial) ?_
      refine R.move ?_
      refine R.move ?_
      refine R.ix Try.underlying35 t3 (by decide) hS.row rfl rfl (by omega) ?_
      obtain ⟨a25, ha25⟩ : ∃ a, ys[i]? = some a := ⟨_, List.getElem?_eq_getElem (by omega)⟩
      refine R.ld (u := .int .i64 a25) t3 hS.row rfl (by simp [ints, ha25]) rfl (fun _ _ => trivial) ?_
      refine R.ix Try.underlying35 t3 (by decide) hS.row rfl rfl (by omega) ?_
      refine R.stE (u := .int .i64 a21) t3 hS rfl rfl rfl (by omega) (fun _ b hb h => h hb) ?_
      intro w26 hU26 hs26 hS26
      replace hU := hU.trans hU26 (fun _ _ h => h)
      refine R.ix Try.underlying35 t3 (by decide) hS26.row rfl rfl (by omega) ?_
      refine R.stE (u := .int .i64 a25) t3 hS26 rfl rfl rfl (by omega) (fun _ b hb h => h hb) ?_
      intro w27 hU27 hs27 hS27
      replace hU := hU.trans hU27 (fun _ _ h => h)
      refine R.nil ?_
      refine E.regionP rfl ?_
      refine R.move ?_
      refine R.addN (n := 1) rfl rfl (by omega) ?_
      refine R.move ?_
      refine R.sub rfl rfl (by omega) (by omega) ?_
      refine R.assign ?_
      refine R.assign ?_
      refine R.nil ?_
      refine ⟨xs.length - (i + 1), by omega, i + 1, _, _, rfl, by omega, ?_, hU, ?_, swapped_step hsw (by omega) ha21 ha25, rfl, rfl, rfl, trivial⟩
      · omega
      · rw [ints_set, ints_set] at hS27
        exact hS27
    · replace hc9 := dF hc9
      refine E.exit ?_
      refine end0 rfl ⟨_, rfl, rfl, hU, ?_⟩
      rw [swapped_end hsw (by omega)] at hS
      show Sl _ 3 1 v xs.reverse.length _
      rw [List.length_reverse]
      exact hS
end Go.Proofs.Ytfdmndkoiheebaa

namespace Go.Proofs.Ytfdmndkoiheebaa
open Go Go.RowKit
def aboveL (xss : List (List Int)) (h b : Int) : List Int × Int :=
  if rightB xss h then
    match findL xss b with
    | some (i, k) => (((xss.getD i []).drop (k + 1)).reverse, 0)
    | none => ([], 6)
  else ([], 2)
theorem sum_lengths {xss : List (List Int)} {h : Int} (hr : RightP xss h) : ∀ xs ∈ xss, xs.length ≤ 6 := fun xs hx => by
  have := hr.2.2.2.2.1 xs hx
  have := hr.2.1
  omega
theorem above (w : World) {v : Value} {h b : Int} {us : List Value} {xss : List (List Int)} (hm : Mat w v us xss) (hl : xss.length < 1000000) (hx : ∀ xs ∈ xss, xs.length < 1000000) :
    Calls Try.prog 24 #[.agg #[v, .int .i64 h], .int .i64 b] w (Ret fun r w' => Ext w w' ∧ ∃ u, r = .tuple #[u, .int .i64 (aboveL xss h b).2] ∧ SInts w' u (aboveL xss h b).1 ∧ Fresh w u) := by
  cases hR : rightB xss h
  rotate_left
  rcases hF : findL xss b with _ | ⟨i, k⟩
  · refine calls_E (args := [.agg #[v, .int .i64 h], .int .i64 b]) 34 Try.func24 rfl rfl (by simp) ?_
    have hE : Ext w w := Upd.refl w
    refine E.seq ?_
    refine E.regionP rfl ?_
    refine R.box rfl nofun ?_
    intro b2 w1 hb2 hx1 hB2
    replace hb2 := Nat.le_trans hE.size hb2
    replace hE := hE.ext hx1
    replace hB2 : Blk _ b2 24 #[v, .int .i64 h] := hB2
    refine R.assign ?_
    refine R.assign ?_
    refine R.nil ?_
    refine E.seq ?_
    refine E.seq ?_
    refine E.regionP rfl ?_
    refine R.loadA t24 hB2 rfl rfl rfl trivial ?_
    refine R.callE1 ent27 (right _ (hm.ext hE) hl hx) rfl nofun ?_
    rintro v11 w2 hx2 rfl
    rw [hR]
    replace hB2 := hB2.ext hx2
    replace hE := hE.ext hx2
    refine R.not rfl ?_
    refine R.nil ?_
    refine E.condF rfl ?_
    refine E.skip ?_
    refine E.seq ?_
    refine E.regionP rfl ?_
    refine R.loadA t24 hB2 rfl rfl rfl trivial ?_
    refine R.move ?_
    refine R.callE2 ent23 (find _ (hm.ext hE) hl hx) rfl rfl nofun ?_
    rintro v16 w3 hx3 rfl
    simp only [findV, hF]
    replace hB2 := hB2.ext hx3
    replace hE := hE.ext hx3
    refine R.move ?_
    refine R.extract rfl rfl ?_
    refine R.extract rfl rfl ?_
    refine R.extract rfl rfl ?_
    refine R.assign ?_
    refine R.assign ?_
    refine R.assign ?_
    refine R.nil ?_
    refine E.seq ?_
    refine E.seq ?_
    refine E.regionP rfl ?_
    refine R.move ?_
    refine R.not rfl ?_
    refine R.nil ?_
    refine E.condT rfl ?_
    refine E.seq ?_
    refine E.regionP rfl ?_
    refine R.assign ?_
    refine R.assign ?_
    refine R.nil ?_
    refine E.ret ?_
    refine ret2 (.slice none 0 0) (.int .i64 6) rfl rfl rfl ⟨_, rfl, hE, _, ?_, ?_, Fresh.nil w⟩
    · simp [aboveL, hR, hF]
    · have e1 : (aboveL xss h b).1 = [] := by simp [aboveL, hR, hF]
      rw [e1]; exact SInts.nil _
  · refine calls_E (args := [.agg #[v, .int .i64 h], .int .i64 b]) 34 Try.func24 rfl rfl (by simp) ?_
    have hE : Ext w w := Upd.refl w
    refine E.seq ?_
    refine E.regionP rfl ?_
    refine R.box rfl nofun ?_
    intro b2 w1 hb2 hx1 hB2
    replace hb2 := Nat.le_trans hE.size hb2
    replace hE := hE.ext hx1
    replace hB2 : Blk _ b2 24 #[v, .int .i64 h] := hB2
    refine R.assign ?_
    refine R.assign ?_
    refine R.nil ?_
    refine E.seq ?_
    refine E.seq ?_
    refine E.regionP rfl ?_
    refine R.loadA t24 hB2 rfl rfl rfl trivial ?_
    refine R.callE1 ent27 (right _ (hm.ext hE) hl hx) rfl nofun ?_
    rintro v11 w2 hx2 rfl
    rw [hR]
    replace hB2 := hB2.ext hx2
    replace hE := hE.ext hx2
    refine R.not rfl ?_
    refine R.nil ?_
    refine E.condF rfl ?_
    refine E.skip ?_
    refine E.seq ?_
    refine E.regionP rfl ?_
    refine R.loadA t24 hB2 rfl rfl rfl trivial ?_
    refine R.move ?_
    refine R.callE2 ent23 (find _ (hm.ext hE) hl hx) rfl rfl nofun ?_
    rintro v16 w3 hx3 rfl
    simp only [findV, hF]
    replace hB2 := hB2.ext hx3
    replace hE := hE.ext hx3
    refine R.move ?_
    refine R.extract rfl rfl ?_
    refine R.extract rfl rfl ?_
    refine R.extract rfl rfl ?_
    refine R.assign ?_
    refine R.assign ?_
    refine R.assign ?_
    refine R.nil ?_
    refine E.seq ?_
    refine E.seq ?_
    refine E.regionP rfl ?_
    refine R.move ?_
    refine R.not rfl ?_
    refine R.nil ?_
    refine E.condF rfl ?_
    refine E.skip ?_
    refine E.seq ?_
    refine E.regionP rfl ?_
    refine R.fld fa24_0 rfl ?_
    refine R.loadB t22 hB2 rfl rfl rfl trivial ?_
    refine R.move ?_
    obtain ⟨hi, hk, hbk, hn⟩ := findL_some hF
    refine R.ix Try.underlying22 t35 (by decide) hm.row rfl rfl hi ?_
    obtain ⟨hi, hk, hbk, hn⟩ := findL_some hF
    have hxi := hx _ (List.getElem_mem hi)
    obtain ⟨u26, hu26, hr26⟩ := hm.get i hi
    refine R.ld t35 (hm.row.ext hE) rfl hu26 rfl (fun _ _ => trivial) ?_
    refine R.move ?_
    refine R.addN (n := 1) rfl rfl (by omega) ?_
    obtain ⟨a26, c26, hv26, hc26, _⟩ := id hr26
    refine R.slc (l := k + 1) (r := xss[i].length) Try.underlying35 t3 rfl hv26 ⟨_, rfl⟩ rfl (by omega) hc26 ?_
    refine R.callE1 ent62 (sClone _ (xs := xss[i].drop (k + 1)) (Ints.drop (hr26.ext hE) hk) (by simp; omega)) rfl nofun ?_
    rintro v30 w4 hx4 ⟨hS30, hf30⟩
    replace hf30 := hf30.mono hE.size
    replace hB2 := hB2.ext hx4
    replace hE := hE.ext hx4
    refine R.assign ?_
    refine R.nil ?_
    refine E.seq ?_
    refine E.regionP rfl ?_
    refine R.move ?_
    refine R.call1 ent63 (sReverse _ hS30 (by simp; omega)) rfl ?_
    rintro v32 w32 ⟨rfl, hU32, hS32⟩
    refine ⟨nofun, ?_⟩
    replace hE := hE.app hU32 hf30
    refine R.nil ?_
    refine E.seq ?_
    refine E.regionP rfl ?_
    refine R.move ?_
    refine R.assign ?_
    refine R.assign ?_
    refine R.nil ?_
    refine E.ret ?_
    have e1 : (aboveL xss h b).1 = (List.drop (k + 1) xss[i]).reverse := by simp [aboveL, hR, hF, hi]
    refine ret2 v30 (.int .i64 0) rfl rfl rfl ⟨_, rfl, hE, _, ?_, ?_, hf30⟩
    · simp [aboveL, hR, hF]
    · rw [e1]; exact hS32
  · refine calls_E (args := [.agg #[v, .int .i64 h], .int .i64 b]) 34 Try.func24 rfl rfl (by simp) ?_
    have hE : Ext w w := Upd.refl w
    refine E.seq ?_
    refine E.regionP rfl ?_
    refine R.box rfl nofun ?_
    intro b2 w1 hb2 hx1 hB2
    replace hb2 := Nat.le_trans hE.size hb2
    replace hE := hE.ext hx1
    replace hB2 : Blk _ b2 24 #[v, .int .i64 h] := hB2
    refine R.assign ?_
    refine R.assign ?_
    refine R.nil ?_
    refine E.seq ?_
    refine E.seq ?_
    refine E.regionP rfl ?_
    refine R.loadA t24 hB2 rfl rfl rfl trivial ?_
    refine R.callE1 ent27 (right _ (hm.ext hE) hl hx) rfl nofun ?_
    rintro v11 w2 hx2 rfl
    rw [hR]
    replace hB2 := hB2.ext hx2
    replace hE := hE.ext hx2
    refine R.not rfl ?_
    refine R.nil ?_
    refine E.condT rfl ?_
    refine E.seq ?_
    refine E.regionP rfl ?_
    refine R.assign ?_
    refine R.assign ?_
    refine R.nil ?_
    refine E.ret ?_
    refine ret2 (.slice none 0 0) (.int .i64 2) rfl rfl rfl ⟨_, rfl, hE, _, ?_, ?_, Fresh.nil w⟩
    · simp [aboveL, hR]
    · have e1 : (aboveL xss h b).1 = [] := by simp [aboveL, hR]
      rw [e1]; exact SInts.nil _
end Go.Proofs.Ytfdmndkoiheebaa

namespace Go.Proofs.Ytfdmndkoiheebaa
open Go Go.RowKit
theorem flatten_le {xss : List (List Int)} {k : Nat} (h : ∀ xs ∈ xss, xs.length ≤ k) : xss.flatten.length ≤ xss.length * k := by
  induction xss with
  | nil => simp
  | cons x xss ih =>
    have h1 := h x List.mem_cons_self
    have h2 := ih (fun xs hx => h xs (List.mem_cons_of_mem _ hx))
    simp [Nat.add_mul] at *; omega
theorem flatten_take_le {xss : List (List Int)} {i : Nat} : (xss.take i).flatten.length ≤ xss.flatten.length := by
  conv => rhs; rw [← List.take_append_drop i xss, List.flatten_append, List.length_append]
  omega
end Go.Proofs.Ytfdmndkoiheebaa

namespace Go.Proofs.Ytfdmndkoiheebaa
open Go Go.RowKit
theorem Blk.upS {w w' : World} {ty ty' : TypeId} {b k' : Nat} {x : Value} {m : Nat} {cs : Array Value} {ds : List Value} (h : Blk w b ty cs) (u : Upd (fun b => vblk x = some b) w w') (hx : Sl w ty' k' x m ds) (hne : ty ≠ ty') : Blk w' b ty cs := by
  refine h.up u (fun e => ?_)
  obtain ⟨a', cap', rfl, _, _, h'⟩ := hx
  rcases h' with ⟨rfl, _⟩ | ⟨b', off', cur', rfl, hb', _⟩
  · simp [vblk] at e
  · simp [vblk] at e; subst e; exact hne (h.inj hb').2
end Go.Proofs.Ytfdmndkoiheebaa
