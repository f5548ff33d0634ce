import Derived.Test.YtfdmndkoiheebaaZ16B1
namespace Go.Proofs.Ytfdmndkoiheebaa
open Go Go.RowKit
theorem SInts.nil (w : World) : SInts w (.slice none 0 0) [] := Sl.nil w 3 1
theorem SInts.app {w : World} {v : Value} {xs ys : List Int} {m : Nat} (h : Sl w 3 1 v (xs.length + m) (ints xs ++ ints ys)) (hm : m = ys.length) : SInts w v (xs ++ ys) := by
  show Sl w 3 1 v (xs ++ ys).length _
  rw [List.length_append, show ints (xs ++ ys) = ints xs ++ ints ys by simp [ints], ← hm]
  exact h
theorem Ints.drop {w : World} {v : Value} {xs : List Int} (h : Ints w v xs) {k : Nat} (hk : k ≤ xs.length) : Ints w (cut 1 v k xs.length) (xs.drop k) := by
  have := h.cut (l := k) (r := xs.length) hk (Nat.le_refl _)
  show Row w 1 _ (xs.drop k).length _
  have e : (ints xs).drop (k * 1) = ints (xs.drop k) := by simp [ints, List.map_drop]
  rw [e, Nat.mul_one, List.take_of_length_le (by simp [ints])] at this
  rw [List.length_drop]
  exact this
theorem SInts.take {w : World} {v : Value} {xs : List Int} (h : SInts w v xs) {k : Nat} (hk : k ≤ xs.length) : SInts w (cut 1 v 0 k) (xs.take k) := by
  have := h.cut (l := 0) (r := k) (Nat.zero_le _) hk
  show Sl w 3 1 _ (xs.take k).length _
  have e : ((ints xs).drop (0 * 1)).take ((k - 0) * 1) = ints (xs.take k) := by simp [ints, List.map_take]
  rw [e, Nat.sub_zero] at this
  rw [List.length_take, Nat.min_eq_left hk]
  exact this
def findV (xss : List (List Int)) (b : Int) : Value :=
  match findL xss b with
  | some (i, k) => .tuple #[.int .i64 i, .int .i64 k, .bool true]
  | none => .tuple #[.int .i64 0, .int .i64 0, .bool false]
theorem find (w : World) {v : Value} {h b : Int} {us : List Value} {xss : List (List Int)} (hm : Mat w v us xss) (hl : xss.length < 1000000) (hx : ∀ xs ∈ xss, xs.length < 1000000) :
    Calls Try.prog 23 #[.agg #[v, .int .i64 h], .int .i64 b] w (Ret fun r w' => Ext w w' ∧ r = findV xss b) := by
  refine calls_E (args := [.agg #[v, .int .i64 h], .int .i64 b]) 26 Try.func23 rfl rfl (by simp) ?_
  have hE : Ext w w := Upd.refl w
  refine E.seq ?_
  refine E.regionP rfl ?_
  refine R.box rfl nofun ?_
  intro b2 w1 hb2 hx1 hB2
  replace hb2 := Nat.le_trans hE.size hb2
  replace hE := hE.ext hx1
  replace hB2 : Blk _ b2 24 #[v, .int .i64 h] := hB2
  refine R.assign ?_
  refine R.assign ?_
  refine R.assign ?_
  refine R.nil ?_
  refine E.seq ?_
  refine E.seq ?_
  refine E.regionP rfl ?_
  refine R.fld fa24_0 rfl ?_
  refine R.loadB t22 hB2 rfl rfl rfl trivial ?_
  refine R.len Try.underlying22 hm.row rfl ?_
  refine R.move ?_
  refine R.nil ?_
  refine E.block ?_
  refine E.loop (fun n e wr => ∃ i : Nat, n = xss.length - i ∧ i ≤ xss.length ∧ Ext w wr ∧ (∀ xs ∈ xss.take i, b ∉ xs) ∧ Has e [(1, .int .i64 b), (11, v), (12, .int .i64 xss.length), (13, .int .i64 i)]) (xss.length) ?_ ?_
  · exact ⟨0, rfl, Nat.zero_le _, hE, by simp, rfl, rfl, rfl, rfl, trivial⟩
  · rintro n e wr ⟨i, rfl, hi, hE, hn, hH⟩
    obtain ⟨e, rfl⟩ := hH.ex
    clear hH
    refine E.seq ?_
    refine E.regionP rfl ?_
    refine R.lss rfl rfl rfl ?_
    refine R.nil ?_
    refine E.seq ?_
    refine E.cond rfl (fun hc14 => ?_) (fun hc14 => ?_)
    · replace hc14 := dT hc14
      refine E.skip ?_
      refine E.seq ?_
      refine E.block ?_
      refine E.seq ?_
      refine E.regionP rfl ?_
      refine R.move ?_
      refine R.ix Try.underlying22 t35 (by decide) hm.row rfl rfl (by omega) ?_
      obtain ⟨u17, hu17, hr17⟩ := hm.get i (by omega)
      refine R.ld t35 (hm.row.ext hE) rfl hu17 rfl (fun _ _ => trivial) ?_
      refine R.assign ?_
      refine R.assign ?_
      refine R.nil ?_
      refine E.seq ?_
      refine E.regionP rfl ?_
      refine R.move ?_
      refine R.move ?_
      refine R.callE2 ent61 (sIndex _ (hr17.ext hE) (Nat.lt_trans (hx _ (List.getElem_mem _)) (by decide))) rfl rfl nofun ?_
      rintro v20 w2 hx2 rfl
      replace hE := hE.ext hx2
      refine R.assign ?_
      refine R.nil ?_
      refine E.seq ?_
      refine E.regionP rfl ?_
      refine R.move ?_
      refine R.geq rfl rfl rfl ?_
      refine R.nil ?_
      refine E.cond rfl (fun hc22 => ?_) (fun hc22 => ?_)
      · replace hc22 := dT hc22
        refine E.seq ?_
        refine E.regionP rfl ?_
        refine R.move ?_
        refine R.move ?_
        refine R.assign ?_
        refine R.assign ?_
        refine R.assign ?_
        refine R.nil ?_
        refine E.ret ?_
        have hin : b ∈ xss[i] := by
          refine Decidable.byContradiction fun hn => ?_
          rw [indexL_miss hn] at hc22
          omega
        have hi2 : indexL xss[i] b = (xss[i].idxOf b : Nat) := by simp [indexL, hin]
        refine ret3 (.int .i64 i) (.int .i64 (xss[i].idxOf b : Nat)) (.bool true) rfl rfl (by rw [← hi2]; rfl) rfl ⟨_, rfl, hE, ?_⟩
        simp [findV, findL_hit (by omega) hn hin]
      · replace hc22 := dF hc22
        refine E.skip ?_
        refine E.regionP rfl ?_
        refine R.addN (n := 1) rfl rfl (by omega) ?_
        refine R.move ?_
        refine R.nil ?_
        refine ⟨xss.length - (i + 1), by omega, i + 1, rfl, by omega, hE, ?_, rfl, rfl, rfl, rfl, trivial⟩
        intro xs hxs
        rw [List.take_succ_eq_append_getElem (by omega)] at hxs
        rcases List.mem_append.1 hxs with hxs | hxs
        · exact hn xs hxs
        · simp at hxs; subst hxs
          intro hb
          apply hc22
          simp [indexL, hb]
    · replace hc14 := dF hc14
      refine E.exit ?_
      refine E.seq ?_
      refine E.regionP rfl ?_
      refine R.assign ?_
      refine R.assign ?_
      refine R.assign ?_
      refine R.nil ?_
      refine E.ret ?_
      refine ret3 (.int .i64 0) (.int .i64 0) (.bool false) rfl rfl rfl rfl ⟨_, rfl, hE, ?_⟩
      obtain rfl : i = xss.length := by omega
      rw [List.take_length] at hn
      simp [findV, findL_miss hn]
end Go.Proofs.Ytfdmndkoiheebaa

namespace Go.Proofs.Ytfdmndkoiheebaa
open Go Go.RowKit
def aboveL (xss : List (List Int)) (h b : Int) : List Int × Int :=
  if rightB xss h then
    match findL xss b with
    | some (i, k) => (((xss.getD i []).drop (k + 1)).reverse, 0)
    | none => ([], 6)
  else ([], 2)
theorem sum_lengths {xss : List (List Int)} {h : Int} (hr : RightP xss h) : ∀ xs ∈ xss, xs.length ≤ 6 := fun xs hx => by
  have := hr.2.2.2.2.1 xs hx
  have := hr.2.1
  omega
end Go.Proofs.Ytfdmndkoiheebaa

namespace Go.Proofs.Ytfdmndkoiheebaa
open Go Go.RowKit
theorem flatten_le {xss : List (List Int)} {k : Nat} (h : ∀ xs ∈ xss, xs.length ≤ k) : xss.flatten.length ≤ xss.length * k := by
  induction xss with
  | nil => simp
  | cons x xss ih =>
    have h1 := h x List.mem_cons_self
    have h2 := ih (fun xs hx => h xs (List.mem_cons_of_mem _ hx))
    simp [Nat.add_mul] at *; omega
theorem flatten_take_le {xss : List (List Int)} {i : Nat} : (xss.take i).flatten.length ≤ xss.flatten.length := by
  conv => rhs; rw [← List.take_append_drop i xss, List.flatten_append, List.length_append]
  omega
theorem rBoxes (w : World) {v : Value} {h : Int} {us : List Value} {xss : List (List Int)} (hm : Mat w v us xss) (hl : xss.length < 100000) (hx : ∀ xs ∈ xss, xs.length ≤ 10) :
    Calls Try.prog 90 #[.agg #[v, .int .i64 h]] w (Ret fun r w' => Ext w w' ∧ SInts w' r xss.flatten ∧ Fresh w r) := by
  refine calls_E (args := [.agg #[v, .int .i64 h]]) 20 Try.func90 rfl rfl (by simp) ?_
  have hE : Ext w w := Upd.refl w
  refine E.seq ?_
  refine E.regionP rfl ?_
  refine R.box rfl nofun ?_
  intro b1 w1 hb1 hx1 hB1
  replace hb1 := Nat.le_trans hE.size hb1
  replace hE := hE.ext hx1
  replace hB1 : Blk _ b1 54 #[v, .int .i64 h] := hB1
  refine R.assign ?_
  refine R.nil ?_
  refine E.seq ?_
  refine E.regionP rfl ?_
  refine R.assign ?_
  refine R.nil ?_
  refine E.seq ?_
  refine E.seq ?_
  refine E.regionP rfl ?_
  refine R.assign ?_
  refine R.nil ?_
  refine E.block ?_
  refine E.loop (fun n e wr => ∃ (i : Nat) (vv : Value), n = xss.length - i ∧ i ≤ xss.length ∧ Ext w wr ∧ Blk wr b1 54 #[v, .int .i64 h] ∧ SInts wr vv (xss.take i).flatten ∧ Fresh w vv ∧ Has e [(1, .pointer (some ⟨b1, 0, none⟩)), (3, vv), (4, .int .i64 i)]) (xss.length) ?_ ?_
  · exact ⟨0, _, rfl, Nat.zero_le _, hE, hB1, SInts.nil _, Fresh.nil _, rfl, rfl, rfl, trivial⟩
  · rintro n e wr ⟨i, vv, rfl, hi, hE, hB1, hS, hf, hH⟩
    obtain ⟨e, rfl⟩ := hH.ex
    clear hH
    refine E.seq ?_
    refine E.seq ?_
    refine E.regionP rfl ?_
    refine R.move ?_
    refine R.fld fa54_0 rfl ?_
    refine R.loadB t22 hB1 rfl rfl rfl trivial ?_
    refine R.len Try.underlying22 hm.row rfl ?_
    refine R.lss rfl rfl rfl ?_
    refine R.nil ?_
    refine E.cond rfl (fun hc9 => ?_) (fun hc9 => ?_)
    · replace hc9 := dT hc9
      refine E.skip ?_
      refine E.seq ?_
      refine E.block ?_
      refine E.regionP rfl ?_
      refine R.move ?_
      refine R.fld fa54_0 rfl ?_
      refine R.loadB t22 hB1 rfl rfl rfl trivial ?_
      refine R.move ?_
      refine R.ix Try.underlying22 t35 (by decide) hm.row rfl rfl (by omega) ?_
      obtain ⟨u17, hu17, hr17⟩ := hm.get i (by omega)
      refine R.ld t35 (hm.row.ext hE) rfl hu17 rfl (fun _ _ => trivial) ?_
      have hb1' := flatten_take_le (xss := xss) (i := i)
      have hb3' := flatten_le hx
      have hb4' := hx xss[i] (List.getElem_mem _)
      refine R.append Try.underlying35 Try.underlying35 t3 (by decide) rfl hS (hr17.ext hE) ints_one rfl rfl (by omega) (by omega) nofun ?_
      intro v18 w18 hU18 hS18 hd18
      have hf18 := Fresh.app hE hf hd18
      have hBx : b1 < wr.heap.size := hB1.lt
      replace hB1 := hB1.up hU18 (fun e => by
        obtain ⟨a', c', rfl, _, _, h'⟩ := hS
        rcases h' with ⟨rfl, _⟩ | ⟨b', off', cur', rfl, hb', _⟩
        · simp [vblk] at e
        · simp [vblk] at e; subst e; exact absurd (hb'.inj hB1).2 (by decide))
      replace hE := hE.app hU18 hf
      refine R.assign ?_
      refine R.nil ?_
      refine E.regionP rfl ?_
      refine R.move ?_
      refine R.addN (n := 1) rfl rfl (by omega) ?_
      refine R.assign ?_
      refine R.nil ?_
      refine ⟨xss.length - (i + 1), by omega, i + 1, v18, rfl, by omega, hE, hB1, ?_, hf18, rfl, rfl, rfl, trivial⟩
      rw [flatten_take_succ (by omega)]
      exact SInts.app hS18 rfl
    · replace hc9 := dF hc9
      refine E.exit ?_
      refine E.seq ?_
      refine E.regionP rfl ?_
      refine R.move ?_
      refine R.assign ?_
      refine R.nil ?_
      refine E.ret ?_
      obtain rfl : i = xss.length := by omega
      rw [List.take_length] at hS
      exact ret1 vv rfl rfl ⟨_, rfl, hE, hS, hf⟩
end Go.Proofs.Ytfdmndkoiheebaa
