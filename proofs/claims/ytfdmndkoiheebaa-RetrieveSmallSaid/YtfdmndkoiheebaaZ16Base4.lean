import Derived.Test.YtfdmndkoiheebaaZ16B5
import Derived.Test.YtfdmndkoiheebaaZ16A1
namespace Go.Proofs.Ytfdmndkoiheebaa
open Go Go.RowKit
theorem rFind (w : World) {v : Value} {h b : Int} {us : List Value} {xss : List (List Int)} (hm : Mat w v us xss) (hl : xss.length < 1000000) (hx : ∀ xs ∈ xss, xs.length < 1000000) :
    Calls Try.prog 52 #[.agg #[v, .int .i64 h], .int .i64 b] w (Ret fun r w' => Ext w w' ∧ r = findV xss b) := by
  refine calls_E (args := [.agg #[v, .int .i64 h], .int .i64 b]) 38 Try.func52 rfl rfl (by simp) ?_
  have hE : Ext w w := Upd.refl w
  refine E.seq ?_
  refine E.regionP rfl ?_
  refine R.box rfl nofun ?_
  intro b2 w1 hb2 hx1 hB2
  replace hb2 := Nat.le_trans hE.size hb2
  replace hE := hE.ext hx1
  replace hB2 : Blk _ b2 54 #[v, .int .i64 h] := hB2
  refine R.assign ?_
  refine R.assign ?_
  refine R.assign ?_
  refine R.nil ?_
  refine E.seq ?_
  refine E.seq ?_
  refine E.regionP rfl ?_
  refine R.assign ?_
  refine R.nil ?_
  refine E.block ?_
  refine E.loop (fun n e wr => ∃ i : Nat, n = xss.length - i ∧ i ≤ xss.length ∧ Ext w wr ∧ Blk wr b2 54 #[v, .int .i64 h] ∧ (∀ xs ∈ xss.take i, b ∉ xs) ∧ Has e [(1, .int .i64 b), (2, .pointer (some ⟨b2, 0, none⟩)), (7, .int .i64 i)]) (xss.length) ?_ ?_
  · exact ⟨0, rfl, Nat.zero_le _, hE, hB2, by simp, rfl, rfl, rfl, trivial⟩
  · rintro n e wr ⟨i, rfl, hi, hE, hB2, hn, hH⟩
    obtain ⟨e, rfl⟩ := hH.ex
    clear hH
    refine E.seq ?_
    refine E.seq ?_
    refine E.regionP rfl ?_
    refine R.move ?_
    refine R.fld fa54_0 rfl ?_
    refine R.loadB t22 hB2 rfl rfl rfl trivial ?_
    refine R.len Try.underlying22 hm.row rfl ?_
    refine R.lss rfl rfl rfl ?_
    refine R.nil ?_
    refine E.cond rfl (fun hc13 => ?_) (fun hc13 => ?_)
    · replace hc13 := dT hc13
      refine E.skip ?_
      refine E.seq ?_
      refine E.block ?_
      refine E.seq ?_
      refine E.regionP rfl ?_
      refine R.assign ?_
      refine R.nil ?_
      refine E.block ?_
      refine E.loop (fun n e wr => ∃ k : Nat, n = xss[i].length - k ∧ k ≤ xss[i].length ∧ Ext w wr ∧ Blk wr b2 54 #[v, .int .i64 h] ∧ b ∉ xss[i].take k ∧ Has e [(1, .int .i64 b), (2, .pointer (some ⟨b2, 0, none⟩)), (7, .int .i64 i), (8, .int .i64 k)]) (xss[i].length) ?_ ?_
      · exact ⟨0, rfl, Nat.zero_le _, hE, hB2, by simp, rfl, rfl, rfl, rfl, trivial⟩
      · rintro n e wr ⟨k, rfl, hk, hE, hB2, hnk, hH⟩
        obtain ⟨e, rfl⟩ := hH.ex
        clear hH
        have hxi := hx xss[i] (List.getElem_mem _)
        refine E.seq ?_
        refine E.seq ?_
        refine E.regionP rfl ?_
        refine R.move ?_
        refine R.fld fa54_0 rfl ?_
        refine R.loadB t22 hB2 rfl rfl rfl trivial ?_
        refine R.move ?_
        refine R.ix Try.underlying22 t35 (by decide) hm.row rfl rfl (by omega) ?_
        obtain ⟨u21, hu21, hr21⟩ := hm.get i (by omega)
        refine R.ld t35 (hm.row.ext hE) rfl hu21 rfl (fun _ _ => trivial) ?_
        refine R.len Try.underlying35 hr21 rfl ?_
        refine R.lss rfl rfl rfl ?_
        refine R.nil ?_
        refine E.cond rfl (fun hc23 => ?_) (fun hc23 => ?_)
        · replace hc23 := dT hc23
          refine E.skip ?_
          refine E.seq ?_
          refine E.block ?_
          refine E.seq ?_
          refine E.regionP rfl ?_
          refine R.fld fa54_0 rfl ?_
          refine R.loadB t22 hB2 rfl rfl rfl trivial ?_
          refine R.move ?_
          refine R.ix Try.underlying22 t35 (by decide) hm.row rfl rfl (by omega) ?_
          obtain ⟨u30, hu30, hr30⟩ := hm.get i (by omega)
          refine R.ld t35 (hm.row.ext hE) rfl hu30 rfl (fun _ _ => trivial) ?_
          refine R.move ?_
          refine R.ix Try.underlying35 t3 (by decide) hr30 rfl rfl (by omega) ?_
          refine R.ld t3 (hr30.ext hE) rfl (int_at (by omega)) rfl (fun _ _ => trivial) ?_
          refine R.move ?_
          refine R.eql rfl rfl rfl ?_
          refine R.nil ?_
          refine E.cond rfl (fun hc35 => ?_) (fun hc35 => ?_)
          · replace hc35 := dT hc35
            refine E.seq ?_
            refine E.regionP rfl ?_
            refine R.move ?_
            refine R.move ?_
            refine R.assign ?_
            refine R.assign ?_
            refine R.assign ?_
            refine R.nil ?_
            refine E.ret ?_
            have hin : b ∈ xss[i] := hc35 ▸ List.getElem_mem _
            have hi2 : xss[i].idxOf b = k := by
              have h1 := List.take_append_drop k xss[i]
              rw [← h1, List.idxOf_append, if_neg hnk, List.drop_eq_getElem_cons (by omega), hc35, List.idxOf_cons_self]
              simp; omega
            refine ret3 (.int .i64 i) (.int .i64 k) (.bool true) rfl rfl rfl rfl ⟨_, rfl, hE, ?_⟩
            simp [findV, findL_hit (by omega) hn hin, hi2]
          · replace hc35 := dF hc35
            refine E.skip ?_
            refine E.regionP rfl ?_
            refine R.move ?_
            refine R.addN (n := 1) rfl rfl (by omega) ?_
            refine R.assign ?_
            refine R.nil ?_
            refine ⟨xss[i].length - (k + 1), by omega, k + 1, rfl, by omega, hE, hB2, ?_, rfl, rfl, rfl, rfl, trivial⟩
            rw [List.take_succ_eq_append_getElem (by omega), List.mem_append]
            rintro (h1 | h1)
            · exact hnk h1
            · simp at h1; exact hc35 h1.symm
        · replace hc23 := dF hc23
          refine E.exit ?_
          refine E.regionP rfl ?_
          refine R.move ?_
          refine R.addN (n := 1) rfl rfl (by omega) ?_
          refine R.assign ?_
          refine R.nil ?_
          refine ⟨xss.length - (i + 1), by omega, i + 1, rfl, by omega, hE, hB2, ?_, rfl, rfl, rfl, trivial⟩
          intro xs hxs
          rw [List.take_succ_eq_append_getElem (by omega)] at hxs
          rcases List.mem_append.1 hxs with hxs | hxs
          · exact hn xs hxs
          · simp at hxs; subst hxs
            have e : k = xss[i].length := by omega
            rwa [e, List.take_length] at hnk
    · replace hc13 := dF hc13
      refine E.exit ?_
      refine E.seq ?_
      refine E.regionP rfl ?_
      refine R.assign ?_
      refine R.assign ?_
      refine R.assign ?_
      refine R.nil ?_
      refine E.ret ?_
      refine ret3 (.int .i64 0) (.int .i64 0) (.bool false) rfl rfl rfl rfl ⟨_, rfl, hE, ?_⟩
      obtain rfl : i = xss.length := by omega
      rw [List.take_length] at hn
      simp [findV, findL_miss hn]
theorem Blk.upS {w w' : World} {ty ty' : TypeId} {b k' : Nat} {x : Value} {m : Nat} {cs : Array Value} {ds : List Value} (h : Blk w b ty cs) (u : Upd (fun b => vblk x = some b) w w') (hx : Sl w ty' k' x m ds) (hne : ty ≠ ty') : Blk w' b ty cs := by
  refine h.up u (fun e => ?_)
  obtain ⟨a', cap', rfl, _, _, h'⟩ := hx
  rcases h' with ⟨rfl, _⟩ | ⟨b', off', cur', rfl, hb', _⟩
  · simp [vblk] at e
  · simp [vblk] at e; subst e; exact hne (h.inj hb').2
theorem rAbove (w : World) {v : Value} {h b : Int} {us : List Value} {xss : List (List Int)} (hm : Mat w v us xss) (hl : xss.length < 100000) (hx : ∀ xs ∈ xss, xs.length ≤ 10) :
    Calls Try.prog 53 #[.agg #[v, .int .i64 h], .int .i64 b] w (Ret fun r w' => Ext w w' ∧ ∃ u, r = .tuple #[u, .int .i64 (aboveL xss h b).2] ∧ SInts w' u (aboveL xss h b).1 ∧ Fresh w u) := by
  have hx6 : ∀ xs ∈ xss, xs.length < 1000000 := fun xs h => by have := hx xs h; omega
  cases hR : rightB xss h
  rotate_left
  rcases hF : findL xss b with _ | ⟨i, k⟩
  · refine calls_E (args := [.agg #[v, .int .i64 h], .int .i64 b]) 47 Try.func53 rfl rfl (by simp) ?_
    have hE : Ext w w := Upd.refl w
    refine E.seq ?_
    refine E.regionP rfl ?_
    refine R.box rfl nofun ?_
    intro b2 w1 hb2 hx1 hB2
    replace hb2 := Nat.le_trans hE.size hb2
    replace hE := hE.ext hx1
    replace hB2 : Blk _ b2 54 #[v, .int .i64 h] := hB2
    refine R.assign ?_
    refine R.assign ?_
    refine R.nil ?_
    refine E.seq ?_
    refine E.seq ?_
    refine E.regionP rfl ?_
    refine R.loadA t54 hB2 rfl rfl rfl trivial ?_
    refine R.callE1 ent55 (rRight _ (hm.ext hE) hl hx) rfl nofun ?_
    rintro v12 w2 hx2 rfl
    rw [hR]
    replace hB2 := hB2.ext hx2
    replace hE := hE.ext hx2
    refine R.not rfl ?_
    refine R.nil ?_
    refine E.condF rfl ?_
    refine E.skip ?_
    refine E.seq ?_
    refine E.regionP rfl ?_
    refine R.loadA t54 hB2 rfl rfl rfl trivial ?_
    refine R.move ?_
    refine R.callE2 ent52 (rFind _ (hm.ext hE) (by omega) hx6) rfl rfl nofun ?_
    rintro v17 w3 hx3 rfl
    simp only [findV, hF]
    replace hB2 := hB2.ext hx3
    replace hE := hE.ext hx3
    refine R.move ?_
    refine R.extract rfl rfl ?_
    refine R.extract rfl rfl ?_
    refine R.extract rfl rfl ?_
    refine R.assign ?_
    refine R.assign ?_
    refine R.assign ?_
    refine R.nil ?_
    refine E.seq ?_
    refine E.seq ?_
    refine E.regionP rfl ?_
    refine R.move ?_
    refine R.not rfl ?_
    refine R.nil ?_
    refine E.condT rfl ?_
    refine E.seq ?_
    refine E.regionP rfl ?_
    refine R.assign ?_
    refine R.assign ?_
    refine R.nil ?_
    refine E.ret ?_
    refine ret2 (.slice none 0 0) (.int .i64 6) rfl rfl rfl ⟨_, rfl, hE, _, ?_, ?_, Fresh.nil w⟩
    · simp [aboveL, hR, hF]
    · have e1 : (aboveL xss h b).1 = [] := by simp [aboveL, hR, hF]
      rw [e1]; exact SInts.nil _
  · refine calls_E (args := [.agg #[v, .int .i64 h], .int .i64 b]) 47 Try.func53 rfl rfl (by simp) ?_
    have hE : Ext w w := Upd.refl w
    refine E.seq ?_
    refine E.regionP rfl ?_
    refine R.box rfl nofun ?_
    intro b2 w1 hb2 hx1 hB2
    replace hb2 := Nat.le_trans hE.size hb2
    replace hE := hE.ext hx1
    replace hB2 : Blk _ b2 54 #[v, .int .i64 h] := hB2
    refine R.assign ?_
    refine R.assign ?_
    refine R.nil ?_
    refine E.seq ?_
    refine E.seq ?_
    refine E.regionP rfl ?_
    refine R.loadA t54 hB2 rfl rfl rfl trivial ?_
    refine R.callE1 ent55 (rRight _ (hm.ext hE) hl hx) rfl nofun ?_
    rintro v12 w2 hx2 rfl
    rw [hR]
    replace hB2 := hB2.ext hx2
    replace hE := hE.ext hx2
    refine R.not rfl ?_
    refine R.nil ?_
    refine E.condF rfl ?_
    refine E.skip ?_
    refine E.seq ?_
    refine E.regionP rfl ?_
    refine R.loadA t54 hB2 rfl rfl rfl trivial ?_
    refine R.move ?_
    refine R.callE2 ent52 (rFind _ (hm.ext hE) (by omega) hx6) rfl rfl nofun ?_
    rintro v17 w3 hx3 rfl
    simp only [findV, hF]
    replace hB2 := hB2.ext hx3
    replace hE := hE.ext hx3
    refine R.move ?_
    refine R.extract rfl rfl ?_
    refine R.extract rfl rfl ?_
    refine R.extract rfl rfl ?_
    refine R.assign ?_
    refine R.assign ?_
    refine R.assign ?_
    refine R.nil ?_
    refine E.seq ?_
    refine E.seq ?_
    refine E.regionP rfl ?_
    refine R.move ?_
    refine R.not rfl ?_
    refine R.nil ?_
    refine E.condF rfl ?_
    refine E.skip ?_
    refine E.seq ?_
    refine E.regionP rfl ?_
    refine R.assign ?_
    refine R.nil ?_
    refine E.seq ?_
    refine E.seq ?_
    refine E.regionP rfl ?_
    refine R.fld fa54_0 rfl ?_
    refine R.loadB t22 hB2 rfl rfl rfl trivial ?_
    refine R.move ?_
    obtain ⟨hi, hk, hbk, hn⟩ := findL_some hF
    have hxi := hx _ (List.getElem_mem hi)
    refine R.ix Try.underlying22 t35 (by decide) hm.row rfl rfl hi ?_
    obtain ⟨u27, hu27, hr27⟩ := hm.get i hi
    refine R.ld t35 (hm.row.ext hE) rfl hu27 rfl (fun _ _ => trivial) ?_
    refine R.len Try.underlying35 hr27 rfl ?_
    refine R.subN (n := 1) rfl rfl (by omega) (by omega) ?_
    refine R.assign ?_
    refine R.nil ?_
    refine E.block ?_
    refine E.loop (fun n e wr => ∃ (m : Nat) (nn : Int) (vv : Value), n = m ∧ nn = (k + m : Nat) ∧ k + m < xss[i].length ∧ Ext w wr ∧ Blk wr b2 54 #[v, .int .i64 h] ∧ SInts wr vv (xss[i].drop (k + m + 1)).reverse ∧ Fresh w vv ∧ Has e [(2, .pointer (some ⟨b2, 0, none⟩)), (6, .int .i64 i), (7, .int .i64 k), (9, vv), (10, .int .i64 nn)]) (xss[i].length - 1 - k) ?_ ?_
    · refine ⟨xss[i].length - 1 - k, _, _, rfl, rfl, by omega, hE, hB2, ?_, Fresh.nil _, rfl, rfl, rfl, rfl, ?_, trivial⟩
      · rw [List.drop_of_length_le (by omega)]; exact SInts.nil _
      · show (Value.int .i64 ((xss[i].length - 1 : Nat) : Int)) = _
        rw [show k + (xss[i].length - 1 - k) = xss[i].length - 1 by omega]
    · rintro n e wr ⟨m, nn, vv, hnm, hnn, hm1, hE, hB2, hS, hf, hH⟩
      obtain ⟨e, rfl⟩ := hH.ex
      clear hH
      obtain rfl := hnm.symm
      refine E.seq ?_
      refine E.seq ?_
      refine E.regionP rfl ?_
      refine R.move ?_
      refine R.move ?_
      refine R.gtr rfl rfl rfl ?_
      refine R.nil ?_
      refine E.cond rfl (fun hc32 => ?_) (fun hc32 => ?_)
      · replace hc32 := dT hc32
        subst hnn
        refine E.skip ?_
        refine E.seq ?_
        refine E.block ?_
        refine E.regionP rfl ?_
        refine R.move ?_
        refine R.fld fa54_0 rfl ?_
        refine R.loadB t22 hB2 rfl rfl rfl trivial ?_
        refine R.move ?_
        refine R.ix Try.underlying22 t35 (by decide) hm.row rfl rfl hi ?_
        obtain ⟨u40, hu40, hr40⟩ := hm.get i (by omega)
        refine R.ld t35 (hm.row.ext hE) rfl hu40 rfl (fun _ _ => trivial) ?_
        refine R.move ?_
        refine R.ix Try.underlying35 t3 (by decide) hr40 rfl rfl (by omega) ?_
        refine R.ld t3 (hr40.ext hE) rfl (int_at (k := k + m) (by omega)) rfl (fun _ _ => trivial) ?_
        refine R.buildSlice [.int .i64 xss[i][k + m]] Try.underlying35 t3 rfl rfl (by simp [Value.cells]) (by simp) nofun ?_
        intro b44 w4 hb44 hx4 hB44 hS44
        replace hb44 := Nat.le_trans hE.size hb44
        replace hS := hS.ext hx4
        replace hB2 := hB2.ext hx4
        replace hE := hE.ext hx4
        refine R.append Try.underlying35 Try.underlying35 t3 (by decide) rfl hS hS44.row (by simp [cellsOf, Value.cells, Value.oneCell']) rfl rfl (by simp; omega) (by simp; omega) nofun ?_
        intro v45 w45 hU45 hS45 hd45
        have hf45 := Fresh.app hE hf hd45
        replace hB2 := hB2.upS hU45 hS (by decide)
        replace hE := hE.app hU45 hf
        refine R.assign ?_
        refine R.nil ?_
        refine E.regionP rfl ?_
        refine R.move ?_
        refine R.subN (n := 1) rfl rfl (by omega) (by omega) ?_
        refine R.assign ?_
        refine R.nil ?_
        obtain ⟨m, rfl⟩ : ∃ m', m = m' + 1 := ⟨m - 1, by omega⟩
        refine ⟨m, by omega, m, _, v45, rfl, rfl, by omega, hE, hB2, ?_, hf45, rfl, rfl, rfl, rfl, ?_, trivial⟩
        · have e : (xss[i].drop (k + m + 1)).reverse = (xss[i].drop (k + (m + 1) + 1)).reverse ++ [xss[i][k + (m + 1)]] := by
            rw [List.drop_eq_getElem_cons (show k + m + 1 < xss[i].length by omega), List.reverse_cons]
            rfl
          rw [e]
          refine SInts.app (m := 1) ?_ rfl
          simpa [cellsOf, Value.cells, ints] using hS45
        · show Value.int .i64 _ = _
          congr 1
      · replace hc32 := dF hc32
        refine E.exit ?_
        refine E.seq ?_
        refine E.regionP rfl ?_
        refine R.move ?_
        refine R.assign ?_
        refine R.assign ?_
        refine R.nil ?_
        refine E.ret ?_
        have hm0 : m = 0 := by omega
        subst hm0
        have e1 : (aboveL xss h b).1 = (List.drop (k + 1) xss[i]).reverse := by simp [aboveL, hR, hF, hi]
        refine ret2 vv (.int .i64 0) rfl rfl rfl ⟨_, rfl, hE, _, ?_, ?_, hf⟩
        · simp [aboveL, hR, hF]
        · rw [e1]; exact hS
  · refine calls_E (args := [.agg #[v, .int .i64 h], .int .i64 b]) 47 Try.func53 rfl rfl (by simp) ?_
    have hE : Ext w w := Upd.refl w
    refine E.seq ?_
    refine E.regionP rfl ?_
    refine R.box rfl nofun ?_
    intro b2 w1 hb2 hx1 hB2
    replace hb2 := Nat.le_trans hE.size hb2
    replace hE := hE.ext hx1
    replace hB2 : Blk _ b2 54 #[v, .int .i64 h] := hB2
    refine R.assign ?_
    refine R.assign ?_
    refine R.nil ?_
    refine E.seq ?_
    refine E.seq ?_
    refine E.regionP rfl ?_
    refine R.loadA t54 hB2 rfl rfl rfl trivial ?_
    refine R.callE1 ent55 (rRight _ (hm.ext hE) hl hx) rfl nofun ?_
    rintro v12 w2 hx2 rfl
    rw [hR]
    replace hB2 := hB2.ext hx2
    replace hE := hE.ext hx2
    refine R.not rfl ?_
    refine R.nil ?_
    refine E.condT rfl ?_
    refine E.seq ?_
    refine E.regionP rfl ?_
    refine R.assign ?_
    refine R.assign ?_
    refine R.nil ?_
    refine E.ret ?_
    refine ret2 (.slice none 0 0) (.int .i64 2) rfl rfl rfl ⟨_, rfl, hE, _, ?_, ?_, Fresh.nil w⟩
    · simp [aboveL, hR]
    · have e1 : (aboveL xss h b).1 = [] := by simp [aboveL, hR]
      rw [e1]; exact SInts.nil _
end Go.Proofs.Ytfdmndkoiheebaa

namespace Go.Proofs.Ytfdmndkoiheebaa
open Go Go.RowKit
theorem Blk.ne_vblk {w : World} {b k' m : Nat} {ty ty' : TypeId} {cs : Array Value} {x : Value} {ds : List Value} (h : Blk w b ty cs) (hx : Sl w ty' k' x m ds) (hne : ty ≠ ty') : vblk x ≠ some b := by
  intro e
  obtain ⟨a', cap', rfl, _, _, h'⟩ := hx
  rcases h' with ⟨rfl, _⟩ | ⟨b', off', cur', rfl, hb', _⟩
  · simp [vblk] at e
  · simp [vblk] at e; subst e; exact hne (h.inj hb').2
structure PY (w : World) (v : Value) (H ba : Nat) (us : List Value) (cur : Array Value) (xss : List (List Int)) : Prop where
  outer : Sl w 35 1 v xss.length us
  all : Blk w ba 3 cur
  size : xss.length * H ≤ cur.size
  elems : ∀ i (h : i < xss.length), us[i]? = some (.slice (some ⟨ba, i * H, none⟩) xss[i].length H) ∧ xss[i].length ≤ H ∧ ∀ j (hj : j < xss[i].length), cur[i * H + j]? = some (.int .i64 xss[i][j])
section
variable {w w' : World} {v : Value} {H ba : Nat} {us : List Value} {cur : Array Value} {xss : List (List Int)}
theorem PY.ext (h : PY w v H ba us cur xss) (u : Ext w w') : PY w' v H ba us cur xss := ⟨h.outer.ext u, h.all.ext u, h.size, h.elems⟩
theorem PY.upT {b : Nat} {cs : Array Value} {ty : TypeId} (h : PY w v H ba us cur xss) (u : Upd (one b) w w') (hb : Blk w b ty cs) (hne : 35 ≠ ty ∧ 3 ≠ ty) : PY w' v H ba us cur xss := ⟨h.outer.upT u hb hne.1, h.all.upT u hb hne.2, h.size, h.elems⟩
theorem PY.one (h : PY w v H ba us cur xss) : v.oneCell' = true := h.outer.one
theorem seg_le {i n H : Nat} (h : i < n) : i * H + H ≤ n * H := by
  have := Nat.mul_le_mul_right H (show i + 1 ≤ n from h)
  rw [Nat.add_mul, Nat.one_mul] at this
  exact this
theorem PY.row (h : PY w v H ba us cur xss) (i : Nat) (hi : i < xss.length) : SInts w (.slice (some ⟨ba, i * H, none⟩) xss[i].length H) xss[i] := by
  obtain ⟨_, h2, h3⟩ := h.elems i hi
  refine ⟨_, _, rfl, h2, by simp, .inr ⟨ba, i * H, cur, rfl, h.all, ?_, fun j hj => ?_⟩⟩
  · have := seg_le (H := H) hi
    have := h.size
    omega
  · simp only [List.length_map] at hj
    rw [h3 j hj]; simp [hj]
theorem PY.mat (h : PY w v H ba us cur xss) : Mat w v us xss :=
  ⟨h.outer.row, fun i hi => ⟨_, (h.elems i hi).1, (h.row i hi).row⟩⟩
theorem PY.nil (w : World) {ba : Nat} {cur : Array Value} (hb : Blk w ba 3 cur) : PY w (.slice none 0 0) H ba [] cur [] := ⟨Sl.nil _ _ _, hb, by simp, fun i h => by simp at h⟩
theorem PY.snoc {i : Nat} {v' : Value} (hi : i < xss.length) (h : PY w v H ba us cur (xss.take i)) (hx : xss[i].length ≤ H) (hc : xss.length * H ≤ cur.size) (ho : Sl w' 35 1 v' (i + 1) (us ++ [.slice (some ⟨ba, i * H, none⟩) xss[i].length H]))
    (ha : Blk w' ba 3 (put cur (i * H) (ints xss[i]))) : PY w' v' H ba (us ++ [.slice (some ⟨ba, i * H, none⟩) xss[i].length H]) (put cur (i * H) (ints xss[i])) (xss.take (i + 1)) := by
  have hmin : min (i + 1) xss.length = i + 1 := by omega
  have hmin2 : min i xss.length = i := by omega
  have hul : us.length = i := by have := h.outer.len; simp [hmin2] at this; exact this
  have hseg := seg_le (H := H) hi
  have hfit : i * H + (ints xss[i]).length ≤ cur.size := by simp; omega
  refine ⟨by rw [List.length_take, hmin]; exact ho, ha, ?_, fun j hj => ?_⟩
  · rw [put_size hfit, List.length_take, hmin]
    rw [Nat.add_mul, Nat.one_mul]; omega
  · rw [List.length_take, hmin] at hj
    have e1 : (xss.take (i + 1))[j]'(by rw [List.length_take, hmin]; exact hj) = xss[j]'(by omega) := by simp
    rw [e1]
    by_cases hji : j < i
    · obtain ⟨h1, h2, h3⟩ := h.elems j (by rw [List.length_take, hmin2]; exact hji)
      have e2 : (xss.take i)[j]'(by rw [List.length_take, hmin2]; exact hji) = xss[j]'(by omega) := by simp
      simp only [e2] at h1 h2 h3
      refine ⟨by rw [List.getElem?_append_left (by omega)]; exact h1, h2, fun k hk => ?_⟩
      have := seg_le (H := H) hji
      rw [put_get hfit, if_pos (by omega)]
      exact h3 k hk
    · obtain rfl : j = i := by omega
      refine ⟨by rw [List.getElem?_append_right (by omega)]; simp [hul], hx, fun k hk => ?_⟩
      rw [put_get hfit, if_neg (by omega), if_pos (by simp; omega)]
      simp [hk]
end
end Go.Proofs.Ytfdmndkoiheebaa

namespace Go.Proofs.Ytfdmndkoiheebaa
open Go Go.RowKit
namespace R
variable {P : Program} {ops : Array Oper} {S : Bool → Nat → Prop} {dr : Bool} {B : List Nat} {F : Env → World → Prop} {rest : List Oper} {e : Env} {w : World}
variable {d : Tmp} {od : Option Tmp} {ty : TypeId} {pos : String} {aft : Array Edge}
theorem slcE {x : Operand} {t el : TypeId} {k by_ : Nat} {g : Bool} {z : Value} {v : Value} {lo hi : Option Operand} {l r : Nat} {n : Nat} {a : Option Addr} {c : Nat} (v' : Value) (hu : P.underlying t = some (.slice el)) (hk : Ty P el k by_ g z) (hx : ev e x = v) (hv : v = .slice a n c)
    (hlo : (match lo with | none => l = 0 | some y => ∃ ik, ev e y = .int ik l)) (hhi : (match hi with | none => r = n | some y => ∃ ik, ev e y = .int ik r)) (hlr : l ≤ r) (hrc : r ≤ c) (hc : cut k v l r = v')
    (h : wpR P ops S dr (kind B) F rest (upd e d v') w) : wpR P ops S dr (kind B) F (⟨some d, .slice t x lo hi none, ty, pos, aft, none⟩ :: rest) e w :=
  slc hu hk hx hv hlo hhi hlr hrc (by rw [hc]; exact h)
theorem mv {x : Operand} (v : Value) (hx : ev e x = v) (h : wpR P ops S dr (kind B) F rest (upd e d v) w) : wpR P ops S dr (kind B) F (⟨some d, .move x, ty, pos, aft, none⟩ :: rest) e w :=
  move (by rw [hx]; exact h)
end R
theorem E.forget {md : Mode} {P : Program} {N : Nat} {Q : Exit → Env → World → Prop} {e : Env} {w : World} {c : Code} (l : List (Nat × Value)) (h : Has e l) (k : ∀ e, wpE md P N c Q (mk e l) w) : wpE md P N c Q e w := by
  rw [h.mk]; exact k e
end Go.Proofs.Ytfdmndkoiheebaa
