import Derived.Test.YtfdmndkoiheebaaZ16B4
namespace Go.Proofs.Ytfdmndkoiheebaa
open Go Go.RowKit
theorem not_right_prefix {xss : List (List Int)} {h : Int} {i : Nat} (hi : i < xss.flatten.length) (hn : ¬ ((1 ≤ xss.flatten[i] ∧ xss.flatten[i] ≤ 999999) ∧ xss.flatten[i] ∉ xss.flatten.take i)) : ¬ RightP xss h := by
  rintro ⟨_, _, _, _, _, h1, h2⟩
  apply hn
  refine ⟨h1 _ (List.getElem_mem _), fun hin => ?_⟩
  have h3 := List.take_append_drop i xss.flatten
  rw [List.drop_eq_getElem_cons hi] at h3
  rw [← h3, List.nodup_append] at h2
  exact h2.2.2 _ hin _ List.mem_cons_self rfl
theorem rRight (w : World) {v : Value} {h : Int} {us : List Value} {xss : List (List Int)} (hm : Mat w v us xss) (hl : xss.length < 100000) (hx : ∀ xs ∈ xss, xs.length ≤ 10) :
    Calls Try.prog 55 #[.agg #[v, .int .i64 h]] w (Ret fun r w' => Ext w w' ∧ r = .bool (rightB xss h)) := by
  have hfl := flatten_le hx
  refine calls_E (args := [.agg #[v, .int .i64 h]]) 77 Try.func55 rfl rfl (by simp) ?_
  have hE : Ext w w := Upd.refl w
  refine E.seq ?_
  refine E.regionP rfl ?_
  refine R.box rfl nofun ?_
  intro b1 w1 hb1 hx1 hB1
  replace hb1 := Nat.le_trans hE.size hb1
  replace hE := hE.ext hx1
  replace hB1 : Blk _ b1 54 #[v, .int .i64 h] := hB1
  refine R.assign ?_
  refine R.nil ?_
  refine E.seq ?_
  refine E.seq ?_
  rcases (show h < 1 ∨ (1 ≤ h ∧ 6 < h) ∨ (1 ≤ h ∧ h ≤ 6 ∧ xss.length < 1) ∨ (1 ≤ h ∧ h ≤ 6 ∧ 1 ≤ xss.length ∧ 30 < xss.length) ∨ (1 ≤ h ∧ h ≤ 6 ∧ 1 ≤ xss.length ∧ xss.length ≤ 30) by omega) with hq | hq | hq | hq | hq
  · refine E.regionP rfl ?_
    refine R.fld fa54_1 rfl ?_
    refine R.loadB t3 hB1 rfl rfl rfl trivial ?_
    refine R.lss (b := true) rfl rfl (decide_eq_true hq) ?_
    refine R.move ?_
    refine R.gF rfl rfl rfl ?_
    refine R.gF rfl rfl rfl ?_
    refine R.gF rfl rfl rfl ?_
    refine R.pickT rfl ?_
    refine R.move ?_
    refine R.gF rfl rfl rfl ?_
    refine R.gF rfl rfl rfl ?_
    refine R.gF rfl rfl rfl ?_
    refine R.gF rfl rfl rfl ?_
    refine R.pickT rfl ?_
    refine R.move ?_
    refine R.gF rfl rfl rfl ?_
    refine R.gF rfl rfl rfl ?_
    refine R.gF rfl rfl rfl ?_
    refine R.gF rfl rfl rfl ?_
    refine R.pickT rfl ?_
    refine R.nil ?_
    refine E.condT rfl ?_
    refine E.seq ?_
    refine E.regionP rfl ?_
    refine R.assign ?_
    refine R.nil ?_
    refine E.ret ?_
    refine ret1 (.bool false) rfl rfl ⟨_, rfl, hE, ?_⟩
    rw [rightB_false.2]
    rintro ⟨h1, h2, h3, h4, _⟩
    omega
  · refine E.regionP rfl ?_
    refine R.fld fa54_1 rfl ?_
    refine R.loadB t3 hB1 rfl rfl rfl trivial ?_
    refine R.lss (b := false) rfl rfl (decide_eq_false (by omega)) ?_
    refine R.move ?_
    refine R.gT rfl rfl ?_
    refine R.fld fa54_1 rfl ?_
    refine R.gT rfl rfl ?_
    refine R.loadB t3 hB1 rfl rfl rfl trivial ?_
    refine R.gT rfl rfl ?_
    refine R.gtr (b := true) rfl rfl (decide_eq_true (by omega)) ?_
    refine R.pickF rfl ?_
    refine R.move ?_
    refine R.gF rfl rfl rfl ?_
    refine R.gF rfl rfl rfl ?_
    refine R.gF rfl rfl rfl ?_
    refine R.gF rfl rfl rfl ?_
    refine R.pickT rfl ?_
    refine R.move ?_
    refine R.gF rfl rfl rfl ?_
    refine R.gF rfl rfl rfl ?_
    refine R.gF rfl rfl rfl ?_
    refine R.gF rfl rfl rfl ?_
    refine R.pickT rfl ?_
    refine R.nil ?_
    refine E.condT rfl ?_
    refine E.seq ?_
    refine E.regionP rfl ?_
    refine R.assign ?_
    refine R.nil ?_
    refine E.ret ?_
    refine ret1 (.bool false) rfl rfl ⟨_, rfl, hE, ?_⟩
    rw [rightB_false.2]
    rintro ⟨h1, h2, h3, h4, _⟩
    omega
  · refine E.regionP rfl ?_
    refine R.fld fa54_1 rfl ?_
    refine R.loadB t3 hB1 rfl rfl rfl trivial ?_
    refine R.lss (b := false) rfl rfl (decide_eq_false (by omega)) ?_
    refine R.move ?_
    refine R.gT rfl rfl ?_
    refine R.fld fa54_1 rfl ?_
    refine R.gT rfl rfl ?_
    refine R.loadB t3 hB1 rfl rfl rfl trivial ?_
    refine R.gT rfl rfl ?_
    refine R.gtr (b := false) rfl rfl (decide_eq_false (by omega)) ?_
    refine R.pickF rfl ?_
    refine R.move ?_
    refine R.gT rfl rfl ?_
    refine R.fld fa54_0 rfl ?_
    refine R.gT rfl rfl ?_
    refine R.loadB t22 hB1 rfl rfl rfl trivial ?_
    refine R.gT rfl rfl ?_
    refine R.len Try.underlying22 hm.row rfl ?_
    refine R.gT rfl rfl ?_
    refine R.eql (b := true) rfl rfl (decide_eq_true (by omega)) ?_
    refine R.pickF rfl ?_
    refine R.move ?_
    refine R.gF rfl rfl rfl ?_
    refine R.gF rfl rfl rfl ?_
    refine R.gF rfl rfl rfl ?_
    refine R.gF rfl rfl rfl ?_
    refine R.pickT rfl ?_
    refine R.nil ?_
    refine E.condT rfl ?_
    refine E.seq ?_
    refine E.regionP rfl ?_
    refine R.assign ?_
    refine R.nil ?_
    refine E.ret ?_
    refine ret1 (.bool false) rfl rfl ⟨_, rfl, hE, ?_⟩
    rw [rightB_false.2]
    rintro ⟨h1, h2, h3, h4, _⟩
    omega
  · refine E.regionP rfl ?_
    refine R.fld fa54_1 rfl ?_
    refine R.loadB t3 hB1 rfl rfl rfl trivial ?_
    refine R.lss (b := false) rfl rfl (decide_eq_false (by omega)) ?_
    refine R.move ?_
    refine R.gT rfl rfl ?_
    refine R.fld fa54_1 rfl ?_
    refine R.gT rfl rfl ?_
    refine R.loadB t3 hB1 rfl rfl rfl trivial ?_
    refine R.gT rfl rfl ?_
    refine R.gtr (b := false) rfl rfl (decide_eq_false (by omega)) ?_
    refine R.pickF rfl ?_
    refine R.move ?_
    refine R.gT rfl rfl ?_
    refine R.fld fa54_0 rfl ?_
    refine R.gT rfl rfl ?_
    refine R.loadB t22 hB1 rfl rfl rfl trivial ?_
    refine R.gT rfl rfl ?_
    refine R.len Try.underlying22 hm.row rfl ?_
    refine R.gT rfl rfl ?_
    refine R.eql (b := false) rfl rfl (decide_eq_false (by omega)) ?_
    refine R.pickF rfl ?_
    refine R.move ?_
    refine R.gT rfl rfl ?_
    refine R.fld fa54_0 rfl ?_
    refine R.gT rfl rfl ?_
    refine R.loadB t22 hB1 rfl rfl rfl trivial ?_
    refine R.gT rfl rfl ?_
    refine R.len Try.underlying22 hm.row rfl ?_
    refine R.gT rfl rfl ?_
    refine R.gtr (b := true) rfl rfl (decide_eq_true (by omega)) ?_
    refine R.pickF rfl ?_
    refine R.nil ?_
    refine E.condT rfl ?_
    refine E.seq ?_
    refine E.regionP rfl ?_
    refine R.assign ?_
    refine R.nil ?_
    refine E.ret ?_
    refine ret1 (.bool false) rfl rfl ⟨_, rfl, hE, ?_⟩
    rw [rightB_false.2]
    rintro ⟨h1, h2, h3, h4, _⟩
    omega
  · refine E.regionP rfl ?_
    refine R.fld fa54_1 rfl ?_
    refine R.loadB t3 hB1 rfl rfl rfl trivial ?_
    refine R.lss (b := false) rfl rfl (decide_eq_false (by omega)) ?_
    refine R.move ?_
    refine R.gT rfl rfl ?_
    refine R.fld fa54_1 rfl ?_
    refine R.gT rfl rfl ?_
    refine R.loadB t3 hB1 rfl rfl rfl trivial ?_
    refine R.gT rfl rfl ?_
    refine R.gtr (b := false) rfl rfl (decide_eq_false (by omega)) ?_
    refine R.pickF rfl ?_
    refine R.move ?_
    refine R.gT rfl rfl ?_
    refine R.fld fa54_0 rfl ?_
    refine R.gT rfl rfl ?_
    refine R.loadB t22 hB1 rfl rfl rfl trivial ?_
    refine R.gT rfl rfl ?_
    refine R.len Try.underlying22 hm.row rfl ?_
    refine R.gT rfl rfl ?_
    refine R.eql (b := false) rfl rfl (decide_eq_false (by omega)) ?_
    refine R.pickF rfl ?_
    refine R.move ?_
    refine R.gT rfl rfl ?_
    refine R.fld fa54_0 rfl ?_
    refine R.gT rfl rfl ?_
    refine R.loadB t22 hB1 rfl rfl rfl trivial ?_
    refine R.gT rfl rfl ?_
    refine R.len Try.underlying22 hm.row rfl ?_
    refine R.gT rfl rfl ?_
    refine R.gtr (b := false) rfl rfl (decide_eq_false (by omega)) ?_
    refine R.pickF rfl ?_
    refine R.nil ?_
    refine E.condF rfl ?_
    refine E.skip ?_
    refine E.seq ?_
    refine E.seq ?_
    refine E.regionP rfl ?_
    refine R.assign ?_
    refine R.nil ?_
    refine E.block ?_
    refine E.loop (fun n e wr => ∃ i : Nat, n = xss.length - i ∧ i ≤ xss.length ∧ Ext w wr ∧ Blk wr b1 54 #[v, .int .i64 h] ∧ (∀ xs ∈ xss.take i, (xs.length : Int) ≤ h) ∧ Has e [(1, .pointer (some ⟨b1, 0, none⟩)), (3, .int .i64 i)]) (xss.length) ?_ ?_
    · exact ⟨0, rfl, Nat.zero_le _, hE, hB1, by simp, rfl, rfl, trivial⟩
    · rintro n e wr ⟨i, rfl, hi, hE, hB1, hs, hH⟩
      obtain ⟨e, rfl⟩ := hH.ex
      clear hH
      refine E.seq ?_
      refine E.seq ?_
      refine E.regionP rfl ?_
      refine R.move ?_
      refine R.fld fa54_0 rfl ?_
      refine R.loadB t22 hB1 rfl rfl rfl trivial ?_
      refine R.len Try.underlying22 hm.row rfl ?_
      refine R.lss rfl rfl rfl ?_
      refine R.nil ?_
      refine E.cond rfl (fun hc31 => ?_) (fun hc31 => ?_)
      · replace hc31 := dT hc31
        refine E.skip ?_
        refine E.seq ?_
        refine E.block ?_
        refine E.seq ?_
        refine E.regionW allS [] mixed rfl (by kernel_rfl) ?_
        intro w2 hx2 hh2
        replace hB1 := hB1.ext hx2
        replace hE := hE.ext hx2
        refine R.fld fa54_0 rfl ?_
        refine R.loadB t22 hB1 rfl rfl rfl trivial ?_
        refine R.move ?_
        refine R.ix Try.underlying22 t35 (by decide) hm.row rfl rfl (by omega) ?_
        obtain ⟨u38, hu38, hr38⟩ := hm.get i (by omega)
        refine R.ld t35 (hm.row.ext hE) rfl hu38 rfl (fun _ _ => trivial) ?_
        refine R.len Try.underlying35 hr38 rfl ?_
        refine R.fld fa54_1 rfl ?_
        refine R.loadB t3 hB1 rfl rfl rfl trivial ?_
        refine R.gtr rfl rfl rfl ?_
        refine R.nil ?_
        refine E.cond rfl (fun hc42 => ?_) (fun hc42 => ?_)
        · replace hc42 := dT hc42
          refine E.seq ?_
          refine E.regionP rfl ?_
          refine R.assign ?_
          refine R.nil ?_
          refine E.ret ?_
          refine ret1 (.bool false) rfl rfl ⟨_, rfl, hE, ?_⟩
          rw [rightB_false.2]
          rintro ⟨_, _, _, _, h5, _⟩
          have := h5 xss[i] (List.getElem_mem _)
          omega
        · replace hc42 := dF hc42
          refine E.skip ?_
          refine E.regionP rfl ?_
          refine R.move ?_
          refine R.addN (n := 1) rfl rfl (by omega) ?_
          refine R.assign ?_
          refine R.nil ?_
          refine ⟨xss.length - (i + 1), by omega, i + 1, rfl, by omega, hE, hB1, ?_, rfl, rfl, trivial⟩
          intro xs hxs
          rw [List.take_succ_eq_append_getElem (by omega)] at hxs
          rcases List.mem_append.1 hxs with hxs | hxs
          · exact hs xs hxs
          · simp at hxs; subst hxs; omega
      · replace hc31 := dF hc31
        refine E.exit ?_
        refine E.seq ?_
        refine E.regionP rfl ?_
        refine R.loadA t54 hB1 rfl rfl rfl trivial ?_
        refine R.callE1 ent90 (rBoxes _ (hm.ext hE) hl hx) rfl nofun ?_
        rintro v44 w3 hx3 ⟨hS44, hf44⟩
        replace hB1 := hB1.ext hx3
        replace hE := hE.ext hx3
        refine R.assign ?_
        refine R.nil ?_
        refine E.seq ?_
        refine E.seq ?_
        refine E.regionP rfl ?_
        refine R.assign ?_
        refine R.nil ?_
        refine E.block ?_
        refine E.loop (fun n e wr => ∃ j : Nat, n = xss.flatten.length - j ∧ j ≤ xss.flatten.length ∧ Ext w wr ∧ SInts wr v44 xss.flatten ∧ (∀ b ∈ xss.flatten.take j, 1 ≤ b ∧ b ≤ 999999) ∧ (xss.flatten.take j).Nodup ∧ Has e [(4, v44), (5, .int .i64 j)]) (xss.flatten.length) ?_ ?_
        · obtain rfl : i = xss.length := by omega
          rw [List.take_length] at hs
          exact ⟨0, rfl, Nat.zero_le _, hE, hS44, by simp, by simp, rfl, rfl, trivial⟩
        · rintro n e wr ⟨j, rfl, hj, hE, hS44, hrg, hnd, hH⟩
          obtain ⟨e, rfl⟩ := hH.ex
          clear hH
          have hs : ∀ xs ∈ xss, (xs.length : Int) ≤ h := by
            have e : i = xss.length := by omega
            rw [e, List.take_length] at hs
            exact hs
          refine E.seq ?_
          refine E.seq ?_
          refine E.regionP rfl ?_
          refine R.move ?_
          refine R.move ?_
          refine R.len Try.underlying35 hS44.row rfl ?_
          refine R.lss rfl rfl rfl ?_
          refine R.nil ?_
          refine E.cond rfl (fun hc48 => ?_) (fun hc48 => ?_)
          · replace hc48 := dT hc48
            refine E.skip ?_
            refine E.seq ?_
            refine E.block ?_
            refine E.seq ?_
            refine E.seq ?_
            rcases (show xss.flatten[j] < 1 ∨ (1 ≤ xss.flatten[j] ∧ 999999 < xss.flatten[j]) ∨ (1 ≤ xss.flatten[j] ∧ xss.flatten[j] ≤ 999999) by omega) with hq2 | hq2 | hq2
            · refine E.regionP rfl ?_
              refine R.move ?_
              refine R.move ?_
              refine R.ix Try.underlying35 t3 (by decide) hS44.row rfl rfl (by omega) ?_
              refine R.ld t3 hS44.row rfl (int_at (by omega)) rfl (fun _ _ => trivial) ?_
              refine R.lss (b := true) rfl rfl (decide_eq_true hq2) ?_
              refine R.move ?_
              refine R.gF rfl rfl rfl ?_
              refine R.gF rfl rfl rfl ?_
              refine R.gF rfl rfl rfl ?_
              refine R.gF rfl rfl rfl ?_
              refine R.gF rfl rfl rfl ?_
              refine R.pickT rfl ?_
              refine R.nil ?_
              refine E.condT rfl ?_
              refine E.seq ?_
              refine E.regionP rfl ?_
              refine R.assign ?_
              refine R.nil ?_
              refine E.ret ?_
              refine ret1 (.bool false) rfl rfl ⟨_, rfl, hE, ?_⟩
              rw [rightB_false.2]
              exact not_right_prefix (i := j) (by omega) (fun hh => by omega)
            · refine E.regionP rfl ?_
              refine R.move ?_
              refine R.move ?_
              refine R.ix Try.underlying35 t3 (by decide) hS44.row rfl rfl (by omega) ?_
              refine R.ld t3 hS44.row rfl (int_at (by omega)) rfl (fun _ _ => trivial) ?_
              refine R.lss (b := false) rfl rfl (decide_eq_false (by omega)) ?_
              refine R.move ?_
              refine R.gT rfl rfl ?_
              refine R.move ?_
              refine R.gT rfl rfl ?_
              refine R.move ?_
              refine R.gT rfl rfl ?_
              refine R.ix Try.underlying35 t3 (by decide) hS44.row rfl rfl (by omega) ?_
              refine R.gT rfl rfl ?_
              refine R.ld t3 hS44.row rfl (int_at (by omega)) rfl (fun _ _ => trivial) ?_
              refine R.gT rfl rfl ?_
              refine R.gtr (b := true) rfl rfl (decide_eq_true (by omega)) ?_
              refine R.pickF rfl ?_
              refine R.nil ?_
              refine E.condT rfl ?_
              refine E.seq ?_
              refine E.regionP rfl ?_
              refine R.assign ?_
              refine R.nil ?_
              refine E.ret ?_
              refine ret1 (.bool false) rfl rfl ⟨_, rfl, hE, ?_⟩
              rw [rightB_false.2]
              exact not_right_prefix (i := j) (by omega) (fun hh => by omega)
            · refine E.regionP rfl ?_
              refine R.move ?_
              refine R.move ?_
              refine R.ix Try.underlying35 t3 (by decide) hS44.row rfl rfl (by omega) ?_
              refine R.ld t3 hS44.row rfl (int_at (by omega)) rfl (fun _ _ => trivial) ?_
              refine R.lss (b := false) rfl rfl (decide_eq_false (by omega)) ?_
              refine R.move ?_
              refine R.gT rfl rfl ?_
              refine R.move ?_
              refine R.gT rfl rfl ?_
              refine R.move ?_
              refine R.gT rfl rfl ?_
              refine R.ix Try.underlying35 t3 (by decide) hS44.row rfl rfl (by omega) ?_
              refine R.gT rfl rfl ?_
              refine R.ld t3 hS44.row rfl (int_at (by omega)) rfl (fun _ _ => trivial) ?_
              refine R.gT rfl rfl ?_
              refine R.gtr (b := false) rfl rfl (decide_eq_false (by omega)) ?_
              refine R.pickF rfl ?_
              refine R.nil ?_
              refine E.condF rfl ?_
              refine E.skip ?_
              refine E.seq ?_
              refine E.regionP rfl ?_
              refine R.assign ?_
              refine R.nil ?_
              refine E.block ?_
              refine E.loop (fun n e wr => ∃ k : Nat, n = j - k ∧ k ≤ j ∧ Ext w wr ∧ SInts wr v44 xss.flatten ∧ xss.flatten[j] ∉ xss.flatten.take k ∧ Has e [(4, v44), (5, .int .i64 j), (6, .int .i64 k)]) (j) ?_ ?_
              · exact ⟨0, rfl, Nat.zero_le _, hE, hS44, by simp, rfl, rfl, rfl, trivial⟩
              · rintro n e wr ⟨k, rfl, hk, hE, hS44, hnk, hH⟩
                obtain ⟨e, rfl⟩ := hH.ex
                clear hH
                refine E.seq ?_
                refine E.seq ?_
                refine E.regionP rfl ?_
                refine R.move ?_
                refine R.move ?_
                refine R.lss rfl rfl rfl ?_
                refine R.nil ?_
                refine E.cond rfl (fun hc65 => ?_) (fun hc65 => ?_)
                · replace hc65 := dT hc65
                  refine E.skip ?_
                  refine E.seq ?_
                  refine E.block ?_
                  refine E.seq ?_
                  refine E.regionW allS [] mixed rfl (by kernel_rfl) ?_
                  intro w4 hx4 hh4
                  replace hS44 := hS44.ext hx4
                  replace hE := hE.ext hx4
                  refine R.move ?_
                  refine R.move ?_
                  refine R.ix Try.underlying35 t3 (by decide) hS44.row rfl rfl (by omega) ?_
                  refine R.ld t3 hS44.row rfl (int_at (by omega)) rfl (fun _ _ => trivial) ?_
                  refine R.move ?_
                  refine R.move ?_
                  refine R.ix Try.underlying35 t3 (by decide) hS44.row rfl rfl (by omega) ?_
                  refine R.ld t3 hS44.row rfl (int_at (by omega)) rfl (fun _ _ => trivial) ?_
                  refine R.eql rfl rfl rfl ?_
                  refine R.nil ?_
                  refine E.cond rfl (fun hc76 => ?_) (fun hc76 => ?_)
                  · replace hc76 := dT hc76
                    refine E.seq ?_
                    refine E.regionP rfl ?_
                    refine R.assign ?_
                    refine R.nil ?_
                    refine E.ret ?_
                    refine ret1 (.bool false) rfl rfl ⟨_, rfl, hE, ?_⟩
                    rw [rightB_false.2]
                    refine not_right_prefix (i := j) (by omega) (fun hh => hh.2 ?_)
                    rw [← hc76]
                    exact List.mem_take_iff_getElem.2 ⟨k, by omega, rfl⟩
                  · replace hc76 := dF hc76
                    refine E.skip ?_
                    refine E.regionP rfl ?_
                    refine R.move ?_
                    refine R.addN (n := 1) rfl rfl (by omega) ?_
                    refine R.assign ?_
                    refine R.nil ?_
                    refine ⟨j - (k + 1), by omega, k + 1, rfl, by omega, hE, hS44, ?_, rfl, rfl, rfl, trivial⟩
                    rw [List.take_succ_eq_append_getElem (by omega), List.mem_append]
                    rintro (h1 | h1)
                    · exact hnk h1
                    · simp at h1; exact hc76 h1.symm
                · replace hc65 := dF hc65
                  refine E.exit ?_
                  refine E.regionP rfl ?_
                  refine R.move ?_
                  refine R.addN (n := 1) rfl rfl (by omega) ?_
                  refine R.assign ?_
                  refine R.nil ?_
                  refine ⟨xss.flatten.length - (j + 1), by omega, j + 1, rfl, by omega, hE, hS44, ?_, ?_, rfl, rfl, trivial⟩
                  · intro b hb
                    rw [List.take_succ_eq_append_getElem (by omega)] at hb
                    rcases List.mem_append.1 hb with hb | hb
                    · exact hrg b hb
                    · simp at hb; subst hb; exact hq2
                  · rw [List.take_succ_eq_append_getElem (by omega), List.nodup_append]
                    refine ⟨hnd, by simp, fun a ha b hb e => ?_⟩
                    simp at hb; subst hb; subst e
                    obtain rfl : k = j := by omega
                    exact hnk ha
          · replace hc48 := dF hc48
            refine E.exit ?_
            refine E.seq ?_
            refine E.regionP rfl ?_
            refine R.assign ?_
            refine R.nil ?_
            refine E.ret ?_
            refine ret1 (.bool true) rfl rfl ⟨_, rfl, hE, ?_⟩
            obtain rfl : j = xss.flatten.length := by omega
            rw [List.take_length] at hrg hnd
            rw [rightB_true.2]
            exact ⟨by omega, by omega, by omega, by omega, hs, hrg, hnd⟩
end Go.Proofs.Ytfdmndkoiheebaa
