import Derived.Test.YtfdmndkoiheebaaZ16Yard
namespace Go.Proofs.Ytfdmndkoiheebaa
open Go Go.RowKit
structure Met (L : List Int) (M : List (Int × Int)) : Prop where
  range : ∀ b ∈ L, 1 ≤ b ∧ b ≤ 999999
  nodup : L.Nodup
  map : ∀ b, mget M b = if b ∈ L then some 1 else none
theorem Met.nil : Met [] [] := ⟨by simp, by simp, by simp [mget]⟩
theorem Met.getD {L : List Int} {M : List (Int × Int)} (h : Met L M) (b : Int) : (mget M b).getD 0 = if b ∈ L then 1 else 0 := by rw [h.map]; split <;> rfl
theorem Met.snoc {L : List Int} {M : List (Int × Int)} {b v : Int} (h : Met L M) (h1 : 1 ≤ b) (h2 : b ≤ 999999) (hn : b ∉ L) (hv : v = 1) : Met (L ++ [b]) (mset M b v) := by
  refine ⟨fun x hx => ?_, ?_, fun x => ?_⟩
  · rcases List.mem_append.1 hx with hx | hx
    · exact h.range x hx
    · simp at hx; subst hx; exact ⟨h1, h2⟩
  · rw [List.nodup_append]
    refine ⟨h.nodup, by simp, fun a ha c hc => ?_⟩
    simp at hc; subst hc
    exact fun e => hn (e ▸ ha)
  · rw [mget_mset, h.map, hv]
    by_cases hx : x = b
    · subst hx; simp
    · simp [hx]
theorem right (w : World) {v : Value} {h : Int} {us : List Value} {xss : List (List Int)} (hm : Mat w v us xss) (hl : xss.length < 1000000) (hx : ∀ xs ∈ xss, xs.length < 1000000) :
    Calls Try.prog 27 #[.agg #[v, .int .i64 h]] w (Ret fun r w' => Ext w w' ∧ r = .bool (rightB xss h)) := by
  refine calls_E (args := [.agg #[v, .int .i64 h]]) 65 Try.func27 rfl rfl (by simp) ?_
  have hE : Ext w w := Upd.refl w
  refine E.seq ?_
  refine E.regionP rfl ?_
  refine R.box rfl nofun ?_
  intro b1 w1 hb1 hx1 hB1
  replace hb1 := Nat.le_trans hE.size hb1
  replace hE := hE.ext hx1
  replace hB1 : Blk _ b1 24 #[v, .int .i64 h] := hB1
  refine R.assign ?_
  refine R.nil ?_
  refine E.seq ?_
  refine E.seq ?_
  rcases (show h < 1 ∨ (1 ≤ h ∧ 6 < h) ∨ (1 ≤ h ∧ h ≤ 6 ∧ xss.length < 1) ∨ (1 ≤ h ∧ h ≤ 6 ∧ 1 ≤ xss.length ∧ 30 < xss.length) ∨ (1 ≤ h ∧ h ≤ 6 ∧ 1 ≤ xss.length ∧ xss.length ≤ 30) by omega) with hq | hq | hq | hq | hq
  · refine E.regionP rfl ?_
    refine R.fld fa24_1 rfl ?_
    refine R.loadB t3 hB1 rfl rfl rfl trivial ?_
    refine R.lss (b := true) rfl rfl (decide_eq_true hq) ?_
    refine R.move ?_
    refine R.gF rfl rfl rfl ?_
    refine R.gF rfl rfl rfl ?_
    refine R.gF rfl rfl rfl ?_
    refine R.pickT rfl ?_
    refine R.move ?_
    refine R.gF rfl rfl rfl ?_
    refine R.gF rfl rfl rfl ?_
    refine R.gF rfl rfl rfl ?_
    refine R.gF rfl rfl rfl ?_
    refine R.pickT rfl ?_
    refine R.move ?_
    refine R.gF rfl rfl rfl ?_
    refine R.gF rfl rfl rfl ?_
    refine R.gF rfl rfl rfl ?_
    refine R.gF rfl rfl rfl ?_
    refine R.pickT rfl ?_
    refine R.nil ?_
    refine E.condT rfl ?_
    refine E.seq ?_
    refine E.regionP rfl ?_
    refine R.assign ?_
    refine R.nil ?_
    refine E.ret ?_
    refine ret1 (.bool false) rfl rfl ⟨_, rfl, hE, ?_⟩
    rw [rightB_false.2]
    rintro ⟨h1, h2, h3, h4, _⟩
    omega
  · refine E.regionP rfl ?_
    refine R.fld fa24_1 rfl ?_
    refine R.loadB t3 hB1 rfl rfl rfl trivial ?_
    refine R.lss (b := false) rfl rfl (decide_eq_false (by omega)) ?_
    refine R.move ?_
    refine R.gT rfl rfl ?_
    refine R.fld fa24_1 rfl ?_
    refine R.gT rfl rfl ?_
    refine R.loadB t3 hB1 rfl rfl rfl trivial ?_
    refine R.gT rfl rfl ?_
    refine R.gtr (b := true) rfl rfl (decide_eq_true (by omega)) ?_
    refine R.pickF rfl ?_
    refine R.move ?_
    refine R.gF rfl rfl rfl ?_
    refine R.gF rfl rfl rfl ?_
    refine R.gF rfl rfl rfl ?_
    refine R.gF rfl rfl rfl ?_
    refine R.pickT rfl ?_
    refine R.move ?_
    refine R.gF rfl rfl rfl ?_
    refine R.gF rfl rfl rfl ?_
    refine R.gF rfl rfl rfl ?_
    refine R.gF rfl rfl rfl ?_
    refine R.pickT rfl ?_
    refine R.nil ?_
    refine E.condT rfl ?_
    refine E.seq ?_
    refine E.regionP rfl ?_
    refine R.assign ?_
    refine R.nil ?_
    refine E.ret ?_
    refine ret1 (.bool false) rfl rfl ⟨_, rfl, hE, ?_⟩
    rw [rightB_false.2]
    rintro ⟨h1, h2, h3, h4, _⟩
    omega
  · refine E.regionP rfl ?_
    refine R.fld fa24_1 rfl ?_
    refine R.loadB t3 hB1 rfl rfl rfl trivial ?_
    refine R.lss (b := false) rfl rfl (decide_eq_false (by omega)) ?_
    refine R.move ?_
    refine R.gT rfl rfl ?_
    refine R.fld fa24_1 rfl ?_
    refine R.gT rfl rfl ?_
    refine R.loadB t3 hB1 rfl rfl rfl trivial ?_
    refine R.gT rfl rfl ?_
    refine R.gtr (b := false) rfl rfl (decide_eq_false (by omega)) ?_
    refine R.pickF rfl ?_
    refine R.move ?_
    refine R.gT rfl rfl ?_
    refine R.fld fa24_0 rfl ?_
    refine R.gT rfl rfl ?_
    refine R.loadB t22 hB1 rfl rfl rfl trivial ?_
    refine R.gT rfl rfl ?_
    refine R.len Try.underlying22 hm.row rfl ?_
    refine R.gT rfl rfl ?_
    refine R.lss (b := true) rfl rfl (decide_eq_true (by omega)) ?_
    refine R.pickF rfl ?_
    refine R.move ?_
    refine R.gF rfl rfl rfl ?_
    refine R.gF rfl rfl rfl ?_
    refine R.gF rfl rfl rfl ?_
    refine R.gF rfl rfl rfl ?_
    refine R.pickT rfl ?_
    refine R.nil ?_
    refine E.condT rfl ?_
    refine E.seq ?_
    refine E.regionP rfl ?_
    refine R.assign ?_
    refine R.nil ?_
    refine E.ret ?_
    refine ret1 (.bool false) rfl rfl ⟨_, rfl, hE, ?_⟩
    rw [rightB_false.2]
    rintro ⟨h1, h2, h3, h4, _⟩
    omega
  · refine E.regionP rfl ?_
    refine R.fld fa24_1 rfl ?_
    refine R.loadB t3 hB1 rfl rfl rfl trivial ?_
    refine R.lss (b := false) rfl rfl (decide_eq_false (by omega)) ?_
    refine R.move ?_
    refine R.gT rfl rfl ?_
    refine R.fld fa24_1 rfl ?_
    refine R.gT rfl rfl ?_
    refine R.loadB t3 hB1 rfl rfl rfl trivial ?_
    refine R.gT rfl rfl ?_
    refine R.gtr (b := false) rfl rfl (decide_eq_false (by omega)) ?_
    refine R.pickF rfl ?_
    refine R.move ?_
    refine R.gT rfl rfl ?_
    refine R.fld fa24_0 rfl ?_
    refine R.gT rfl rfl ?_
    refine R.loadB t22 hB1 rfl rfl rfl trivial ?_
    refine R.gT rfl rfl ?_
    refine R.len Try.underlying22 hm.row rfl ?_
    refine R.gT rfl rfl ?_
    refine R.lss (b := false) rfl rfl (decide_eq_false (by omega)) ?_
    refine R.pickF rfl ?_
    refine R.move ?_
    refine R.gT rfl rfl ?_
    refine R.fld fa24_0 rfl ?_
    refine R.gT rfl rfl ?_
    refine R.loadB t22 hB1 rfl rfl rfl trivial ?_
    refine R.gT rfl rfl ?_
    refine R.len Try.underlying22 hm.row rfl ?_
    refine R.gT rfl rfl ?_
    refine R.gtr (b := true) rfl rfl (decide_eq_true (by omega)) ?_
    refine R.pickF rfl ?_
    refine R.nil ?_
    refine E.condT rfl ?_
    refine E.seq ?_
    refine E.regionP rfl ?_
    refine R.assign ?_
    refine R.nil ?_
    refine E.ret ?_
    refine ret1 (.bool false) rfl rfl ⟨_, rfl, hE, ?_⟩
    rw [rightB_false.2]
    rintro ⟨h1, h2, h3, h4, _⟩
    omega
  · refine E.regionP rfl ?_
    refine R.fld fa24_1 rfl ?_
    refine R.loadB t3 hB1 rfl rfl rfl trivial ?_
    refine R.lss (b := false) rfl rfl (decide_eq_false (by omega)) ?_
    refine R.move ?_
    refine R.gT rfl rfl ?_
    refine R.fld fa24_1 rfl ?_
    refine R.gT rfl rfl ?_
    refine R.loadB t3 hB1 rfl rfl rfl trivial ?_
    refine R.gT rfl rfl ?_
    refine R.gtr (b := false) rfl rfl (decide_eq_false (by omega)) ?_
    refine R.pickF rfl ?_
    refine R.move ?_
    refine R.gT rfl rfl ?_
    refine R.fld fa24_0 rfl ?_
    refine R.gT rfl rfl ?_
    refine R.loadB t22 hB1 rfl rfl rfl trivial ?_
    refine R.gT rfl rfl ?_
    refine R.len Try.underlying22 hm.row rfl ?_
    refine R.gT rfl rfl ?_
    refine R.lss (b := false) rfl rfl (decide_eq_false (by omega)) ?_
    refine R.pickF rfl ?_
    refine R.move ?_
    refine R.gT rfl rfl ?_
    refine R.fld fa24_0 rfl ?_
    refine R.gT rfl rfl ?_
    refine R.loadB t22 hB1 rfl rfl rfl trivial ?_
    refine R.gT rfl rfl ?_
    refine R.len Try.underlying22 hm.row rfl ?_
    refine R.gT rfl rfl ?_
    refine R.gtr (b := false) rfl rfl (decide_eq_false (by omega)) ?_
    refine R.pickF rfl ?_
    refine R.nil ?_
    refine E.condF rfl ?_
    refine E.skip ?_
    refine E.seq ?_
    refine E.regionP rfl ?_
    refine R.makeMap nofun ?_
    intro r28 w28 hr28 hx28 hM28
    replace hr28 := Nat.le_trans hE.size hr28
    replace hB1 := hB1.ext hx28
    replace hE := hE.ext hx28
    refine R.assign ?_
    refine R.nil ?_
    refine E.seq ?_
    refine E.seq ?_
    refine E.regionP rfl ?_
    refine R.fld fa24_0 rfl ?_
    refine R.loadB t22 hB1 rfl rfl rfl trivial ?_
    refine R.len Try.underlying22 hm.row rfl ?_
    refine R.move ?_
    refine R.nil ?_
    refine E.block ?_
    refine E.loop (fun n e wr => ∃ i : Nat, ∃ M : List (Int × Int), n = xss.length - i ∧ i ≤ xss.length ∧ Ext w wr ∧ Blk wr b1 24 #[v, .int .i64 h] ∧ MapI wr r28 M ∧ (∀ xs ∈ xss.take i, (xs.length : Int) ≤ h) ∧ Met (xss.take i).flatten M ∧ Has e [(1, .pointer (some ⟨b1, 0, none⟩)), (3, .map (some r28)), (30, v), (31, .int .i64 xss.length), (32, .int .i64 i)]) (xss.length) ?_ ?_
    · exact ⟨0, [], rfl, Nat.zero_le _, hE, hB1, hM28, by simp, Met.nil, rfl, rfl, rfl, rfl, rfl, trivial⟩
    · rintro n e wr ⟨i, M, rfl, hi, hE, hB1, hM, hs, hK, hH⟩
      obtain ⟨e, rfl⟩ := hH.ex
      clear hH
      refine E.seq ?_
      refine E.regionP rfl ?_
      refine R.lss rfl rfl rfl ?_
      refine R.nil ?_
      refine E.seq ?_
      refine E.cond rfl (fun hc33 => ?_) (fun hc33 => ?_)
      · replace hc33 := dT hc33
        refine E.skip ?_
        refine E.seq ?_
        refine E.block ?_
        refine E.seq ?_
        refine E.regionP rfl ?_
        refine R.ix Try.underlying22 t35 (by decide) hm.row rfl rfl (by omega) ?_
        obtain ⟨u35, hu35, hr35⟩ := hm.get i (by omega)
        refine R.ld t35 (hm.row.ext hE) rfl hu35 rfl (fun _ _ => trivial) ?_
        refine R.assign ?_
        refine R.nil ?_
        refine E.seq ?_
        refine E.seq ?_
        refine E.regionP rfl ?_
        refine R.move ?_
        refine R.len Try.underlying35 hr35 rfl ?_
        refine R.fld fa24_1 rfl ?_
        refine R.loadB t3 hB1 rfl rfl rfl trivial ?_
        refine R.gtr rfl rfl rfl ?_
        refine R.nil ?_
        refine E.cond rfl (fun hc40 => ?_) (fun hc40 => ?_)
        · replace hc40 := dT hc40
          refine E.seq ?_
          refine E.regionP rfl ?_
          refine R.assign ?_
          refine R.nil ?_
          refine E.ret ?_
          refine ret1 (.bool false) rfl rfl ⟨_, rfl, hE, ?_⟩
          rw [rightB_false.2]
          rintro ⟨_, _, _, _, h5, _⟩
          have := h5 xss[i] (List.getElem_mem _)
          omega
        · replace hc40 := dF hc40
          refine E.skip ?_
          refine E.seq ?_
          refine E.regionP rfl ?_
          refine R.move ?_
          refine R.len Try.underlying35 hr35 rfl ?_
          refine R.move ?_
          refine R.nil ?_
          refine E.block ?_
          refine E.loop (fun n e wr => ∃ j : Nat, ∃ M : List (Int × Int), n = xss[i].length - j ∧ j ≤ xss[i].length ∧ Ext w wr ∧ Blk wr b1 24 #[v, .int .i64 h] ∧ MapI wr r28 M ∧ Met ((xss.take i).flatten ++ xss[i].take j) M ∧ Has e [(1, .pointer (some ⟨b1, 0, none⟩)), (3, .map (some r28)), (30, v), (31, .int .i64 xss.length), (32, .int .i64 i), (41, u35), (42, .int .i64 xss[i].length), (43, .int .i64 j)]) (xss[i].length) ?_ ?_
          · exact ⟨0, M, rfl, Nat.zero_le _, hE, hB1, hM, by simpa using hK, rfl, rfl, rfl, rfl, rfl, rfl, rfl, rfl, trivial⟩
          · rintro n e wr ⟨j, M, rfl, hj, hE, hB1, hM, hK, hH⟩
            obtain ⟨e, rfl⟩ := hH.ex
            clear hH
            have hr := hr28
            have hxl := hx xss[i] (List.getElem_mem _)
            refine E.seq ?_
            refine E.regionP rfl ?_
            refine R.lss rfl rfl rfl ?_
            refine R.nil ?_
            refine E.seq ?_
            refine E.cond rfl (fun hc44 => ?_) (fun hc44 => ?_)
            · replace hc44 := dT hc44
              refine E.skip ?_
              refine E.seq ?_
              refine E.block ?_
              refine E.seq ?_
              refine E.regionP rfl ?_
              refine R.ix Try.underlying35 t3 (by decide) hr35 rfl rfl (by omega) ?_
              refine R.ld t3 (hr35.ext hE) rfl (int_at (by omega)) rfl (fun _ _ => trivial) ?_
              refine R.assign ?_
              refine R.nil ?_
              refine E.seq ?_
              refine E.regionP rfl ?_
              refine R.move ?_
              refine R.move ?_
              have hg := hK.getD (xss[i][j])
              refine R.look Try.underlying97 Try.underlying3 t3 hM rfl rfl trivial ?_
              refine R.add rfl rfl (by rw [hg]; split <;> omega) (by rw [hg]; split <;> omega) ?_
              refine R.mapSet Try.underlying97 Try.underlying3 hM rfl rfl rfl nofun ?_
              intro w50 hU50 hs50 hM50
              replace hB1 := hB1.up hU50 (fun e => hM.ne hB1 e.symm)
              replace hE := hE.own hU50 hr
              refine R.nil ?_
              refine E.seq ?_
              rcases (show xss[i][j] < 1 ∨ (1 ≤ xss[i][j] ∧ 999999 < xss[i][j]) ∨ (1 ≤ xss[i][j] ∧ xss[i][j] ≤ 999999) by omega) with hq2 | hq2 | hq2
              rotate_left 2
              by_cases hin : xss[i][j] ∈ (xss.take i).flatten ++ xss[i].take j
              rotate_left 2
              · refine E.regionP rfl ?_
                refine R.move ?_
                refine R.lss (b := true) rfl rfl (decide_eq_true hq2) ?_
                refine R.move ?_
                refine R.gF rfl rfl rfl ?_
                refine R.gF rfl rfl rfl ?_
                refine R.pickT rfl ?_
                refine R.move ?_
                refine R.gF rfl rfl rfl ?_
                refine R.gF rfl rfl rfl ?_
                refine R.gF rfl rfl rfl ?_
                refine R.gF rfl rfl rfl ?_
                refine R.pickT rfl ?_
                refine R.nil ?_
                refine E.condT rfl ?_
                refine E.seq ?_
                refine E.regionP rfl ?_
                refine R.assign ?_
                refine R.nil ?_
                refine E.ret ?_
                refine ret1 (.bool false) rfl rfl ⟨_, rfl, hE, ?_⟩
                rw [rightB_false.2]
                obtain ⟨rr, hrr⟩ := flatten_prefix (xss := xss) (i := i) (j := j + 1) (by omega)
                refine not_right_of_prefix hrr (fun hh => ?_)
                rw [List.take_succ_eq_append_getElem (by omega), ← List.append_assoc] at hh
                have := hh.1 xss[i][j] (List.mem_append_right _ (List.mem_singleton.2 rfl))
                omega
              · refine E.regionP rfl ?_
                refine R.move ?_
                refine R.lss (b := false) rfl rfl (decide_eq_false (by omega)) ?_
                refine R.move ?_
                refine R.gT rfl rfl ?_
                refine R.move ?_
                refine R.gT rfl rfl ?_
                refine R.gtr (b := true) rfl rfl (decide_eq_true (by omega)) ?_
                refine R.pickF rfl ?_
                refine R.move ?_
                refine R.gF rfl rfl rfl ?_
                refine R.gF rfl rfl rfl ?_
                refine R.gF rfl rfl rfl ?_
                refine R.gF rfl rfl rfl ?_
                refine R.pickT rfl ?_
                refine R.nil ?_
                refine E.condT rfl ?_
                refine E.seq ?_
                refine E.regionP rfl ?_
                refine R.assign ?_
                refine R.nil ?_
                refine E.ret ?_
                refine ret1 (.bool false) rfl rfl ⟨_, rfl, hE, ?_⟩
                rw [rightB_false.2]
                obtain ⟨rr, hrr⟩ := flatten_prefix (xss := xss) (i := i) (j := j + 1) (by omega)
                refine not_right_of_prefix hrr (fun hh => ?_)
                rw [List.take_succ_eq_append_getElem (by omega), ← List.append_assoc] at hh
                have := hh.1 xss[i][j] (List.mem_append_right _ (List.mem_singleton.2 rfl))
                omega
              · refine E.regionP rfl ?_
                refine R.move ?_
                refine R.lss (b := false) rfl rfl (decide_eq_false (by omega)) ?_
                refine R.move ?_
                refine R.gT rfl rfl ?_
                refine R.move ?_
                refine R.gT rfl rfl ?_
                refine R.gtr (b := false) rfl rfl (decide_eq_false (by omega)) ?_
                refine R.pickF rfl ?_
                refine R.move ?_
                refine R.gT rfl rfl ?_
                refine R.move ?_
                refine R.gT rfl rfl ?_
                refine R.move ?_
                refine R.gT rfl rfl ?_
                refine R.look Try.underlying97 Try.underlying3 t3 hM50 rfl rfl trivial ?_
                refine R.gT rfl rfl ?_
                refine R.gtr (b := true) rfl rfl (decide_eq_true (by rw [mget_mset, if_pos rfl, hg, if_pos hin]; decide)) ?_
                refine R.pickF rfl ?_
                refine R.nil ?_
                refine E.condT rfl ?_
                refine E.seq ?_
                refine E.regionP rfl ?_
                refine R.assign ?_
                refine R.nil ?_
                refine E.ret ?_
                refine ret1 (.bool false) rfl rfl ⟨_, rfl, hE, ?_⟩
                rw [rightB_false.2]
                obtain ⟨rr, hrr⟩ := flatten_prefix (xss := xss) (i := i) (j := j + 1) (by omega)
                refine not_right_of_prefix hrr (fun hh => ?_)
                rw [List.take_succ_eq_append_getElem (by omega), ← List.append_assoc] at hh
                have := (List.nodup_append.1 hh.2).2.2 _ hin _ (List.mem_singleton.2 rfl)
                exact this rfl
              · refine E.regionP rfl ?_
                refine R.move ?_
                refine R.lss (b := false) rfl rfl (decide_eq_false (by omega)) ?_
                refine R.move ?_
                refine R.gT rfl rfl ?_
                refine R.move ?_
                refine R.gT rfl rfl ?_
                refine R.gtr (b := false) rfl rfl (decide_eq_false (by omega)) ?_
                refine R.pickF rfl ?_
                refine R.move ?_
                refine R.gT rfl rfl ?_
                refine R.move ?_
                refine R.gT rfl rfl ?_
                refine R.move ?_
                refine R.gT rfl rfl ?_
                refine R.look Try.underlying97 Try.underlying3 t3 hM50 rfl rfl trivial ?_
                refine R.gT rfl rfl ?_
                refine R.gtr (b := false) rfl rfl (decide_eq_false (by rw [mget_mset, if_pos rfl, hg, if_neg hin]; decide)) ?_
                refine R.pickF rfl ?_
                refine R.nil ?_
                refine E.condF rfl ?_
                refine E.skip ?_
                refine E.regionP rfl ?_
                refine R.addN (n := 1) rfl rfl (by omega) ?_
                refine R.move ?_
                refine R.nil ?_
                refine ⟨xss[i].length - (j + 1), by omega, j + 1, _, rfl, by omega, hE, hB1, hM50, ?_, rfl, rfl, rfl, rfl, rfl, rfl, rfl, rfl, trivial⟩
                rw [List.take_succ_eq_append_getElem (by omega), ← List.append_assoc]
                exact hK.snoc (by omega) (by omega) hin (by rw [hg, if_neg hin]; rfl)
            · replace hc44 := dF hc44
              refine E.exit ?_
              refine E.regionP rfl ?_
              refine R.addN (n := 1) rfl rfl (by omega) ?_
              refine R.move ?_
              refine R.nil ?_
              refine ⟨xss.length - (i + 1), by omega, i + 1, M, rfl, by omega, hE, hB1, hM, ?_, ?_, rfl, rfl, rfl, rfl, rfl, trivial⟩
              · intro xs hxs
                rw [List.take_succ_eq_append_getElem (by omega)] at hxs
                rcases List.mem_append.1 hxs with hxs | hxs
                · exact hs xs hxs
                · simp at hxs; subst hxs; omega
              · rw [flatten_take_succ (by omega)]
                have hjl : j = xss[i].length := by omega
                rwa [hjl, List.take_length] at hK
      · replace hc33 := dF hc33
        refine E.exit ?_
        refine E.seq ?_
        refine E.regionP rfl ?_
        refine R.assign ?_
        refine R.nil ?_
        refine E.ret ?_
        refine ret1 (.bool true) rfl rfl ⟨_, rfl, hE, ?_⟩
        obtain rfl : i = xss.length := by omega
        rw [List.take_length] at hK hs
        rw [rightB_true.2]
        exact ⟨by omega, by omega, by omega, by omega, hs, hK.range, hK.nodup⟩
end Go.Proofs.Ytfdmndkoiheebaa
