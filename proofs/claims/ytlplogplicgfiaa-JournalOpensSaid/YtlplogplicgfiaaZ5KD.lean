import Derived.Test.YtlplogplicgfiaaZ5KC
namespace Go.Proofs.Ytlplogplicgfiaa
open Go Go.RowKit
set_option maxHeartbeats 800000 in
theorem rbefore_ (w : World) {rb rd : Value} {r : Dk} {a num : Nat} (hR : RD w rb rd r) (hbl : r.bl.length ≤ 2000) (hn2 : r.bl.length / 2 = r.n) (hn : 0 < r.n) (ha : a < r.n) (hnum : 1 ≤ num) (hnm : num ≤ 9223372036854775807) : Calls Try.prog 61 #[.agg #[rb, rd, .int .i64 r.pw, .bool r.tr], .int .i64 (a : Nat), .int .i64 (num : Nat)] w (Ret fun x w' => Ext w w' ∧ BfRes w' x r (beforeL r a num)) := by
  have hnl := r.n_le
  refine calls_E (args := [.agg #[rb, rd, .int .i64 (r.pw), .bool (r.tr)], .int .i64 ((a : Nat) : Int), .int .i64 ((num : Nat) : Int)]) 79 Try.func61 rfl rfl (by simp) ?_
  have hE : Ext w w := Upd.refl w
  refine E.seq ?_
  refine E.regionP rfl ?_
  refine R.box rfl nofun ?_
  intro b3 w1 hb3 hx1 hB3
  replace hb3 := Nat.le_trans hE.size hb3
  replace hR := hR.ext hx1
  replace hE := hE.ext hx1
  replace hB3 : Blk _ b3 31 #[rb, rd, .int .i64 (r.pw), .bool (r.tr)] := hB3
  refine R.assign ?_
  refine R.assign ?_
  refine R.nil ?_
  refine E.seq ?_
  refine E.regionP rfl ?_
  refine R.fld fa31_0 rfl ?_
  refine R.loadB t29 hB3 rfl rfl rfl trivial ?_
  refine R.len Try.underlying29 hR.bls.row rfl ?_
  refine R.quoN (m := r.bl.length) (n := 2) rfl rfl (by omega) (by omega) ?_
  rw [hn2]
  refine R.assign ?_
  refine R.nil ?_
  refine E.seq ?_
  refine E.regionP rfl ?_
  refine R.move ?_
  refine R.sub (m := ((a : Nat) : Int)) (n := 1) rfl rfl (by omega) (by omega) ?_
  refine R.assign ?_
  refine R.nil ?_
  refine E.seq ?_
  refine E.seq ?_
  refine E.regionP rfl ?_
  refine R.move ?_
  refine R.lss (b := decide ((((a : Nat) : Int) - 1) < (((0 : Nat) : Int)))) rfl rfl rfl ?_
  refine R.nil ?_
  refine E.cutM (fun e wr => RD wr rb rd r ∧ Blk wr b3 31 #[rb, rd, .int .i64 (r.pw), .bool (r.tr)] ∧ Ext w wr ∧ Has e [(2, .int .i64 ((num : Nat) : Int)), (3, .pointer (some ⟨b3, 0, none⟩)), (8, .int .i64 ((r.n : Nat) : Int)), (9, .int .i64 ((((a + r.n - 1) % r.n) : Nat) : Int))]) ?_ ?_
  · refine E.cond (b := decide ((((a : Nat) : Int) - 1) < (((0 : Nat) : Int)))) rfl (fun hc22 => ?_) (fun hc22 => ?_)
    · replace hc22 := dT hc22
      refine E.regionP rfl ?_
      refine R.move ?_
      refine R.subN (m := r.n) (n := 1) rfl rfl (by omega) (by omega) ?_
      refine R.assign ?_
      refine R.nil ?_
      obtain rfl : a = 0 := by omega
      exact ⟨hR, hB3, hE, rfl, rfl, rfl, (by show Value.int _ _ = _; rw [show (0 + r.n - 1) % r.n = r.n - 1 from by rw [Nat.zero_add]; exact Nat.mod_eq_of_lt (by omega)]), trivial⟩
    · replace hc22 := dF hc22
      refine E.skip ?_
      exact ⟨hR, hB3, hE, rfl, rfl, rfl, (by show Value.int _ _ = _; rw [show (a + r.n - 1) % r.n = a - 1 from by rw [show a + r.n - 1 = (a - 1) + r.n from by omega, Nat.add_mod_right]; exact Nat.mod_eq_of_lt (by omega)]; congr 1; omega), trivial⟩
  · rintro e wr ⟨hR, hB3, hE, hH⟩
    obtain ⟨e, rfl⟩ := hH.ex
    clear hH
    refine E.seq ?_
    refine E.seq ?_
    refine E.regionP rfl ?_
    refine R.assign ?_
    refine R.nil ?_
    refine E.block ?_
    refine E.loop (fun n e wr => ∃ (t : Nat), n = 2 - t ∧ t ≤ 2 ∧ (∀ j, j < t → bAt r ((a + r.n - 1) % r.n) num j = none) ∧ RD wr rb rd r ∧ Blk wr b3 31 #[rb, rd, .int .i64 (r.pw), .bool (r.tr)] ∧ Ext w wr ∧ Has e [(2, .int .i64 ((num : Nat) : Int)), (3, .pointer (some ⟨b3, 0, none⟩)), (8, .int .i64 ((r.n : Nat) : Int)), (9, .int .i64 ((((a + r.n - 1) % r.n) : Nat) : Int)), (10, .int .i64 ((t : Nat) : Int))]) (2) ?_ ?_
    · exact ⟨0, rfl, by omega, fun _ h => absurd h (Nat.not_lt_zero _), hR, hB3, hE, rfl, rfl, rfl, rfl, rfl, trivial⟩
    · rintro n e wr ⟨t, rfl, ht, hz, hR, hB3, hE, hH⟩
      obtain ⟨e, rfl⟩ := hH.ex
      clear hH
      refine E.seq ?_
      refine E.seq ?_
      refine E.regionP rfl ?_
      refine R.move ?_
      refine R.lss (b := decide ((((t : Nat) : Int)) < (((2 : Nat) : Int)))) rfl rfl rfl ?_
      refine R.nil ?_
      refine E.cond (b := decide ((((t : Nat) : Int)) < (((2 : Nat) : Int)))) rfl (fun hc26 => ?_) (fun hc26 => ?_)
      · replace hc26 := dT hc26
        have ht1 : t * r.n ≤ 1 * r.n := Nat.mul_le_mul_right _ (by omega)
        have hel := Nat.mod_lt (a + r.n - 1) hn
        refine E.skip ?_
        refine E.seq ?_
        refine E.block ?_
        refine E.seq ?_
        refine E.regionP rfl ?_
        refine R.loadA t31 hB3 rfl rfl rfl trivial ?_
        refine R.move ?_
        refine R.move ?_
        refine R.move ?_
        refine R.mulN (m := t) (n := r.n) rfl rfl (by omega) ?_
        refine R.addN (m := (((a + r.n - 1) % r.n))) (n := (t * r.n)) rfl rfl (by omega) ?_
        refine R.callE2 ent70 (rtake_ _ hR (by omega)) rfl rfl nofun ?_
        rintro v36 w2 hx2 hT36
        have hE0 := hE
        replace hR := hR.ext hx2
        replace hB3 := hB3.ext hx2
        replace hE := hE.ext hx2
        have hk36 := takeCases (blkO (r.read (((((a + r.n - 1) % r.n)) + (t * r.n) : Nat) : Int)))
        rcases hk36 with hk36 | ⟨g36, j36, dt36, hk36⟩
        · replace hk36 : tk r (((((a + r.n - 1) % r.n)) + (t * r.n) : Nat) : Int) = none := hk36
          rw [hk36] at hT36
          replace hT36 : _ = Value.tuple _ := hT36
          subst hT36
          refine R.move ?_
          refine R.extract rfl rfl ?_
          refine R.extract rfl rfl ?_
          refine R.alloc t120 nofun ?_
          intro b11 w3 hb11 hx3 hB11
          replace hb11 := Nat.le_trans hE.size hb11
          replace hR := hR.ext hx3
          replace hB3 := hB3.ext hx3
          replace hE := hE.ext hx3
          replace hB11 : Blk _ b11 120 #[.int .i64 ((0 : Nat) : Int), .int .i64 ((0 : Nat) : Int), .int .i64 ((0 : Nat) : Int), .int .i64 ((0 : Nat) : Int), .int .i64 ((0 : Nat) : Int), .slice none 0 0] := hB11
          refine R.storeA t120 hB11 rfl rfl rfl rfl (ones6 rfl rfl rfl rfl rfl rfl) nofun ?_
          intro w4 hU4 hs4 hN4
          replace hR := hR.upT hU4 hB11 (by decide)
          replace hB3 := hB3.upT hU4 hB11 (by decide)
          replace hE := hE.own hU4 hb11
          replace hB11 : Blk _ b11 120 #[.int .i64 ((0 : Nat) : Int), .int .i64 ((0 : Nat) : Int), .int .i64 ((0 : Nat) : Int), .int .i64 ((0 : Nat) : Int), .int .i64 ((0 : Nat) : Int), .slice none 0 0] := hN4
          clear hN4
          refine R.assign ?_
          refine R.nil ?_
          refine E.seq ?_
          refine E.forget [(2, .int .i64 ((num : Nat) : Int)), (3, .pointer (some ⟨b3, 0, none⟩)), (8, .int .i64 ((r.n : Nat) : Int)), (9, .int .i64 ((((a + r.n - 1) % r.n) : Nat) : Int)), (10, .int .i64 ((t : Nat) : Int)), (11, .pointer (some ⟨b11, 0, none⟩)), (12, .bool (false))] ⟨rfl, rfl, rfl, rfl, rfl, rfl, rfl, trivial⟩ (fun e => ?_)
          refine E.regionP rfl ?_
          refine R.move ?_
          refine R.move ?_
          refine R.gF rfl rfl rfl ?_
          refine R.gF rfl rfl rfl ?_
          refine R.gF rfl rfl rfl ?_
          refine R.gF rfl rfl rfl ?_
          refine R.gF rfl rfl rfl ?_
          refine R.pickF rfl ?_
          refine R.move ?_
          refine R.gF rfl rfl rfl ?_
          refine R.gF rfl rfl rfl ?_
          refine R.gF rfl rfl rfl ?_
          refine R.gF rfl rfl rfl ?_
          refine R.gF rfl rfl rfl ?_
          refine R.gF rfl rfl rfl ?_
          refine R.pickF rfl ?_
          refine R.move ?_
          refine R.gF rfl rfl rfl ?_
          refine R.gF rfl rfl rfl ?_
          refine R.gF rfl rfl rfl ?_
          refine R.gF rfl rfl rfl ?_
          refine R.pickF rfl ?_
          refine R.nil ?_
          refine E.condF rfl ?_
          refine E.skip ?_
          refine E.forget [(2, .int .i64 ((num : Nat) : Int)), (3, .pointer (some ⟨b3, 0, none⟩)), (8, .int .i64 ((r.n : Nat) : Int)), (9, .int .i64 ((((a + r.n - 1) % r.n) : Nat) : Int)), (10, .int .i64 ((t : Nat) : Int))] ⟨rfl, rfl, rfl, rfl, rfl, trivial⟩ (fun e => ?_)
          refine E.regionP rfl ?_
          refine R.move ?_
          refine R.addN (m := t) (n := 1) rfl rfl (by omega) ?_
          refine R.assign ?_
          refine R.nil ?_
          exact ⟨2 - (t + 1), by omega, t + 1, rfl, by omega, (snoc_none hz (bAt_none hk36)), hR, hB3, hE, rfl, rfl, rfl, rfl, rfl, trivial⟩
        · replace hk36 : tk r (((((a + r.n - 1) % r.n)) + (t * r.n) : Nat) : Int) = some (g36, j36, dt36) := hk36
          rw [hk36] at hT36
          obtain ⟨u36, rfl, hS36, hF36⟩ := hT36
          replace hF36 := hF36.mono hE0.size
          have htt36 := tk_total hk36
          have hto36 := tk_ok hR.ok hk36
          refine R.move ?_
          refine R.extract rfl rfl ?_
          refine R.extract rfl rfl ?_
          refine R.alloc t120 nofun ?_
          intro b11 w5 hb11 hx5 hB11
          replace hb11 := Nat.le_trans hE.size hb11
          replace hR := hR.ext hx5
          replace hS36 := hS36.ext hx5
          replace hB3 := hB3.ext hx5
          replace hE := hE.ext hx5
          replace hB11 : Blk _ b11 120 #[.int .i64 ((0 : Nat) : Int), .int .i64 ((0 : Nat) : Int), .int .i64 ((0 : Nat) : Int), .int .i64 ((0 : Nat) : Int), .int .i64 ((0 : Nat) : Int), .slice none 0 0] := hB11
          refine R.storeA t120 hB11 rfl rfl rfl rfl (ones6 rfl rfl rfl rfl rfl hS36.one) nofun ?_
          intro w6 hU6 hs6 hN6
          replace hR := hR.upT hU6 hB11 (by decide)
          replace hS36 := hS36.upT hU6 hB11 (by decide)
          replace hB3 := hB3.upT hU6 hB11 (by decide)
          replace hE := hE.own hU6 hb11
          replace hB11 : Blk _ b11 120 #[.int .i64 ((j36 : Nat) : Int), .int .i64 ((g36.total : Nat) : Int), .int .i64 ((g36.number : Nat) : Int), .int .i64 ((g36.life : Nat) : Int), .int .i64 ((g36.first : Nat) : Int), u36] := hN6
          clear hN6
          refine R.assign ?_
          refine R.nil ?_
          refine E.seq ?_
          refine E.forget [(2, .int .i64 ((num : Nat) : Int)), (3, .pointer (some ⟨b3, 0, none⟩)), (8, .int .i64 ((r.n : Nat) : Int)), (9, .int .i64 ((((a + r.n - 1) % r.n) : Nat) : Int)), (10, .int .i64 ((t : Nat) : Int)), (11, .pointer (some ⟨b11, 0, none⟩)), (12, .bool (true))] ⟨rfl, rfl, rfl, rfl, rfl, rfl, rfl, trivial⟩ (fun e => ?_)
          refine E.regionP rfl ?_
          refine R.move ?_
          refine R.move ?_
          refine R.gT rfl rfl ?_
          refine R.fld fa120_2 rfl ?_
          refine R.gT rfl rfl ?_
          refine R.loadB t3 hB11 rfl rfl rfl trivial ?_
          refine R.gT rfl rfl ?_
          refine R.move ?_
          refine R.gT rfl rfl ?_
          refine R.subN (m := num) (n := 1) rfl rfl (by omega) (by omega) ?_
          refine R.gT rfl rfl ?_
          refine R.eql (b := decide ((((g36.number : Nat) : Int)) = (((num - 1 : Nat) : Int)))) rfl rfl rfl ?_
          refine R.pickT rfl ?_
          refine R.move ?_
          have hg47 := Bool.eq_false_or_eq_true (decide ((((g36.number : Nat) : Int)) = (((num - 1 : Nat) : Int))))
          rcases hg47 with hg47 | hg47
          · have hg47q := hg47
            replace hg47 := dT hg47
            refine R.gT rfl (congrArg Value.bool hg47q) ?_
            refine R.fld fa120_0 rfl ?_
            refine R.gT rfl (congrArg Value.bool hg47q) ?_
            refine R.loadB t3 hB11 rfl rfl rfl trivial ?_
            refine R.gT rfl (congrArg Value.bool hg47q) ?_
            refine R.fld fa120_1 rfl ?_
            refine R.gT rfl (congrArg Value.bool hg47q) ?_
            refine R.loadB t3 hB11 rfl rfl rfl trivial ?_
            refine R.gT rfl (congrArg Value.bool hg47q) ?_
            refine R.subN (m := g36.total) (n := 1) rfl rfl (by omega) (by omega) ?_
            refine R.gT rfl (congrArg Value.bool hg47q) ?_
            refine R.eql (b := decide ((((j36 : Nat) : Int)) = (((g36.total - 1 : Nat) : Int)))) rfl rfl rfl ?_
            refine R.pickT (congrArg Value.bool hg47q) ?_
            refine R.move ?_
            have hg55 := Bool.eq_false_or_eq_true (decide ((((j36 : Nat) : Int)) = (((g36.total - 1 : Nat) : Int))))
            rcases hg55 with hg55 | hg55
            · have hg55q := hg55
              replace hg55 := dT hg55
              refine R.gT rfl (congrArg Value.bool hg55q) ?_
              refine R.fld fa120_1 rfl ?_
              refine R.gT rfl (congrArg Value.bool hg55q) ?_
              refine R.loadB t3 hB11 rfl rfl rfl trivial ?_
              refine R.gT rfl (congrArg Value.bool hg55q) ?_
              refine R.move ?_
              refine R.gT rfl (congrArg Value.bool hg55q) ?_
              refine R.leq (b := decide ((((g36.total : Nat) : Int)) ≤ (((r.n : Nat) : Int)))) rfl rfl rfl ?_
              refine R.pickT (congrArg Value.bool hg55q) ?_
              refine R.nil ?_
              refine E.cond (b := decide ((((g36.total : Nat) : Int)) ≤ (((r.n : Nat) : Int)))) rfl (fun hc60 => ?_) (fun hc60 => ?_)
              · replace hc60 := dT hc60
                refine E.seq ?_
                refine E.forget [(2, .int .i64 ((num : Nat) : Int)), (3, .pointer (some ⟨b3, 0, none⟩)), (8, .int .i64 ((r.n : Nat) : Int)), (9, .int .i64 ((((a + r.n - 1) % r.n) : Nat) : Int)), (10, .int .i64 ((t : Nat) : Int)), (11, .pointer (some ⟨b11, 0, none⟩))] ⟨rfl, rfl, rfl, rfl, rfl, rfl, trivial⟩ (fun e => ?_)
                refine E.regionP rfl ?_
                refine R.move ?_
                refine R.fld fa120_0 rfl ?_
                refine R.loadB t3 hB11 rfl rfl rfl trivial ?_
                refine R.sub (m := ((((a + r.n - 1) % r.n) : Nat) : Int)) (n := ((j36 : Nat) : Int)) rfl rfl (by omega) (by omega) ?_
                refine R.assign ?_
                refine R.nil ?_
                refine E.seq ?_
                refine E.seq ?_
                refine E.regionP rfl ?_
                refine R.move ?_
                refine R.lss (b := decide (((((((a + r.n - 1) % r.n) : Nat) : Int) - ((j36 : Nat) : Int))) < (((0 : Nat) : Int)))) rfl rfl rfl ?_
                refine R.nil ?_
                refine E.cutM (fun e wr => RD wr rb rd r ∧ SU8s wr u36 dt36 ∧ Blk wr b3 31 #[rb, rd, .int .i64 (r.pw), .bool (r.tr)] ∧ Blk wr b11 120 #[.int .i64 ((j36 : Nat) : Int), .int .i64 ((g36.total : Nat) : Int), .int .i64 ((g36.number : Nat) : Int), .int .i64 ((g36.life : Nat) : Int), .int .i64 ((g36.first : Nat) : Int), u36] ∧ Ext w wr ∧ Has e [(2, .int .i64 ((num : Nat) : Int)), (3, .pointer (some ⟨b3, 0, none⟩)), (8, .int .i64 ((r.n : Nat) : Int)), (9, .int .i64 ((((a + r.n - 1) % r.n) : Nat) : Int)), (10, .int .i64 ((t : Nat) : Int)), (11, .pointer (some ⟨b11, 0, none⟩)), (13, .int .i64 ((((((a + r.n - 1) % r.n) + r.n - j36) % r.n) : Nat) : Int))]) ?_ ?_
                · refine E.cond (b := decide (((((((a + r.n - 1) % r.n) : Nat) : Int) - ((j36 : Nat) : Int))) < (((0 : Nat) : Int)))) rfl (fun hc66 => ?_) (fun hc66 => ?_)
                  · replace hc66 := dT hc66
                    refine E.regionP rfl ?_
                    refine R.move ?_
                    refine R.move ?_
                    refine R.add (m := (((((a + r.n - 1) % r.n) : Nat) : Int) - ((j36 : Nat) : Int))) (n := ((r.n : Nat) : Int)) rfl rfl (by omega) (by omega) ?_
                    refine R.assign ?_
                    refine R.nil ?_
                    exact ⟨hR, hS36, hB3, hB11, hE, rfl, rfl, rfl, rfl, rfl, rfl, (by show Value.int _ _ = _; rw [show ((((a + r.n - 1) % r.n) + r.n - j36) % r.n) = ((a + r.n - 1) % r.n) + r.n - j36 from Nat.mod_eq_of_lt (by omega)]; congr 1; omega), trivial⟩
                  · replace hc66 := dF hc66
                    refine E.skip ?_
                    exact ⟨hR, hS36, hB3, hB11, hE, rfl, rfl, rfl, rfl, rfl, rfl, (by show Value.int _ _ = _; rw [show ((((a + r.n - 1) % r.n) + r.n - j36) % r.n) = ((a + r.n - 1) % r.n) - j36 from by rw [show ((a + r.n - 1) % r.n) + r.n - j36 = (((a + r.n - 1) % r.n) - j36) + r.n from by omega, Nat.add_mod_right]; exact Nat.mod_eq_of_lt (by omega)]; congr 1; omega), trivial⟩
                · rintro e wr ⟨hR, hS36, hB3, hB11, hE, hH⟩
                  obtain ⟨e, rfl⟩ := hH.ex
                  clear hH
                  refine E.seq ?_
                  refine E.regionP rfl ?_
                  refine R.loadA t31 hB3 rfl rfl rfl trivial ?_
                  refine R.move ?_
                  refine R.loadA t120 hB11 rfl rfl rfl trivial ?_
                  refine R.callE3 ent71 (rfound_ _ (a := ((((a + r.n - 1) % r.n) + r.n - j36) % r.n)) (p := g36) hR (by have := Nat.mod_lt (((a + r.n - 1) % r.n) + r.n - j36) hn; omega) hn2 hn (by have := Nat.mod_lt (((a + r.n - 1) % r.n) + r.n - j36) hn; omega) (by omega) hS36.one) rfl rfl rfl nofun ?_
                  rintro v73 w7 hx7 hT73
                  replace hR := hR.ext hx7
                  replace hS36 := hS36.ext hx7
                  replace hB3 := hB3.ext hx7
                  replace hB11 := hB11.ext hx7
                  replace hE := hE.ext hx7
                  have hk73 := optCases (foundR r (((((a + r.n - 1) % r.n) + r.n - j36) % r.n)) g36)
                  rcases hk73 with hk73 | ⟨l73, hk73⟩
                  · rw [hk73] at hT73
                    replace hT73 : _ = Value.slice none 0 0 := hT73
                    subst hT73
                    refine R.assign ?_
                    refine R.nil ?_
                    refine E.seq ?_
                    refine E.regionP rfl ?_
                    refine R.move ?_
                    refine R.lenV Try.underlying115 rfl ?_
                    refine R.gtr (b := false) rfl rfl (by decide) ?_
                    refine R.nil ?_
                    refine E.condF rfl ?_
                    refine E.skip ?_
                    refine E.regionP rfl ?_
                    refine R.move ?_
                    refine R.addN (m := t) (n := 1) rfl rfl (by omega) ?_
                    refine R.assign ?_
                    refine R.nil ?_
                    exact ⟨2 - (t + 1), by omega, t + 1, rfl, by omega, (snoc_none hz (bAt_miss hk36 (findL_none hk73))), hR, hB3, hE, rfl, rfl, rfl, rfl, rfl, trivial⟩
                  · rw [hk73] at hT73
                    obtain ⟨us73, hP73⟩ := hT73
                    have hll := foundR_len hk73
                    refine R.assign ?_
                    refine R.nil ?_
                    refine E.seq ?_
                    refine E.regionP rfl ?_
                    refine R.move ?_
                    refine R.len Try.underlying115 hP73.sl.row rfl ?_
                    refine R.gtr (b := decide ((((0 : Nat) : Int)) < ((((l73).length : Nat) : Int)))) rfl rfl rfl ?_
                    refine R.nil ?_
                    refine E.cond (b := decide ((((0 : Nat) : Int)) < ((((l73).length : Nat) : Int)))) rfl (fun hc76 => ?_) (fun hc76 => ?_)
                    · replace hc76 := dT hc76
                      refine E.seq ?_
                      refine E.forget [(13, .int .i64 ((((((a + r.n - 1) % r.n) + r.n - j36) % r.n) : Nat) : Int)), (14, v73)] ⟨rfl, rfl, trivial⟩ (fun e => ?_)
                      refine E.regionP rfl ?_
                      refine R.move ?_
                      refine R.move ?_
                      refine R.assign ?_
                      refine R.assign ?_
                      refine R.nil ?_
                      refine E.ret ?_
                      refine ret2 (.int .i64 ((((((a + r.n - 1) % r.n) + r.n - j36) % r.n) : Nat) : Int)) (v73) rfl rfl rfl ⟨_, rfl, ?_⟩
                      refine ⟨hE, ?_⟩
                      unfold beforeL
                      rw [before_some (by omega) hz (bAt_hit hk36 (by omega) (findL_some hk73))]
                      exact ⟨_, _, _, rfl, hP73, hk73⟩
                    · replace hc76 := dF hc76
                      exact absurd hc76 (by omega)
              · replace hc60 := dF hc60
                refine E.skip ?_
                refine E.forget [(2, .int .i64 ((num : Nat) : Int)), (3, .pointer (some ⟨b3, 0, none⟩)), (8, .int .i64 ((r.n : Nat) : Int)), (9, .int .i64 ((((a + r.n - 1) % r.n) : Nat) : Int)), (10, .int .i64 ((t : Nat) : Int))] ⟨rfl, rfl, rfl, rfl, rfl, trivial⟩ (fun e => ?_)
                refine E.regionP rfl ?_
                refine R.move ?_
                refine R.addN (m := t) (n := 1) rfl rfl (by omega) ?_
                refine R.assign ?_
                refine R.nil ?_
                exact ⟨2 - (t + 1), by omega, t + 1, rfl, by omega, (snoc_none hz (bAt_off hk36 (by omega))), hR, hB3, hE, rfl, rfl, rfl, rfl, rfl, trivial⟩
            · have hg55q := hg55
              replace hg55 := dF hg55
              refine R.gF rfl (congrArg Value.bool hg55q) rfl ?_
              refine R.gF rfl (congrArg Value.bool hg55q) rfl ?_
              refine R.gF rfl (congrArg Value.bool hg55q) rfl ?_
              refine R.gF rfl (congrArg Value.bool hg55q) rfl ?_
              refine R.pickF (congrArg Value.bool hg55q) ?_
              refine R.nil ?_
              refine E.condF rfl ?_
              refine E.skip ?_
              refine E.forget [(2, .int .i64 ((num : Nat) : Int)), (3, .pointer (some ⟨b3, 0, none⟩)), (8, .int .i64 ((r.n : Nat) : Int)), (9, .int .i64 ((((a + r.n - 1) % r.n) : Nat) : Int)), (10, .int .i64 ((t : Nat) : Int))] ⟨rfl, rfl, rfl, rfl, rfl, trivial⟩ (fun e => ?_)
              refine E.regionP rfl ?_
              refine R.move ?_
              refine R.addN (m := t) (n := 1) rfl rfl (by omega) ?_
              refine R.assign ?_
              refine R.nil ?_
              exact ⟨2 - (t + 1), by omega, t + 1, rfl, by omega, (snoc_none hz (bAt_off hk36 (by omega))), hR, hB3, hE, rfl, rfl, rfl, rfl, rfl, trivial⟩
          · have hg47q := hg47
            replace hg47 := dF hg47
            refine R.gF rfl (congrArg Value.bool hg47q) rfl ?_
            refine R.gF rfl (congrArg Value.bool hg47q) rfl ?_
            refine R.gF rfl (congrArg Value.bool hg47q) rfl ?_
            refine R.gF rfl (congrArg Value.bool hg47q) rfl ?_
            refine R.gF rfl (congrArg Value.bool hg47q) rfl ?_
            refine R.gF rfl (congrArg Value.bool hg47q) rfl ?_
            refine R.pickF (congrArg Value.bool hg47q) ?_
            refine R.move ?_
            refine R.gF rfl rfl rfl ?_
            refine R.gF rfl rfl rfl ?_
            refine R.gF rfl rfl rfl ?_
            refine R.gF rfl rfl rfl ?_
            refine R.pickF rfl ?_
            refine R.nil ?_
            refine E.condF rfl ?_
            refine E.skip ?_
            refine E.forget [(2, .int .i64 ((num : Nat) : Int)), (3, .pointer (some ⟨b3, 0, none⟩)), (8, .int .i64 ((r.n : Nat) : Int)), (9, .int .i64 ((((a + r.n - 1) % r.n) : Nat) : Int)), (10, .int .i64 ((t : Nat) : Int))] ⟨rfl, rfl, rfl, rfl, rfl, trivial⟩ (fun e => ?_)
            refine E.regionP rfl ?_
            refine R.move ?_
            refine R.addN (m := t) (n := 1) rfl rfl (by omega) ?_
            refine R.assign ?_
            refine R.nil ?_
            exact ⟨2 - (t + 1), by omega, t + 1, rfl, by omega, (snoc_none hz (bAt_off hk36 (by omega))), hR, hB3, hE, rfl, rfl, rfl, rfl, rfl, trivial⟩
      · replace hc26 := dF hc26
        refine E.exit ?_
        refine E.seq ?_
        refine E.regionP rfl ?_
        refine R.assign ?_
        refine R.assign ?_
        refine R.nil ?_
        refine E.ret ?_
        refine ret2 (.int .i64 ((0 : Nat) : Int)) (.slice none 0 0) rfl rfl rfl ⟨_, rfl, ?_⟩
        refine ⟨hE, ?_⟩
        unfold beforeL
        rw [before_none (fun j hj => hz j (by omega))]
        rfl
end Go.Proofs.Ytlplogplicgfiaa
