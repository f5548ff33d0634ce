import Derived.Test.YtfdmndkoiheebaaZ16J15
namespace Go.Proofs.Ytfdmndkoiheebaa
open Go Go.RowKit
theorem YM.upS {w wr w' : World} {v x : Value} {xss : List (List Int)} {ty' : TypeId} {k' m : Nat} {ds : List Value} (h : YM w wr v xss) (u : Upd (fun b => vblk x = some b) wr w') (hx : Sl wr ty' k' x m ds) (hne : 35 ≠ ty' ∧ 3 ≠ ty') : YM w w' v xss := by
  rcases h with h | ⟨us, h⟩
  · exact .inl h
  · exact .inr ⟨us, h.upS u hx hne⟩
structure OverJ (ys : List (List Int)) (H : Nat) (ord : List Int) (nx a k : Nat) (ov : List Int) : Prop where
  good : GoodJ ys H ord nx
  ln : nx < ord.length
  la : a < ys.length
  lk : k < ys[a].length
  box : ys[a][k] = ord[nx]
  find : findL ys ord[nx] = some (a, k)
  over : (ys[a].drop (k + 1)).reverse = ov
section
variable {ys : List (List Int)} {H : Nat} {ord : List Int} {nx a k : Nat} {ov : List Int} {b : Int}
theorem OverJ.len (h : OverJ ys H ord nx a k ov) : ov.length + (k + 1) = (ys[a]'h.la).length := by
  have h1 := congrArg List.length h.over
  have h2 := h.lk
  simp at h1; omega
theorem OverJ.top (h : OverJ ys H ord nx a k (b :: ov)) : topL ys (a : Nat) = b := by
  have hl := h.len
  simp at hl
  have ha := h.la
  rw [topL_at ha (by omega)]
  have h1 := congrArg (fun l => l.head?) h.over
  simp only [List.head?_reverse, List.head?_cons, List.getLast?_drop] at h1
  rw [if_neg (by omega), List.getLast?_eq_getElem?, List.getElem?_eq_getElem (by omega)] at h1
  exact Option.some.inj h1
theorem OverJ.ne (h : OverJ ys H ord nx a k (b :: ov)) : topL ys (a : Nat) ≠ ord[nx]'h.ln := fun e => by
  have hl := h.len
  have ha := h.la
  simp at hl
  rw [topL_at ha (by omega), ← h.box] at e
  have := (h.good.right.inj ha (show ys[a].length - 1 < ys[a].length by omega) ha h.lk e).2
  omega
theorem OverJ.next (h : OverJ ys H ord nx a k (b :: ov)) {j : Nat} (hj : j < ys.length) (hja : j ≠ a) (hjH : ys[j].length ≠ H) : OverJ (shiftL ys H a j).1 H ord nx a k ov ∧ (shiftL ys H a j).2 = 0 ∧ doL ys H ord nx (b, ((a : Nat) : Int), (j : Nat)) = some ((shiftL ys H a j).1, nx) := by
  have hl := h.len
  have ha := h.la
  simp at hl
  obtain ⟨hs, hd⟩ := doL_shift (ord := ord) (nx := nx) h.good.right ha (by omega) hj hja hjH
  have ht := h.top
  rw [topL_at ha (by omega)] at ht
  rw [ht] at hd
  obtain ⟨hG, hF, _⟩ := h.good.reloc ha h.lk (by omega) hj hja hjH
  rw [h.box] at hF
  have hlen : (shiftL ys H a j).1.length = ys.length := shiftL_len
  obtain ⟨a', b', ha', hb', hl', e1, e2, hab, hn, he⟩ := shiftL_ok hs
  obtain rfl : a = a' := by omega
  have hrow : (shiftL ys H a j).1[a]'(by omega) = ys[a].dropLast := by simp only [he]; rw [List.getElem_set_self]
  refine ⟨⟨hG, h.ln, by omega, by rw [hrow]; simp; omega, by simp only [hrow]; rw [List.getElem_dropLast]; exact h.box, hF, ?_⟩, hs, hd⟩
  rw [hrow]
  have h1 := h.over
  have h2 : (ys[a].dropLast).drop (k + 1) = (ys[a].drop (k + 1)).dropLast := by
    rw [List.dropLast_eq_take, List.dropLast_eq_take, List.drop_take, List.length_drop]; congr 1; omega
  rw [h2]
  have h3 := congrArg List.tail h1
  rw [List.tail_reverse] at h3
  exact h3
theorem OverJ.leave (h : OverJ ys H ord nx a k []) : topL ys (a : Nat) = ord[nx]'h.ln ∧ doL ys H ord nx (ord[nx]'h.ln, ((a : Nat) : Int), -1) = some (ys.set a ((ys[a]'h.la).take k), nx + 1) ∧ GoodJ (ys.set a ((ys[a]'h.la).take k)) H ord (nx + 1) ∧ takeR ys H (ord[nx]'h.ln) = (ys.set a ((ys[a]'h.la).take k), (H : Int), 0) := by
  have hl := h.len
  have ha := h.la
  simp at hl
  obtain ⟨q1, q2⟩ := h.good.leave h.ln ha h.lk h.box (by omega)
  have hd : ys[a].dropLast = ys[a].take k := by rw [List.dropLast_eq_take]; congr 1; omega
  rw [hd] at q1 q2
  refine ⟨?_, q1, q2, ?_⟩
  · rw [topL_at ha (by omega), ← h.box]; congr 1; omega
  · have := h.good.right.take_top ha h.lk (by omega)
    rw [h.box] at this
    exact this
theorem OverJ.start {nx : Nat} (h : GoodJ ys H ord nx) (hn : nx < ord.length) : ∃ (a k : Nat) (ov : List Int), OverJ ys H ord nx a k ov ∧ aboveL ys H ord[nx] = (ov, 0) ∧ findV ys ord[nx] = .tuple #[.int .i64 (a : Nat), .int .i64 (k : Nat), .bool true] := by
  obtain ⟨a, k, ha, hk, hak, hF⟩ := h.at hn
  refine ⟨a, k, (ys[a].drop (k + 1)).reverse, ⟨h, hn, ha, hk, hak, hF, rfl⟩, ?_, ?_⟩
  · simp [aboveL, h.right.b, hF, ha]
  · simp [findV, hF]
end
set_option maxHeartbeats 3200000 in
theorem rRun (w : World) {v vo : Value} {h : Int} {us : List Value} {xss : List (List Int)} {ord : List Int} (hm : Mat w v us xss) (ho : Ints w vo ord) (hl : xss.length < 100000) (hx : ∀ xs ∈ xss, xs.length ≤ 10) (hol : ord.length < 100000) :
    Calls Try.prog 49 #[.agg #[v, .int .i64 h], vo] w (Ret fun r w' => Ext w w' ∧ ∃ u, r = .tuple #[u, .int .i64 (runR xss h ord).2] ∧ Steps w' u (runR xss h ord).1) := by
  cases hb : beginB xss h ord
  rotate_left
  · obtain ⟨hRP, hOP⟩ := beginB_right hb
    obtain ⟨H, rfl, hH0, hH6, hl30, hl1, hxH⟩ := rightB_nat hRP.b
    have hRR : runR xss H ord = runG H ord (7 * ord.length + 7) xss 0 [] := by simp [runR, hb]
    refine calls_E (args := [.agg #[v, .int .i64 H], vo]) 93 Try.func49 rfl rfl (by simp) ?_
    have hE : Ext w w := Upd.refl w
    refine E.seq ?_
    refine E.regionP rfl ?_
    refine R.box rfl nofun ?_
    intro b2 w1 hb2 hx1 hB2
    replace hb2 := Nat.le_trans hE.size hb2
    replace hE := hE.ext hx1
    replace hB2 : Blk _ b2 54 #[v, .int .i64 H] := hB2
    refine R.assign ?_
    refine R.assign ?_
    refine R.nil ?_
    refine E.seq ?_
    refine E.seq ?_
    refine E.regionP rfl ?_
    refine R.loadA t54 hB2 rfl rfl rfl trivial ?_
    refine R.move ?_
    refine R.callE2 ent88 (rRightO _ (hm.ext hE) (ho.ext hE) hl hx (by omega)) rfl rfl nofun ?_
    rintro v17 w2 hx2 rfl
    rw [hb]
    replace hB2 := hB2.ext hx2
    replace hE := hE.ext hx2
    refine R.not rfl ?_
    refine R.nil ?_
    refine E.condF rfl ?_
    refine E.skip ?_
    refine E.seq ?_
    refine E.regionP rfl ?_
    refine R.assign ?_
    refine R.nil ?_
    refine E.seq ?_
    refine E.seq ?_
    refine E.regionP rfl ?_
    refine R.assign ?_
    refine R.nil ?_
    refine E.block ?_
    refine E.loop (fun n e wr => ∃ (i fu : Nat) (ys : List (List Int)) (ov tv : Value) (acc : List (Int × Int × Int)), n = ord.length - i ∧ i ≤ ord.length ∧ GoodJ ys H ord i ∧ (∀ h : i < ord.length, 7 * (ord.length - i) + abv ys ord[i] ≤ fu) ∧ acc.length + fu ≤ 7 * ord.length + 7 ∧ runG H ord fu ys i acc = runG H ord (7 * ord.length + 7) xss 0 [] ∧ Ext w wr ∧ YM w wr ov ys ∧ Sl wr 117 3 tv acc.length (stepsC acc) ∧ Fresh w tv ∧ Blk wr b2 54 #[ov, .int .i64 H] ∧ Has e [(1, vo), (2, .pointer (some ⟨b2, 0, none⟩)), (6, tv), (7, .int .i64 (i : Nat))]) (ord.length) ?_ ?_
    · exact ⟨0, 7 * ord.length + 7, xss, v, _, [], rfl, Nat.zero_le _, GoodJ.start hb, fun h2 => by have := (GoodJ.start hb).abv_le ord[0]; omega, by simp, rfl, hE, .inl ⟨us, hm⟩, Sl.nil _ _ _, Fresh.nil _, hB2, rfl, rfl, rfl, rfl, trivial⟩
    · rintro n e wr ⟨i, fu, ys, ov, tv, acc, rfl, hi, hG, hmu, hsn, hq, hE, hY, hW, hf, hB2, hH⟩
      obtain ⟨e, rfl⟩ := hH.ex
      clear hH
      refine E.seq ?_
      refine E.seq ?_
      refine E.regionP rfl ?_
      refine R.move ?_
      refine R.move ?_
      refine R.len Try.underlying35 ho rfl ?_
      refine R.lss rfl rfl rfl ?_
      refine R.nil ?_
      refine E.cond rfl (fun hc22 => ?_) (fun hc22 => ?_)
      · replace hc22 := dT hc22
        have hn1 : i < ord.length := by omega
        have hmu := hmu hn1
        obtain ⟨a, k, lo, hJ, hab, hfv⟩ := OverJ.start hG hn1
        have hlen := hJ.len
        have hal := sum_lengths hG.right _ (List.getElem_mem hJ.la)
        refine E.skip ?_
        refine E.seq ?_
        refine E.block ?_
        refine E.seq ?_
        refine E.regionW (fun _ b => b < wr.heap.size) [] mixed rfl (by kernel_rfl) ?_
        intro w3 hx3 hh3
        replace hY := hY.ext hx3
        replace hW := hW.ext hx3
        replace hB2 := hB2.ext hx3
        replace hE := hE.ext hx3
        have hEs : Ext w3 w3 := Upd.refl _
        have hS0 := hx3.size
        have hSs : ∀ b, b < w3.heap.size → b < wr.heap.size := fun b hb => by rw [hh3] at hb; exact hb
        have hSa : ∀ b, b < w.heap.size → b < wr.heap.size := fun b hb => by have := hE.size; rw [hh3] at this; omega
        have hYs := hY
        have hWs := hW
        have hB2s := hB2
        refine R.loadAE t54 hB2s hEs rfl rfl rfl hSs ?_
        refine R.move ?_
        refine R.move ?_
        refine R.ix Try.underlying35 t3 (by decide) ho rfl rfl (by omega) ?_
        refine R.ldE t3 ho hE rfl (int_at (by omega)) rfl hSa ?_
        refine R.callE2 ent52 (rFindE _ (hY.mat hE).choose_spec hG.right.l6 hG.right.x6 hfv) rfl rfl (fun _ _ hb => Nat.lt_of_lt_of_le hb (Nat.le_trans hS0 hEs.size)) ?_
        rintro v31 w4 hx4 rfl
        replace hY := hY.ext hx4
        replace hW := hW.ext hx4
        replace hB2 := hB2.ext hx4
        replace hE := hE.ext hx4
        replace hEs := hEs.ext hx4
        refine R.move ?_
        refine R.extract rfl rfl ?_
        refine R.extract rfl rfl ?_
        refine R.extract rfl rfl ?_
        refine R.assign ?_
        refine R.assign ?_
        refine R.assign ?_
        refine R.nil ?_
        refine E.seq ?_
        refine E.regionW (fun _ b => b < w4.heap.size) [] mixed rfl (by kernel_rfl) ?_
        intro w5 hx5 hh5
        replace hY := hY.ext hx5
        replace hW := hW.ext hx5
        replace hB2 := hB2.ext hx5
        replace hE := hE.ext hx5
        have hEs : Ext w5 w5 := Upd.refl _
        have hS0 := hx5.size
        have hSs : ∀ b, b < w5.heap.size → b < w4.heap.size := fun b hb => by rw [hh5] at hb; exact hb
        have hSa : ∀ b, b < w.heap.size → b < w4.heap.size := fun b hb => by have := hE.size; rw [hh5] at this; omega
        have hYs := hY
        have hWs := hW
        have hB2s := hB2
        refine R.loadAE t54 hB2s hEs rfl rfl rfl hSs ?_
        refine R.move ?_
        refine R.move ?_
        refine R.ix Try.underlying35 t3 (by decide) ho rfl rfl (by omega) ?_
        refine R.ldE t3 ho hE rfl (int_at (by omega)) rfl hSa ?_
        refine R.callE2 ent53 (rAboveE _ (hY.mat hE).choose_spec (by have := hG.right.2.2.2.1; omega) (fun xs h => by have := sum_lengths hG.right xs h; omega) hab) rfl rfl (fun _ _ hb => Nat.lt_of_lt_of_le hb (Nat.le_trans hS0 hEs.size)) ?_
        rintro v41 w6 hx6 ⟨u41, rfl, hS41, hf41⟩
        replace hY := hY.ext hx6
        replace hW := hW.ext hx6
        replace hB2 := hB2.ext hx6
        replace hE := hE.ext hx6
        replace hEs := hEs.ext hx6
        refine R.move ?_
        refine R.extract rfl rfl ?_
        refine R.extract rfl rfl ?_
        refine R.assign ?_
        refine R.assign ?_
        refine R.nil ?_
        refine E.seq ?_
        refine E.seq ?_
        refine E.regionP rfl ?_
        refine R.assign ?_
        refine R.nil ?_
        refine E.block ?_
        refine E.loop (fun n e wr => ∃ (q fu : Nat) (ys : List (List Int)) (ov tv : Value) (acc : List (Int × Int × Int)), n = lo.length - q ∧ q ≤ lo.length ∧ OverJ ys H ord i a k (lo.drop q) ∧ 7 * (ord.length - i) + (lo.length - q) ≤ fu ∧ acc.length + fu ≤ 7 * ord.length + 7 ∧ runG H ord fu ys i acc = runG H ord (7 * ord.length + 7) xss 0 [] ∧ Ext w wr ∧ YM w wr ov ys ∧ Sl wr 117 3 tv acc.length (stepsC acc) ∧ Fresh w tv ∧ SInts wr u41 lo ∧ Blk wr b2 54 #[ov, .int .i64 H] ∧ Has e [(1, vo), (2, .pointer (some ⟨b2, 0, none⟩)), (6, tv), (7, .int .i64 (i : Nat)), (8, .int .i64 ((a : Nat) : Int)), (11, u41), (13, .int .i64 (q : Nat))]) (lo.length) ?_ ?_
        · exact ⟨0, fu, ys, ov, tv, acc, rfl, Nat.zero_le _, by simpa using hJ, by have e := hmu; simp only [abv, hJ.find] at e; rw [show ys.getD a [] = ys[a]'hJ.la by simp [hJ.la]] at e; omega, hsn, hq, hE, hY, hW, hf, hS41, hB2, rfl, rfl, rfl, rfl, rfl, rfl, rfl, trivial⟩
        · rintro n e wr ⟨q, fu, ys, ov, tv, acc, rfl, hqi, hJ, hmu, hsn, hq, hE, hY, hW, hf, hS41, hB2, hH⟩
          obtain ⟨e, rfl⟩ := hH.ex
          clear hH
          refine E.seq ?_
          refine E.seq ?_
          refine E.regionP rfl ?_
          refine R.move ?_
          refine R.move ?_
          refine R.len Try.underlying35 hS41.row rfl ?_
          refine R.lss rfl rfl rfl ?_
          refine R.nil ?_
          refine E.cond rfl (fun hc47 => ?_) (fun hc47 => ?_)
          · replace hc47 := dT hc47
            have hq1 : q < lo.length := by omega
            rw [List.drop_eq_getElem_cons hq1] at hJ
            have htop := hJ.top
            have hmu := hmu
            obtain ⟨n, rfl⟩ : ∃ m, fu = m + 1 := ⟨fu - 1, by omega⟩
            have hrl := hJ.good.right
            refine E.skip ?_
            refine E.seq ?_
            refine E.block ?_
            refine E.seq ?_
            refine E.regionP rfl ?_
            refine R.loadA t54 hB2 rfl rfl rfl trivial ?_
            refine R.move ?_
            refine R.move ?_
            refine R.callE3 ent89 (rBest _ (fr := ((a : Nat) : Int)) (hY.mat hE).choose_spec (ho.ext hE) hrl (by omega)) rfl rfl rfl nofun ?_
            rintro v53 w7 hx7 rfl
            replace hY := hY.ext hx7
            replace hW := hW.ext hx7
            replace hS41 := hS41.ext hx7
            replace hB2 := hB2.ext hx7
            replace hE := hE.ext hx7
            refine R.assign ?_
            refine R.nil ?_
            refine E.seq ?_
            refine E.seq ?_
            refine E.regionP rfl ?_
            refine R.move ?_
            refine R.lss rfl rfl rfl ?_
            refine R.nil ?_
            refine E.cond rfl (fun hc55 => ?_) (fun hc55 => ?_)
            · replace hc55 := dT hc55
              have hf4 := runG_full (acc := acc) (n := n) hn1 hJ.find hJ.ne hc55
              refine E.seq ?_
              refine E.regionP rfl ?_
              refine R.assign ?_
              refine R.assign ?_
              refine R.nil ?_
              refine E.ret ?_
              exact ret2 (.slice none 0 0) (.int .i64 4) rfl rfl rfl ⟨_, rfl, hE, _, by rw [hRR, ← hq, hf4], by rw [hRR, ← hq, hf4]; exact Row.nil _ _⟩
            · replace hc55 := dF hc55
              obtain ⟨j, hj, e1, hjf, hjH⟩ : ∃ (j : Nat) (hj : j < ys.length), (othB ys H ord ((a : Nat) : Int) ys.length).1 = j ∧ (j : Int) ≠ ((a : Nat) : Int) ∧ ys[j].length ≠ H := by
                rcases othB_spec (xss := ys) (H := H) (ord := ord) (fr := ((a : Nat) : Int)) ys.length (Nat.le_refl _) with q | ⟨j, hj, _, q1, q2, q3, _⟩
                · rw [q] at hc55; exact absurd hc55 (by decide)
                · exact ⟨j, hj, q1, q2, q3⟩
              obtain ⟨hJ1, hsh, hdo⟩ := hJ.next hj (by omega) hjH
              have hrl1 := runG_reloc (acc := acc) (n := n) hn1 hJ.find hJ.ne hc55 (ys := (shiftL ys H a j).1) (n' := i) (by rw [e1, htop]; exact hdo)
              rw [htop, e1] at hrl1
              rw [e1]
              refine E.skip ?_
              refine E.seq ?_
              refine E.regionP rfl ?_
              refine R.move ?_
              refine R.move ?_
              refine R.move ?_
              refine R.ix (m := q) Try.underlying35 t3 (by decide) hS41.row rfl rfl hq1 ?_
              refine R.ld (j := q) t3 hS41.row rfl (int_at hq1) rfl (fun _ _ => trivial) ?_
              refine R.move ?_
              refine R.move ?_
              refine R.build build117 rfl ?_
              refine R.buildSlice [.agg #[.int .i64 lo[q], .int .i64 ((a : Nat) : Int), .int .i64 ((j : Nat) : Int)]] Try.underlying78 t117 rfl rfl (by simp [Value.cells]) (by simp) nofun ?_
              intro b64 w8 hb64 hx8 hB64 hS64
              replace hb64 := Nat.le_trans hE.size hb64
              replace hY := hY.ext hx8
              replace hW := hW.ext hx8
              replace hS41 := hS41.ext hx8
              replace hB2 := hB2.ext hx8
              replace hE := hE.ext hx8
              refine R.append (m := 1) Try.underlying78 Try.underlying78 t117 (by decide) rfl hW hS64.row (by simp [cellsOf, Value.cells, Value.oneCell']) rfl rfl (by omega) (by omega) nofun ?_
              intro v65 w65 hU65 hS65 hd65
              replace hY := hY.upS hU65 hW (by decide)
              replace hB2 := hB2.upS hU65 hW (by decide)
              replace hS41 := hS41.upS hU65 hW (by decide)
              have hf65 := Fresh.app' hE.size hf hd65
              replace hE := hE.app hU65 hf
              replace hW : Sl w65 117 3 v65 (acc.length + 1) (stepsC (acc ++ [(lo[q], ((a : Nat) : Int), ((j : Nat) : Int))])) := by
                rw [stepsC_snoc]
                simpa [cellsOf, Value.cells] using hS65
              clear hS64 hS65 hd65
              refine R.assign ?_
              refine R.nil ?_
              refine E.regionP rfl ?_
              refine R.loadA t54 hB2 rfl rfl rfl trivial ?_
              refine R.move ?_
              refine R.move ?_
              refine R.build build53 rfl ?_
              refine R.callE2 ent58 (rShiftP _ (hY.mat hE).choose_spec (by have := hrl.2.2.2.1; omega) (fun xs h => by have := sum_lengths hrl xs h; omega) (hrl.shiftR_ok (f := ((a : Nat) : Int)) (t := ((j : Nat) : Int)) hsh)) rfl rfl nofun ?_
              rintro v71 w9 hx9 ⟨u71, us71, rfl, hM71⟩
              replace hY := hY.ext hx9
              replace hW := hW.ext hx9
              replace hS41 := hS41.ext hx9
              replace hB2 := hB2.ext hx9
              replace hE := hE.ext hx9
              refine R.move ?_
              refine R.extract rfl rfl ?_
              refine R.extract rfl rfl ?_
              refine R.storeA t54 hB2 rfl rfl rfl rfl (ones2 hM71.outer.one rfl) nofun ?_
              intro w100 hU100 hs100 hN100
              replace hW := hW.upT hU100 hB2 (by decide)
              replace hM71 := hM71.upT hU100 hB2 (by decide)
              replace hS41 := hS41.upT hU100 hB2 (by decide)
              replace hE := hE.own hU100 hb2
              replace hB2 : Blk _ b2 54 #[u71, .int .i64 H] := hN100
              replace hY : YM w w100 u71 _ := .inr ⟨_, hM71⟩
              refine R.nil ?_
              refine E.regionP rfl ?_
              refine R.move ?_
              refine R.addN (n := 1) rfl rfl (by omega) ?_
              refine R.assign ?_
              refine R.nil ?_
              exact ⟨lo.length - (q + 1), by omega, q + 1, n, _, u71, v65, acc ++ [(lo[q], ((a : Nat) : Int), ((j : Nat) : Int))], rfl, by omega, hJ1, by omega, by simp; omega, by rw [← hq, hrl1], hE, hY, by rw [List.length_append]; exact hW, hf65, hS41, hB2, rfl, rfl, rfl, rfl, rfl, rfl, rfl, trivial⟩
          · replace hc47 := dF hc47
            obtain rfl : q = lo.length := by omega
            rw [List.drop_length] at hJ
            obtain ⟨ht1, hdo, hG1, htk⟩ := hJ.leave
            obtain ⟨n, rfl⟩ : ∃ m, fu = m + 1 := ⟨fu - 1, by omega⟩
            have hrl1 := runG_leave (acc := acc) (n := n) hn1 hJ.find ht1 hdo
            have hrl := hJ.good.right
            refine E.exit ?_
            refine E.seq ?_
            refine E.regionP rfl ?_
            refine R.move ?_
            refine R.move ?_
            refine R.move ?_
            refine R.ix (m := i) Try.underlying35 t3 (by decide) ho rfl rfl hn1 ?_
            refine R.ld (j := i) t3 (ho.ext hE) rfl (int_at hn1) rfl (fun _ _ => trivial) ?_
            refine R.move ?_
            refine R.build build117 rfl ?_
            refine R.buildSlice [.agg #[.int .i64 ord[i], .int .i64 ((a : Nat) : Int), .int .i64 (-1)]] Try.underlying78 t117 rfl rfl (by simp [Value.cells]) (by simp) nofun ?_
            intro b81 w10 hb81 hx10 hB81 hS81
            replace hb81 := Nat.le_trans hE.size hb81
            replace hY := hY.ext hx10
            replace hW := hW.ext hx10
            replace hS41 := hS41.ext hx10
            replace hB2 := hB2.ext hx10
            replace hE := hE.ext hx10
            refine R.append (m := 1) Try.underlying78 Try.underlying78 t117 (by decide) rfl hW hS81.row (by simp [cellsOf, Value.cells, Value.oneCell']) rfl rfl (by omega) (by omega) nofun ?_
            intro v82 w82 hU82 hS82 hd82
            replace hY := hY.upS hU82 hW (by decide)
            replace hB2 := hB2.upS hU82 hW (by decide)
            have hf82 := Fresh.app' hE.size hf hd82
            replace hE := hE.app hU82 hf
            replace hW : Sl w82 117 3 v82 (acc.length + 1) (stepsC (acc ++ [(ord[i], ((a : Nat) : Int), -1)])) := by
              rw [stepsC_snoc]
              simpa [cellsOf, Value.cells] using hS82
            clear hS81 hS82 hd82
            refine R.assign ?_
            refine R.nil ?_
            refine E.regionW (fun c x => x < w82.heap.size ∧ (c = false → x ≠ b2)) [84]  mixed rfl (by kernel_rfl) ?_
            intro w11 hx11 hh11
            replace hY := hY.ext hx11
            replace hW := hW.ext hx11
            replace hB2 := hB2.ext hx11
            replace hE := hE.ext hx11
            have hEs : Ext w11 w11 := Upd.refl _
            have hS0 := hx11.size
            have hSB : ∀ b, b < w11.heap.size → b < w82.heap.size ∧ (true = false → (fun x => x ≠ b2) b) := fun b hb => ⟨by rw [hh11] at hb; exact hb, nofun⟩
            have hSA : ∀ b, b < w11.heap.size → (fun x => x ≠ b2) b → b < w82.heap.size ∧ (false = false → (fun x => x ≠ b2) b) := fun b hb h => ⟨by rw [hh11] at hb; exact hb, fun _ => h⟩
            have hSO : ∀ b, b < w.heap.size → b < w82.heap.size ∧ (false = false → (fun x => x ≠ b2) b) := fun b hb => hSA b (Nat.lt_of_lt_of_le hb hE.size) (fun e => by omega)
            have hYs := hY
            have hWs := hW
            have hB2s := hB2
            refine R.loadA t54 hB2 rfl rfl rfl (hSB b2 hB2s.lt) ?_
            refine R.move ?_
            refine R.move ?_
            refine R.ix Try.underlying35 t3 (by decide) ho rfl rfl (by omega) ?_
            refine R.ldE t3 ho hE rfl (int_at (by omega)) rfl hSO ?_
            refine R.callE2 ent59 (rTakeP _ (hY.mat hE).choose_spec (by have := hrl.2.2.2.1; omega) (fun xs h => by have := sum_lengths hrl xs h; omega) htk) rfl rfl (fun _ _ hb => Nat.lt_of_lt_of_le hb.1 (Nat.le_trans hS0 hEs.size)) ?_
            rintro v89 w12 hx12 ⟨u89, us89, rfl, hM89⟩
            replace hY := hY.ext hx12
            replace hW := hW.ext hx12
            replace hB2 := hB2.ext hx12
            replace hE := hE.ext hx12
            replace hEs := hEs.ext hx12
            refine R.move ?_
            refine R.extract rfl rfl ?_
            refine R.extract rfl rfl ?_
            refine R.storeA t54 hB2 rfl rfl rfl rfl (ones2 hM89.outer.one rfl) (fun _ h => h.2 rfl rfl) ?_
            intro w101 hU101 hs101 hN101
            replace hW := hW.upT hU101 hB2 (by decide)
            replace hM89 := hM89.upT hU101 hB2 (by decide)
            replace hE := hE.own hU101 hb2
            replace hB2 : Blk _ b2 54 #[u89, .int .i64 H] := hN101
            replace hY : YM w w101 u89 _ := .inr ⟨_, hM89⟩
            refine R.nil ?_
            refine E.regionP rfl ?_
            refine R.move ?_
            refine R.addN (n := 1) rfl rfl (by omega) ?_
            refine R.assign ?_
            refine R.nil ?_
            exact ⟨ord.length - (i + 1), by omega, i + 1, n, _, u89, v82, acc ++ [(ord[i], ((a : Nat) : Int), -1)], rfl, by omega, hG1, fun h2 => by have := hG1.abv_le ord[i + 1]; omega, by simp; omega, by rw [← hq, hrl1], hE, hY, by rw [List.length_append]; exact hW, hf82, hB2, rfl, rfl, rfl, rfl, trivial⟩
      · replace hc22 := dF hc22
        have hn : ¬ i < ord.length := by omega
        rw [runG_end hn] at hq
        refine E.exit ?_
        refine E.seq ?_
        refine E.regionP rfl ?_
        refine R.move ?_
        refine R.assign ?_
        refine R.assign ?_
        refine R.nil ?_
        refine E.ret ?_
        exact ret2 tv (.int .i64 0) rfl rfl rfl ⟨_, rfl, hE, tv, by rw [hRR, ← hq], by rw [hRR, ← hq]; exact hW.row⟩
  · refine calls_E (args := [.agg #[v, .int .i64 h], vo]) 93 Try.func49 rfl rfl (by simp) ?_
    have hE : Ext w w := Upd.refl w
    refine E.seq ?_
    refine E.regionP rfl ?_
    refine R.box rfl nofun ?_
    intro b2 w1 hb2 hx1 hB2
    replace hb2 := Nat.le_trans hE.size hb2
    replace hE := hE.ext hx1
    replace hB2 : Blk _ b2 54 #[v, .int .i64 h] := hB2
    refine R.assign ?_
    refine R.assign ?_
    refine R.nil ?_
    refine E.seq ?_
    refine E.seq ?_
    refine E.regionP rfl ?_
    refine R.loadA t54 hB2 rfl rfl rfl trivial ?_
    refine R.move ?_
    refine R.callE2 ent88 (rRightO _ (hm.ext hE) (ho.ext hE) hl hx (by omega)) rfl rfl nofun ?_
    rintro v17 w2 hx2 rfl
    rw [hb]
    replace hB2 := hB2.ext hx2
    replace hE := hE.ext hx2
    refine R.not rfl ?_
    refine R.nil ?_
    refine E.condT rfl ?_
    refine E.seq ?_
    refine E.regionP rfl ?_
    refine R.assign ?_
    refine R.assign ?_
    refine R.nil ?_
    refine E.ret ?_
    exact ret2 (.slice none 0 0) (.int .i64 2) rfl rfl rfl ⟨_, rfl, hE, .slice none 0 0, by simp [runR, hb], by rw [show runR xss h ord = ([], 2) by simp [runR, hb]]; exact Row.nil _ _⟩
end Go.Proofs.Ytfdmndkoiheebaa
