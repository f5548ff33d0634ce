import Derived.Test.YtlplogplicgfiaaZ5QE
namespace Go.Proofs.Ytlplogplicgfiaa
open Go Go.RowKit
set_option maxHeartbeats 1600000 in
theorem journalOpens (w : World) {xb xd : Value} {d : Dk} (hxb : Row w 64 xb d.bl.length (blocksC d.bl)) (hxd : Row w 1 xd d.bad.length (bools d.bad)) (hok : ∀ b ∈ d.bl, BlockP b) (hbl : d.bl.length ≤ 9223372036854775807) (hbd : d.bad.length ≤ 9223372036854775807) (hpw : d.pw ≤ 9223372036854775807) (hpw2 : -9223372036854775808 ≤ d.pw) :
    Calls Try.prog 5 #[.agg #[xb, xd, .int .i64 d.pw, .bool d.tr]] w (Ret fun r w' => Ext w w' ∧ r = .bool true) := by
  refine calls_E (args := [.agg #[xb, xd, .int .i64 (d.pw), .bool (d.tr)]]) 45 Try.func5 rfl rfl (by simp) ?_
  have hE : Ext w w := Upd.refl w
  refine E.seq ?_
  refine E.regionP rfl ?_
  refine R.box rfl nofun ?_
  intro b1 w1 hb1 hx1 hB1
  replace hb1 := Nat.le_trans hE.size hb1
  replace hE := hE.ext hx1
  replace hB1 : Blk _ b1 25 #[xb, xd, .int .i64 (d.pw), .bool (d.tr)] := hB1
  refine R.assign ?_
  refine R.nil ?_
  refine E.seq ?_
  refine E.seq ?_
  refine E.regionP rfl ?_
  refine R.fld fa25_0 rfl ?_
  refine R.loadB t22 hB1 rfl rfl rfl trivial ?_
  refine R.len Try.underlying22 hxb rfl ?_
  refine R.gtr (b := decide ((((24 : Nat) : Int)) < (((d.bl.length : Nat) : Int)))) rfl rfl rfl ?_
  refine R.move ?_
  have hg10 := Bool.eq_false_or_eq_true (decide ((((24 : Nat) : Int)) < (((d.bl.length : Nat) : Int))))
  rcases hg10 with hg10 | hg10
  · have hg10q := hg10
    replace hg10 := dT hg10
    refine R.gF rfl (congrArg Value.bool hg10q) rfl ?_
    refine R.gF rfl (congrArg Value.bool hg10q) rfl ?_
    refine R.gF rfl (congrArg Value.bool hg10q) rfl ?_
    refine R.gF rfl (congrArg Value.bool hg10q) rfl ?_
    refine R.pickT (congrArg Value.bool hg10q) ?_
    refine R.nil ?_
    refine E.condT rfl ?_
    refine E.seq ?_
    refine E.forget [] trivial (fun e => ?_)
    refine E.regionP rfl ?_
    refine R.callE0 ent13 (awake_ _)  nofun ?_
    rintro v16 w2 hx2 rfl
    replace hB1 := hB1.ext hx2
    replace hE := hE.ext hx2
    refine R.assign ?_
    refine R.nil ?_
    refine E.ret ?_
    refine ret1 (.bool (true)) rfl rfl ⟨_, rfl, ?_⟩
    exact ⟨hE, rfl⟩
  · have hg10q := hg10
    replace hg10 := dF hg10
    refine R.gT rfl (congrArg Value.bool hg10q) ?_
    refine R.fld fa25_1 rfl ?_
    refine R.gT rfl (congrArg Value.bool hg10q) ?_
    refine R.loadB t23 hB1 rfl rfl rfl trivial ?_
    refine R.gT rfl (congrArg Value.bool hg10q) ?_
    refine R.len Try.underlying23 hxd rfl ?_
    refine R.gT rfl (congrArg Value.bool hg10q) ?_
    refine R.gtr (b := decide ((((24 : Nat) : Int)) < (((d.bad.length : Nat) : Int)))) rfl rfl rfl ?_
    refine R.pickF (congrArg Value.bool hg10q) ?_
    refine R.nil ?_
    refine E.cond (b := decide ((((24 : Nat) : Int)) < (((d.bad.length : Nat) : Int)))) rfl (fun hc15 => ?_) (fun hc15 => ?_)
    · replace hc15 := dT hc15
      refine E.seq ?_
      refine E.forget [] trivial (fun e => ?_)
      refine E.regionP rfl ?_
      refine R.callE0 ent13 (awake_ _)  nofun ?_
      rintro v16 w3 hx3 rfl
      replace hB1 := hB1.ext hx3
      replace hE := hE.ext hx3
      refine R.assign ?_
      refine R.nil ?_
      refine E.ret ?_
      refine ret1 (.bool (true)) rfl rfl ⟨_, rfl, ?_⟩
      exact ⟨hE, rfl⟩
    · replace hc15 := dF hc15
      refine E.skip ?_
      refine E.seq ?_
      refine E.forget [(1, .pointer (some ⟨b1, 0, none⟩))] ⟨rfl, trivial⟩ (fun e => ?_)
      have hW0 := hE.size
      refine E.regionF (fun c x => x < w1.heap.size ∧ (c = false → True)) [] [] mixed rfl (by kernel_rfl) (fun _ _ h => h.1) ?_
      intro w4 hx4 hh4
      replace hB1 := hB1.ext hx4
      replace hE := hE.ext hx4
      have hEs : Ext w4 w4 := Upd.refl _
      have hS0 := hx4.size
      have hSB : ∀ b, b < w4.heap.size → b < w1.heap.size ∧ (true = false → (fun x => True) b) := fun b hb => ⟨by rw [hh4] at hb; exact hb, nofun⟩
      have hSA : ∀ b, b < w4.heap.size → (fun x => True) b → b < w1.heap.size ∧ (false = false → (fun x => True) b) := fun b hb h => ⟨by rw [hh4] at hb; exact hb, fun _ => h⟩
      have hSO : ∀ b, b < w.heap.size → b < w1.heap.size ∧ (false = false → (fun x => True) b) := fun b hb => hSA b (Nat.lt_of_lt_of_le hb hE.size) (trivial)
      have hB1s := hB1
      refine G.buildSlice [] Try.underlying23 t4 rfl rfl (by simp [Value.cells]) (by simp) ?_
      intro w5 b17 K5 hx5 hb17 hn17 hK5 hk17 hS17
      have hn017 := hb17
      replace hb17 := Nat.le_trans hW0 hb17
      replace hB1 := hB1.ext hx5
      replace hE := hE.ext hx5
      replace hEs := hEs.ext hx5
      replace hS17 : Sl _ 4 1 (.slice (some ⟨b17, 0, none⟩) 0 0) 0 [] := hS17
      refine G.q rfl (Nat.le_of_ble_eq_true rfl) ?_
      refine R.fld fa25_1 rfl ?_
      refine R.nil ?_
      refine G.q rfl (Nat.le_of_ble_eq_true rfl) ?_
      refine R.loadB t23 hB1 rfl rfl rfl (hSA b1 hB1s.lt (trivial)) ?_
      refine R.nil ?_
      refine G.l rfl rfl (.inr rfl) (Nat.le_of_ble_eq_true rfl) ?_
      intro w6 hx6
      replace hS17 := hS17.ext hx6
      replace hB1 := hB1.ext hx6
      replace hE := hE.ext hx6
      replace hEs := hEs.ext hx6
      refine R.append Try.underlying23 Try.underlying23 t4 (by decide) rfl hS17 (hxd.ext hE) bools_one rfl rfl (by simp; omega) (by simp; omega) (fun _ b hb => ⟨G.S1_lt (fun _ _ h => h.1) (Nat.le_trans hS0 hEs.size) hb, fun e => by have e1 : b17 = b := Option.some.inj e; rw [← e1] at hb; exact G.S1_new (fun _ _ h => h.1) hn017 hk17 hb⟩) ?_
      intro v20 w7 hU7 hS20 hd7
      have hF20 := Fresh.app hE (Fresh.blk hb17) hd7
      replace hB1 := hB1.upS hU7 hS17 (by decide)
      replace hE := hE.app hU7 (Fresh.blk hb17)
      replace hEs := hEs.trans hU7 (fun c hc h => by have h1 := (show b17 = c from Option.some.inj h); rw [hh4] at hc; omega)
      replace hS20 : Sl w7 4 1 v20 d.bad.length (bools d.bad) := TA4 (xs := []) (ys := d.bad) hS20
      refine R.nil ⟨hU7.size, ?_⟩
      intro K6 hK6 hN6
      replace hk17 := hK6 _ hk17
      refine G.q rfl (Nat.le_of_ble_eq_true rfl) ?_
      refine R.fld fa25_2 rfl ?_
      refine R.nil ?_
      refine G.q rfl (Nat.le_of_ble_eq_true rfl) ?_
      refine R.loadB t3 hB1 rfl rfl rfl (hSA b1 hB1s.lt (trivial)) ?_
      refine R.nil ?_
      refine G.q rfl (Nat.le_of_ble_eq_true rfl) ?_
      refine R.fld fa25_3 rfl ?_
      refine R.nil ?_
      refine G.q rfl (Nat.le_of_ble_eq_true rfl) ?_
      refine R.loadB t4 hB1 rfl rfl rfl (hSA b1 hB1s.lt (trivial)) ?_
      refine R.nil ?_
      refine G.q rfl (Nat.le_of_ble_eq_true rfl) ?_
      refine R.build (bld31_1_2_3 hS20.one rfl rfl) rfl ?_
      refine R.nil ?_
      refine G.alloc t31 ?_
      intro w8 b3 K8 hx8 hb3 hn3 hK8 hk3 hB3
      replace hk17 := hK8 _ hk17
      have hn03 := hb3
      replace hb3 := Nat.le_trans hW0 hb3
      replace hS20 := hS20.ext hx8
      replace hB1 := hB1.ext hx8
      replace hE := hE.ext hx8
      replace hEs := hEs.ext hx8
      replace hB3 : Blk _ b3 31 #[.slice none 0 0, .slice none 0 0, .int .i64 ((0 : Nat) : Int), .bool (false)] := hB3
      refine G.l rfl rfl (.inr rfl) (Nat.le_of_ble_eq_true rfl) ?_
      intro w9 hx9
      replace hS20 := hS20.ext hx9
      replace hB1 := hB1.ext hx9
      replace hB3 := hB3.ext hx9
      replace hE := hE.ext hx9
      replace hEs := hEs.ext hx9
      refine R.storeA t31 hB3 rfl rfl rfl rfl (ones4 rfl hS20.one rfl rfl) (fun _ h => G.S1_new (fun _ _ h => h.1) hn03 hk3 h) ?_
      intro w10 hU10 hs10 hN10
      replace hS20 := hS20.upT hU10 hB3 (by decide)
      replace hB1 := hB1.upT hU10 hB3 (by decide)
      replace hE := hE.own hU10 hb3
      replace hEs := hEs.trans hU10 (fun c hc h => by have h1 : c = b3 := h; rw [hh4] at hc; omega)
      replace hB3 : Blk _ b3 31 #[.slice none 0 0, v20, .int .i64 (d.pw), .bool (d.tr)] := hN10
      clear hN10
      refine R.nil ⟨hU10.size, ?_⟩
      intro K9 hK9 hN9
      replace hk17 := hK9 _ hk17
      replace hk3 := hK9 _ hk3
      refine G.nil ?_
      refine E.seq ?_
      refine E.seq ?_
      refine E.regionP rfl ?_
      refine R.fld fa25_0 rfl ?_
      refine R.loadB t22 hB1 rfl rfl rfl trivial ?_
      refine R.len Try.underlying22 hxb rfl ?_
      refine R.move ?_
      refine R.nil ?_
      refine E.block ?_
      refine E.loop (fun n e wr => ∃ (q : Nat) (v : Value), n = d.bl.length - q ∧ q ≤ d.bl.length ∧ Fresh w v ∧ Sl wr 4 1 v20 d.bad.length (bools d.bad) ∧ Sl wr 26 64 v ((d.bl.take q)).length (blocksC ((d.bl.take q))) ∧ Blk wr b1 25 #[xb, xd, .int .i64 (d.pw), .bool (d.tr)] ∧ Blk wr b3 31 #[v, v20, .int .i64 (d.pw), .bool (d.tr)] ∧ Ext w wr ∧ Has e [(3, .pointer (some ⟨b3, 0, none⟩)), (27, xb), (28, .int .i64 ((d.bl.length : Nat) : Int)), (29, .int .i64 ((q : Nat) : Int))]) (d.bl.length) ?_ ?_
      · exact ⟨0, .slice none 0 0, rfl, by omega, Fresh.nil _, hS20, (by rw [List.take_zero]; exact Sl.nil _ _ _), hB1, hB3, hE, rfl, rfl, rfl, rfl, trivial⟩
      · rintro n e wr ⟨q, v, rfl, hi, hfv, hS20, hV, hB1, hB3, hE, hH⟩
        obtain ⟨e, rfl⟩ := hH.ex
        clear hH
        refine E.seq ?_
        refine E.regionP rfl ?_
        refine R.lss (b := decide ((((q : Nat) : Int)) < (((d.bl.length : Nat) : Int)))) rfl rfl rfl ?_
        refine R.nil ?_
        refine E.seq ?_
        refine E.cond (b := decide ((((q : Nat) : Int)) < (((d.bl.length : Nat) : Int)))) rfl (fun hc30 => ?_) (fun hc30 => ?_)
        · replace hc30 := dT hc30
          refine E.skip ?_
          refine E.seq ?_
          refine E.block ?_
          refine E.seq ?_
          refine E.regionP rfl ?_
          refine R.ix (m := q) Try.underlying22 t27 (by decide) hxb rfl rfl (by omega) ?_
          refine R.loadE t27 (by decide) (hxb.ext hE) rfl (blocksC_takeD hok (i := q) (by omega)) (by rw [List.length_map]; exact ((okL hok (i := q) (by omega))).1) rfl (fun _ _ => trivial) ?_
          refine R.alloc t27 nofun ?_
          intro b5 w11 hb5 hx11 hB5
          replace hb5 := Nat.le_trans hE.size hb5
          replace hS20 := hS20.ext hx11
          replace hV := hV.ext hx11
          replace hB1 := hB1.ext hx11
          replace hB3 := hB3.ext hx11
          replace hE := hE.ext hx11
          replace hB5 : Blk _ b5 27 (Array.replicate 64 (.int .u8 0)) := hB5
          rw [← zeroV] at hB5
          refine R.storeA t27 hB5 rfl rfl (blkV_size zeroB_ok.1) (blkV_size (okL hok (i := q) (by omega)).1) blkV_ones nofun ?_
          intro w12 hU12 hs12 hN12
          replace hS20 := hS20.upT hU12 hB5 (by decide)
          replace hV := hV.upT hU12 hB5 (by decide)
          replace hB1 := hB1.upT hU12 hB5 (by decide)
          replace hB3 := hB3.upT hU12 hB5 (by decide)
          replace hE := hE.own hU12 hb5
          replace hB5 : Blk _ b5 27 (blkV ((d.bl.getD q []))) := hN12
          refine R.nil ?_
          refine E.regionP rfl ?_
          refine R.fld fa31_0 rfl ?_
          refine R.loadB t29 hB3 rfl rfl rfl trivial ?_
          refine R.loadA t27 hB5 rfl (blkV_size (okL hok (i := q) (by omega)).1) rfl trivial ?_
          refine R.buildSlice [.agg (blkV ((d.bl.getD q [])))] Try.underlying29 t26 rfl rfl (fun v hv => by rw [List.mem_singleton.1 hv]; exact blkV_size (okL hok (i := q) (by omega)).1) (by simp) nofun ?_
          intro b36 w13 hb36 hx13 hB36 hS36
          replace hb36 := Nat.le_trans hE.size hb36
          replace hS20 := hS20.ext hx13
          replace hV := hV.ext hx13
          replace hB1 := hB1.ext hx13
          replace hB3 := hB3.ext hx13
          replace hB5 := hB5.ext hx13
          replace hE := hE.ext hx13
          replace hS36 : Sl _ 26 64 (.slice (some ⟨b36, 0, none⟩) 1 1) ([(d.bl.getD q [])]).length (blocksC ([(d.bl.getD q [])])) := hS36
          refine R.append Try.underlying29 Try.underlying29 t26 (by decide) rfl hV hS36.row blocksC_one rfl rfl (by simp; omega) (by simp; omega) nofun ?_
          intro v37 w14 hU14 hS37 hd14
          have hF37 := Fresh.app hE hfv hd14
          replace hS20 := hS20.upS hU14 hV (by decide)
          replace hB1 := hB1.upS hU14 hV (by decide)
          replace hB3 := hB3.upS hU14 hV (by decide)
          replace hB5 := hB5.upS hU14 hV (by decide)
          replace hE := hE.app hU14 hfv
          replace hS37 : Sl w14 26 64 v37 (((d.bl.take q) ++ [(d.bl.getD q [])])).length (blocksC (((d.bl.take q) ++ [(d.bl.getD q [])]))) := TA27 (xs := (d.bl.take q)) (ys := [(d.bl.getD q [])]) hS37
          refine R.fld fa31_0 rfl ?_
          refine R.store t29 hB3 rfl rfl (hS37.one) (by simp) nofun ?_
          intro w15 hU15 hs15 hN15
          replace hS20 := hS20.upT hU15 hB3 (by decide)
          replace hS37 := hS37.upT hU15 hB3 (by decide)
          replace hB1 := hB1.upT hU15 hB3 (by decide)
          replace hB5 := hB5.upT hU15 hB3 (by decide)
          replace hE := hE.own hU15 hb3
          replace hB3 : Blk _ b3 31 #[v37, v20, .int .i64 (d.pw), .bool (d.tr)] := hN15
          clear hN15
          refine R.nil ?_
          refine E.regionP rfl ?_
          refine R.addN (m := q) (n := 1) rfl rfl (by omega) ?_
          refine R.move ?_
          refine R.nil ?_
          exact ⟨d.bl.length - (q + 1), by omega, q + 1, v37, rfl, by omega, hF37, hS20, (by rw [take_getD (z := []) (by omega)]; exact hS37), hB1, hB3, hE, rfl, rfl, rfl, rfl, trivial⟩
        · replace hc30 := dF hc30
          rw [List.take_of_length_le (by omega)] at hV
          have hR : RD _ v v20 d := ⟨hV, hS20, hok⟩
          refine E.exit ?_
          refine E.seq ?_
          refine E.regionP rfl ?_
          refine R.loadA t31 hB3 rfl rfl rfl trivial ?_
          refine R.callE1 ent24 (opened_ _ hR (by omega) (by omega) hpw hpw2) rfl nofun ?_
          rintro v41 w16 hx16 rfl
          replace hR := hR.ext hx16
          replace hB1 := hB1.ext hx16
          replace hB3 := hB3.ext hx16
          replace hE := hE.ext hx16
          refine R.move ?_
          refine R.gT rfl rfl ?_
          refine R.callE0 ent13 (awake_ _)  nofun ?_
          rintro v43 w17 hx17 rfl
          replace hR := hR.ext hx17
          replace hB1 := hB1.ext hx17
          replace hB3 := hB3.ext hx17
          replace hE := hE.ext hx17
          refine R.pickT rfl ?_
          refine R.assign ?_
          refine R.nil ?_
          refine E.ret ?_
          refine ret1 (.bool (true)) rfl rfl ⟨_, rfl, ?_⟩
          exact ⟨hE, rfl⟩
end Go.Proofs.Ytlplogplicgfiaa
