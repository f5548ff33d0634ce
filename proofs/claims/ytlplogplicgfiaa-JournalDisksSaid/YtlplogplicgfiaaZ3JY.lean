import Derived.Test.YtlplogplicgfiaaZ3JX
namespace Go.Proofs.Ytlplogplicgfiaa
open Go Go.RowKit
theorem RD.upF {X : Nat → Prop} {w w' : World} {vb vd : Value} {d : Dk} (h : RD w vb vd d) (u : Upd X w w') (hq : (∀ x, vblk vb = some x → ¬ X x) ∧ (∀ x, vblk vd = some x → ¬ X x)) : RD w' vb vd d := h.up u hq.1 hq.2
theorem bld31_1_2_3 {x1 x2 x3 : Value} (hx1 : x1.oneCell' = true) (hx2 : x2.oneCell' = true) (hx3 : x3.oneCell' = true) (w : World) : (Instr.build 31 #[(1, x1), (2, x2), (3, x3)]).run Try.prog w = .ok (.agg #[(.slice none 0 0), x1, x2, x3]) w := by
  simp [Instr.build, t31.zero, underlying, Try.underlying31, Instr.fill, cells_agg, t3.sizeOf, t4.sizeOf, t23.sizeOf, cells_one hx1, cells_one hx2, cells_one hx3]
theorem write_bl {d : Dk} {i : Int} {b : List Nat} : (d.write i b).1.bl.length = d.bl.length := by
  unfold Dk.write; split
  · split <;> simp
  · rfl
theorem write_bad {d : Dk} {i : Int} {b : List Nat} : (d.write i b).1.bad.length = d.bad.length := by
  unfold Dk.write; split
  · split <;> simp
  · rfl
set_option maxHeartbeats 1600000 in
theorem journalDisks (w : World) {xb xd : Value} {d : Dk} {i : Int} {b : List Nat} (hxb : Row w 64 xb d.bl.length (blocksC d.bl)) (hxd : Row w 1 xd d.bad.length (bools d.bad)) (hok : ∀ b ∈ d.bl, BlockP b) (hb : BlockP b) (hbl : d.bl.length ≤ 9223372036854775807) (hbd : d.bad.length ≤ 9223372036854775807) (hpw : d.pw ≤ 9223372036854775807) (hpw2 : -9223372036854775808 ≤ d.pw) :
    Calls Try.prog 3 #[.agg #[xb, xd, .int .i64 d.pw, .bool d.tr], .int .i64 i, .agg (blkV b)] w (Ret fun r w' => Ext w w' ∧ r = .bool true) := by
  refine calls_E (args := [.agg #[xb, xd, .int .i64 (d.pw), .bool (d.tr)], .int .i64 (i), .agg (blkV b)]) 120 Try.func3 rfl rfl (by simp) ?_
  have hE : Ext w w := Upd.refl w
  refine E.seq ?_
  refine E.regionP rfl ?_
  refine R.box rfl nofun ?_
  intro b3 w1 hb3 hx1 hB3
  replace hb3 := Nat.le_trans hE.size hb3
  replace hE := hE.ext hx1
  replace hB3 : Blk _ b3 25 #[xb, xd, .int .i64 (d.pw), .bool (d.tr)] := hB3
  refine R.box rfl nofun ?_
  intro b5 w2 hb5 hx2 hB5
  replace hb5 := Nat.le_trans hE.size hb5
  replace hB3 := hB3.ext hx2
  replace hE := hE.ext hx2
  replace hB5 : Blk _ b5 27 (blkV b) := hB5
  refine R.assign ?_
  refine R.nil ?_
  refine E.seq ?_
  refine E.seq ?_
  refine E.regionP rfl ?_
  refine R.fld fa25_0 rfl ?_
  refine R.loadB t22 hB3 rfl rfl rfl trivial ?_
  refine R.len Try.underlying22 hxb rfl ?_
  refine R.gtr (b := decide ((((24 : Nat) : Int)) < (((d.bl.length : Nat) : Int)))) rfl rfl rfl ?_
  refine R.move ?_
  have hg24 := Bool.eq_false_or_eq_true (decide ((((24 : Nat) : Int)) < (((d.bl.length : Nat) : Int))))
  rcases hg24 with hg24 | hg24
  · have hg24q := hg24
    replace hg24 := dT hg24
    refine R.gF rfl (congrArg Value.bool hg24q) rfl ?_
    refine R.gF rfl (congrArg Value.bool hg24q) rfl ?_
    refine R.gF rfl (congrArg Value.bool hg24q) rfl ?_
    refine R.gF rfl (congrArg Value.bool hg24q) rfl ?_
    refine R.pickT (congrArg Value.bool hg24q) ?_
    refine R.nil ?_
    refine E.condT rfl ?_
    refine E.seq ?_
    refine E.forget [] trivial (fun e => ?_)
    refine E.regionP rfl ?_
    refine R.callE0 ent13 (awake_ _)  nofun ?_
    rintro v30 w3 hx3 rfl
    replace hB3 := hB3.ext hx3
    replace hB5 := hB5.ext hx3
    replace hE := hE.ext hx3
    refine R.assign ?_
    refine R.nil ?_
    refine E.ret ?_
    refine ret1 (.bool (true)) rfl rfl ⟨_, rfl, ?_⟩
    exact ⟨hE, rfl⟩
  · have hg24q := hg24
    replace hg24 := dF hg24
    refine R.gT rfl (congrArg Value.bool hg24q) ?_
    refine R.fld fa25_1 rfl ?_
    refine R.gT rfl (congrArg Value.bool hg24q) ?_
    refine R.loadB t23 hB3 rfl rfl rfl trivial ?_
    refine R.gT rfl (congrArg Value.bool hg24q) ?_
    refine R.len Try.underlying23 hxd rfl ?_
    refine R.gT rfl (congrArg Value.bool hg24q) ?_
    refine R.gtr (b := decide ((((24 : Nat) : Int)) < (((d.bad.length : Nat) : Int)))) rfl rfl rfl ?_
    refine R.pickF (congrArg Value.bool hg24q) ?_
    refine R.nil ?_
    refine E.cond (b := decide ((((24 : Nat) : Int)) < (((d.bad.length : Nat) : Int)))) rfl (fun hc29 => ?_) (fun hc29 => ?_)
    · replace hc29 := dT hc29
      refine E.seq ?_
      refine E.forget [] trivial (fun e => ?_)
      refine E.regionP rfl ?_
      refine R.callE0 ent13 (awake_ _)  nofun ?_
      rintro v30 w4 hx4 rfl
      replace hB3 := hB3.ext hx4
      replace hB5 := hB5.ext hx4
      replace hE := hE.ext hx4
      refine R.assign ?_
      refine R.nil ?_
      refine E.ret ?_
      refine ret1 (.bool (true)) rfl rfl ⟨_, rfl, ?_⟩
      exact ⟨hE, rfl⟩
    · replace hc29 := dF hc29
      refine E.skip ?_
      refine E.seq ?_
      have hW0 := hE.size
      refine E.regionF (fun c x => x < w2.heap.size ∧ (c = false → True)) [] [] mixed rfl (by kernel_rfl) (fun _ _ h => h.1) ?_
      intro w5 hx5 hh5
      replace hB3 := hB3.ext hx5
      replace hB5 := hB5.ext hx5
      replace hE := hE.ext hx5
      have hEs : Ext w5 w5 := Upd.refl _
      have hS0 := hx5.size
      have hSB : ∀ b, b < w5.heap.size → b < w2.heap.size ∧ (true = false → (fun x => True) b) := fun b hb => ⟨by rw [hh5] at hb; exact hb, nofun⟩
      have hSA : ∀ b, b < w5.heap.size → (fun x => True) b → b < w2.heap.size ∧ (false = false → (fun x => True) b) := fun b hb h => ⟨by rw [hh5] at hb; exact hb, fun _ => h⟩
      have hSO : ∀ b, b < w.heap.size → b < w2.heap.size ∧ (false = false → (fun x => True) b) := fun b hb => hSA b (Nat.lt_of_lt_of_le hb hE.size) (trivial)
      have hB3s := hB3
      have hB5s := hB5
      refine G.buildSlice [] Try.underlying23 t4 rfl rfl (by simp [Value.cells]) (by simp) ?_
      intro w6 b31 K6 hx6 hb31 hn31 hK6 hk31 hS31
      have hn031 := hb31
      replace hb31 := Nat.le_trans hW0 hb31
      replace hB3 := hB3.ext hx6
      replace hB5 := hB5.ext hx6
      replace hE := hE.ext hx6
      replace hEs := hEs.ext hx6
      replace hS31 : Sl _ 4 1 (.slice (some ⟨b31, 0, none⟩) 0 0) 0 [] := hS31
      refine G.q rfl (Nat.le_of_ble_eq_true rfl) ?_
      refine R.fld fa25_1 rfl ?_
      refine R.nil ?_
      refine G.q rfl (Nat.le_of_ble_eq_true rfl) ?_
      refine R.loadB t23 hB3 rfl rfl rfl (hSA b3 hB3s.lt (trivial)) ?_
      refine R.nil ?_
      refine G.l rfl rfl (.inr rfl) (Nat.le_of_ble_eq_true rfl) ?_
      intro w7 hx7
      replace hS31 := hS31.ext hx7
      replace hB3 := hB3.ext hx7
      replace hB5 := hB5.ext hx7
      replace hE := hE.ext hx7
      replace hEs := hEs.ext hx7
      refine R.append Try.underlying23 Try.underlying23 t4 (by decide) rfl hS31 (hxd.ext hE) bools_one rfl rfl (by simp; omega) (by simp; omega) (fun _ b hb => ⟨G.S1_lt (fun _ _ h => h.1) (Nat.le_trans hS0 hEs.size) hb, fun e => by have e1 : b31 = b := Option.some.inj e; rw [← e1] at hb; exact G.S1_new (fun _ _ h => h.1) hn031 hk31 hb⟩) ?_
      intro v34 w8 hU8 hS34 hd8
      have hF34 := Fresh.app hE (Fresh.blk hb31) hd8
      replace hB3 := hB3.upS hU8 hS31 (by decide)
      replace hB5 := hB5.upS hU8 hS31 (by decide)
      replace hE := hE.app hU8 (Fresh.blk hb31)
      replace hEs := hEs.trans hU8 (fun c hc h => by have h1 := (show b31 = c from Option.some.inj h); rw [hh5] at hc; omega)
      replace hS34 : Sl w8 4 1 v34 d.bad.length (bools d.bad) := TA4 (xs := []) (ys := d.bad) hS34
      refine R.nil ⟨hU8.size, ?_⟩
      intro K7 hK7 hN7
      replace hk31 := hK7 _ hk31
      refine G.q rfl (Nat.le_of_ble_eq_true rfl) ?_
      refine R.fld fa25_2 rfl ?_
      refine R.nil ?_
      refine G.q rfl (Nat.le_of_ble_eq_true rfl) ?_
      refine R.loadB t3 hB3 rfl rfl rfl (hSA b3 hB3s.lt (trivial)) ?_
      refine R.nil ?_
      refine G.q rfl (Nat.le_of_ble_eq_true rfl) ?_
      refine R.fld fa25_3 rfl ?_
      refine R.nil ?_
      refine G.q rfl (Nat.le_of_ble_eq_true rfl) ?_
      refine R.loadB t4 hB3 rfl rfl rfl (hSA b3 hB3s.lt (trivial)) ?_
      refine R.nil ?_
      refine G.q rfl (Nat.le_of_ble_eq_true rfl) ?_
      refine R.build (bld31_1_2_3 hS34.one rfl rfl) rfl ?_
      refine R.nil ?_
      refine G.alloc t31 ?_
      intro w9 b7 K9 hx9 hb7 hn7 hK9 hk7 hB7
      replace hk31 := hK9 _ hk31
      have hn07 := hb7
      replace hb7 := Nat.le_trans hW0 hb7
      replace hS34 := hS34.ext hx9
      replace hB3 := hB3.ext hx9
      replace hB5 := hB5.ext hx9
      replace hE := hE.ext hx9
      replace hEs := hEs.ext hx9
      replace hB7 : Blk _ b7 31 #[.slice none 0 0, .slice none 0 0, .int .i64 ((0 : Nat) : Int), .bool (false)] := hB7
      refine G.l rfl rfl (.inr rfl) (Nat.le_of_ble_eq_true rfl) ?_
      intro w10 hx10
      replace hS34 := hS34.ext hx10
      replace hB3 := hB3.ext hx10
      replace hB5 := hB5.ext hx10
      replace hB7 := hB7.ext hx10
      replace hE := hE.ext hx10
      replace hEs := hEs.ext hx10
      refine R.storeA t31 hB7 rfl rfl rfl rfl (ones4 rfl hS34.one rfl rfl) (fun _ h => G.S1_new (fun _ _ h => h.1) hn07 hk7 h) ?_
      intro w11 hU11 hs11 hN11
      replace hS34 := hS34.upT hU11 hB7 (by decide)
      replace hB3 := hB3.upT hU11 hB7 (by decide)
      replace hB5 := hB5.upT hU11 hB7 (by decide)
      replace hE := hE.own hU11 hb7
      replace hEs := hEs.trans hU11 (fun c hc h => by have h1 : c = b7 := h; rw [hh5] at hc; omega)
      replace hB7 : Blk _ b7 31 #[.slice none 0 0, v34, .int .i64 (d.pw), .bool (d.tr)] := hN11
      clear hN11
      refine R.nil ⟨hU11.size, ?_⟩
      intro K10 hK10 hN10
      replace hk31 := hK10 _ hk31
      replace hk7 := hK10 _ hk7
      refine G.nil ?_
      refine E.seq ?_
      refine E.seq ?_
      refine E.forget [(1, .int .i64 (i)), (3, .pointer (some ⟨b3, 0, none⟩)), (5, .pointer (some ⟨b5, 0, none⟩)), (7, .pointer (some ⟨b7, 0, none⟩))] ⟨rfl, rfl, rfl, rfl, trivial⟩ (fun e => ?_)
      refine E.regionP rfl ?_
      refine R.fld fa25_0 rfl ?_
      refine R.loadB t22 hB3 rfl rfl rfl trivial ?_
      refine R.len Try.underlying22 hxb rfl ?_
      refine R.move ?_
      refine R.nil ?_
      refine E.block ?_
      refine E.loop (fun n e wr => ∃ (q : Nat) (v : Value), n = d.bl.length - q ∧ q ≤ d.bl.length ∧ Fresh w v ∧ Sl wr 4 1 v34 d.bad.length (bools d.bad) ∧ Sl wr 26 64 v ((d.bl.take q)).length (blocksC ((d.bl.take q))) ∧ Blk wr b3 25 #[xb, xd, .int .i64 (d.pw), .bool (d.tr)] ∧ Blk wr b5 27 (blkV b) ∧ Blk wr b7 31 #[v, v34, .int .i64 (d.pw), .bool (d.tr)] ∧ Ext w wr ∧ Has e [(1, .int .i64 (i)), (5, .pointer (some ⟨b5, 0, none⟩)), (7, .pointer (some ⟨b7, 0, none⟩)), (41, xb), (42, .int .i64 ((d.bl.length : Nat) : Int)), (43, .int .i64 ((q : Nat) : Int))]) (d.bl.length) ?_ ?_
      · exact ⟨0, .slice none 0 0, rfl, by omega, Fresh.nil _, hS34, (by rw [List.take_zero]; exact Sl.nil _ _ _), hB3, hB5, hB7, hE, rfl, rfl, rfl, rfl, rfl, rfl, trivial⟩
      · rintro n e wr ⟨q, v, rfl, hi, hfv, hS34, hV, hB3, hB5, hB7, hE, hH⟩
        obtain ⟨e, rfl⟩ := hH.ex
        clear hH
        refine E.seq ?_
        refine E.regionP rfl ?_
        refine R.lss (b := decide ((((q : Nat) : Int)) < (((d.bl.length : Nat) : Int)))) rfl rfl rfl ?_
        refine R.nil ?_
        refine E.seq ?_
        refine E.cond (b := decide ((((q : Nat) : Int)) < (((d.bl.length : Nat) : Int)))) rfl (fun hc44 => ?_) (fun hc44 => ?_)
        · replace hc44 := dT hc44
          refine E.skip ?_
          refine E.seq ?_
          refine E.block ?_
          refine E.seq ?_
          refine E.regionP rfl ?_
          refine R.ix (m := q) Try.underlying22 t27 (by decide) hxb rfl rfl (by omega) ?_
          refine R.loadE t27 (by decide) (hxb.ext hE) rfl (blocksC_takeD hok (i := q) (by omega)) (by rw [List.length_map]; exact ((okL hok (i := q) (by omega))).1) rfl (fun _ _ => trivial) ?_
          refine R.alloc t27 nofun ?_
          intro b9 w12 hb9 hx12 hB9
          have ne5_9 : b5 ≠ b9 := by have := hB5.lt; omega
          replace hb9 := Nat.le_trans hE.size hb9
          replace hS34 := hS34.ext hx12
          replace hV := hV.ext hx12
          replace hB3 := hB3.ext hx12
          replace hB5 := hB5.ext hx12
          replace hB7 := hB7.ext hx12
          replace hE := hE.ext hx12
          replace hB9 : Blk _ b9 27 (Array.replicate 64 (.int .u8 0)) := hB9
          rw [← zeroV] at hB9
          refine R.storeA t27 hB9 rfl rfl (blkV_size zeroB_ok.1) (blkV_size (okL hok (i := q) (by omega)).1) blkV_ones nofun ?_
          intro w13 hU13 hs13 hN13
          replace hS34 := hS34.upT hU13 hB9 (by decide)
          replace hV := hV.upT hU13 hB9 (by decide)
          replace hB3 := hB3.upT hU13 hB9 (by decide)
          replace hB5 := hB5.up hU13 (fun h => ne5_9 h)
          replace hB7 := hB7.upT hU13 hB9 (by decide)
          replace hE := hE.own hU13 hb9
          replace hB9 : Blk _ b9 27 (blkV ((d.bl.getD q []))) := hN13
          refine R.nil ?_
          refine E.regionP rfl ?_
          refine R.fld fa31_0 rfl ?_
          refine R.loadB t29 hB7 rfl rfl rfl trivial ?_
          refine R.loadA t27 hB9 rfl (blkV_size (okL hok (i := q) (by omega)).1) rfl trivial ?_
          refine R.buildSlice [.agg (blkV ((d.bl.getD q [])))] Try.underlying29 t26 rfl rfl (fun v hv => by rw [List.mem_singleton.1 hv]; exact blkV_size (okL hok (i := q) (by omega)).1) (by simp) nofun ?_
          intro b50 w14 hb50 hx14 hB50 hS50
          replace hb50 := Nat.le_trans hE.size hb50
          replace hS34 := hS34.ext hx14
          replace hV := hV.ext hx14
          replace hB3 := hB3.ext hx14
          replace hB5 := hB5.ext hx14
          replace hB7 := hB7.ext hx14
          replace hB9 := hB9.ext hx14
          replace hE := hE.ext hx14
          replace hS50 : Sl _ 26 64 (.slice (some ⟨b50, 0, none⟩) 1 1) ([(d.bl.getD q [])]).length (blocksC ([(d.bl.getD q [])])) := hS50
          refine R.append Try.underlying29 Try.underlying29 t26 (by decide) rfl hV hS50.row blocksC_one rfl rfl (by simp; omega) (by simp; omega) nofun ?_
          intro v51 w15 hU15 hS51 hd15
          have hF51 := Fresh.app hE hfv hd15
          replace hS34 := hS34.upS hU15 hV (by decide)
          replace hB3 := hB3.upS hU15 hV (by decide)
          replace hB5 := hB5.upS hU15 hV (by decide)
          replace hB7 := hB7.upS hU15 hV (by decide)
          replace hB9 := hB9.upS hU15 hV (by decide)
          replace hE := hE.app hU15 hfv
          replace hS51 : Sl w15 26 64 v51 (((d.bl.take q) ++ [(d.bl.getD q [])])).length (blocksC (((d.bl.take q) ++ [(d.bl.getD q [])]))) := TA27 (xs := (d.bl.take q)) (ys := [(d.bl.getD q [])]) hS51
          refine R.fld fa31_0 rfl ?_
          refine R.store t29 hB7 rfl rfl (hS51.one) (by simp) nofun ?_
          intro w16 hU16 hs16 hN16
          replace hS34 := hS34.upT hU16 hB7 (by decide)
          replace hS51 := hS51.upT hU16 hB7 (by decide)
          replace hB3 := hB3.upT hU16 hB7 (by decide)
          replace hB5 := hB5.upT hU16 hB7 (by decide)
          replace hB9 := hB9.upT hU16 hB7 (by decide)
          replace hE := hE.own hU16 hb7
          replace hB7 : Blk _ b7 31 #[v51, v34, .int .i64 (d.pw), .bool (d.tr)] := hN16
          clear hN16
          refine R.nil ?_
          refine E.regionP rfl ?_
          refine R.addN (m := q) (n := 1) rfl rfl (by omega) ?_
          refine R.move ?_
          refine R.nil ?_
          exact ⟨d.bl.length - (q + 1), by omega, q + 1, v51, rfl, by omega, hF51, hS34, (by rw [take_getD (z := []) (by omega)]; exact hS51), hB3, hB5, hB7, hE, rfl, rfl, rfl, rfl, rfl, rfl, trivial⟩
        · replace hc44 := dF hc44
          rw [List.take_of_length_le (by omega)] at hV
          have hR : RD _ v v34 d := ⟨hV, hS34, hok⟩
          refine E.exit ?_
          refine E.seq ?_
          refine E.regionP rfl ?_
          refine R.loadA t31 hB7 rfl rfl rfl trivial ?_
          refine R.callE1 ent14 (disk_ _ hR (by omega) (by omega)) rfl nofun ?_
          rintro v55 w17 hx17 ⟨b900, vb, vd, rfl, hD, hge⟩
          have hn_hD_3 : ¬ (b900 = b3 ∨ vblk vb = some b3 ∨ vblk vd = some b3) := fun e => by have h1 := hge b3 (DB.unflip e); have h2 := hB3.lt; omega
          have hn_hD_5 : ¬ (b900 = b5 ∨ vblk vb = some b5 ∨ vblk vd = some b5) := fun e => by have h1 := hge b5 (DB.unflip e); have h2 := hB5.lt; omega
          have hq_hR : (∀ x, vblk v = some x → ¬ DB b900 vb vd x) ∧ (∀ x, vblk v34 = some x → ¬ DB b900 vb vd x) := ⟨fun x e h => by have h1 := hge x h; have h2 := hR.bls.lt x e; omega, fun x e h => by have h1 := hge x h; have h2 := hR.bds.lt x e; omega⟩
          replace hge : ∀ x, DB b900 vb vd x → w.heap.size ≤ x := fun x hx => Nat.le_trans hE.size (hge x hx)
          replace hR := hR.ext hx17
          replace hB3 := hB3.ext hx17
          replace hB5 := hB5.ext hx17
          replace hB7 := hB7.ext hx17
          replace hE := hE.ext hx17
          refine R.assign ?_
          refine R.nil ?_
          refine E.seq ?_
          refine E.regionP rfl ?_
          refine R.move ?_
          refine R.move ?_
          refine R.callE2 ent15 (read_ _ hD) rfl rfl nofun ?_
          rintro v59 w18 hx18 rfl
          have hp59 : BlockP (blkO (d.read i)) := Dk.okO hD.ok
          replace hR := hR.ext hx18
          replace hD := hD.ext hx18
          replace hB3 := hB3.ext hx18
          replace hB5 := hB5.ext hx18
          replace hB7 := hB7.ext hx18
          replace hE := hE.ext hx18
          refine R.move ?_
          refine R.extract rfl rfl ?_
          refine R.extract rfl rfl ?_
          refine R.alloc t27 nofun ?_
          intro b11 w19 hb11 hx19 hB11
          have ne5_11 : b5 ≠ b11 := by have := hB5.lt; omega
          have hn_hD_11 := hD.new hb11
          replace hb11 := Nat.le_trans hE.size hb11
          replace hR := hR.ext hx19
          replace hD := hD.ext hx19
          replace hB3 := hB3.ext hx19
          replace hB5 := hB5.ext hx19
          replace hB7 := hB7.ext hx19
          replace hE := hE.ext hx19
          replace hB11 : Blk _ b11 27 (Array.replicate 64 (.int .u8 0)) := hB11
          rw [← zeroV] at hB11
          refine R.storeA t27 hB11 rfl rfl (blkV_size zeroB_ok.1) (blkV_size hp59.1) blkV_ones nofun ?_
          intro w20 hU20 hs20 hN20
          replace hR := hR.upT hU20 hB11 (by decide)
          replace hD := hD.upN hU20 hn_hD_11
          replace hB3 := hB3.upT hU20 hB11 (by decide)
          replace hB5 := hB5.up hU20 (fun h => ne5_11 h)
          replace hB7 := hB7.upT hU20 hB11 (by decide)
          replace hE := hE.own hU20 hb11
          replace hB11 : Blk _ b11 27 (blkV ((blkO (d.read i)))) := hN20
          refine R.assign ?_
          refine R.nil ?_
          refine E.seq ?_
          refine E.forget [(1, .int .i64 (i)), (5, .pointer (some ⟨b5, 0, none⟩)), (7, .pointer (some ⟨b7, 0, none⟩)), (10, .pointer (some ⟨b900, 0, none⟩)), (11, .pointer (some ⟨b11, 0, none⟩)), (12, .bool ((d.read i).isSome))] ⟨rfl, rfl, rfl, rfl, rfl, rfl, trivial⟩ (fun e => ?_)
          refine E.regionP rfl ?_
          refine R.loadA t31 hB7 rfl rfl rfl trivial ?_
          refine R.move ?_
          refine R.callE2 ent16 (rread_ _ hR (by omega)) rfl rfl nofun ?_
          rintro v65 w21 hx21 rfl
          have hp65 : BlockP (blkO (d.read i)) := Dk.okO hR.ok
          replace hR := hR.ext hx21
          replace hD := hD.ext hx21
          replace hB3 := hB3.ext hx21
          replace hB5 := hB5.ext hx21
          replace hB7 := hB7.ext hx21
          replace hB11 := hB11.ext hx21
          replace hE := hE.ext hx21
          refine R.move ?_
          refine R.extract rfl rfl ?_
          refine R.extract rfl rfl ?_
          refine R.alloc t26 nofun ?_
          intro b13 w22 hb13 hx22 hB13
          have hn_hR_13 := hR.new hb13
          replace hb13 := Nat.le_trans hE.size hb13
          replace hR := hR.ext hx22
          replace hD := hD.ext hx22
          replace hB3 := hB3.ext hx22
          replace hB5 := hB5.ext hx22
          replace hB7 := hB7.ext hx22
          replace hB11 := hB11.ext hx22
          replace hE := hE.ext hx22
          replace hB13 : Blk _ b13 26 (Array.replicate 64 (.int .u8 0)) := hB13
          rw [← zeroV] at hB13
          refine R.storeA t26 hB13 rfl rfl (blkV_size zeroB_ok.1) (blkV_size hp65.1) blkV_ones nofun ?_
          intro w23 hU23 hs23 hN23
          replace hR := hR.upN hU23 hn_hR_13
          replace hD := hD.upT hU23 hB13 (by decide)
          replace hB3 := hB3.upT hU23 hB13 (by decide)
          replace hB5 := hB5.upT hU23 hB13 (by decide)
          replace hB7 := hB7.upT hU23 hB13 (by decide)
          replace hB11 := hB11.upT hU23 hB13 (by decide)
          replace hE := hE.own hU23 hb13
          replace hB13 : Blk _ b13 26 (blkV ((blkO (d.read i)))) := hN23
          refine R.assign ?_
          refine R.nil ?_
          refine E.seq ?_
          refine E.regionP rfl ?_
          refine R.move ?_
          refine R.move ?_
          refine R.loadA t27 hB5 rfl (blkV_size hb.1) rfl trivial ?_
          refine R.call3 ent17 (write_ _ hD hb hpw) rfl rfl rfl ?_
          rintro v71 w24 ⟨hU24, hDn24, rfl⟩
          refine ⟨nofun, ?_⟩
          replace hR := hR.upF hU24 hq_hR
          replace hB3 := hB3.up hU24 (fun e => hn_hD_3 (DB.flip e))
          replace hB5 := hB5.up hU24 (fun e => hn_hD_5 (DB.flip e))
          replace hB7 := hB7.upD hU24 hD (by decide)
          replace hB11 := hB11.up hU24 (fun e => hn_hD_11 (DB.flip e))
          replace hB13 := hB13.upD hU24 hD (by decide)
          replace hE := hE.trans hU24 (fun x hx h => by have := hge x h; omega)
          clear hD
          have hD := hDn24
          refine R.assign ?_
          refine R.nil ?_
          refine E.seq ?_
          refine E.regionP rfl ?_
          refine R.loadA t31 hB7 rfl rfl rfl trivial ?_
          refine R.move ?_
          refine R.loadA t27 hB5 rfl (blkV_size hb.1) rfl trivial ?_
          refine R.callE3 ent18 (rwrite_ _ hR (by omega) hb hpw hpw2) rfl rfl rfl nofun ?_
          rintro v76 w25 hx25 ⟨rb76, rd76, rfl, hR76, hX76⟩
          replace hR := hR.ext hx25
          replace hD := hD.ext hx25
          replace hB3 := hB3.ext hx25
          replace hB5 := hB5.ext hx25
          replace hB7 := hB7.ext hx25
          replace hB11 := hB11.ext hx25
          replace hB13 := hB13.ext hx25
          replace hE := hE.ext hx25
          refine R.move ?_
          refine R.extract rfl rfl ?_
          refine R.extract rfl rfl ?_
          refine R.alloc t31 nofun ?_
          intro b16 w26 hb16 hx26 hB16
          have ne7_16 : b7 ≠ b16 := by have := hB7.lt; omega
          replace hb16 := Nat.le_trans hE.size hb16
          replace hR := hR.ext hx26
          replace hD := hD.ext hx26
          replace hR76 := hR76.ext hx26
          replace hB3 := hB3.ext hx26
          replace hB5 := hB5.ext hx26
          replace hB7 := hB7.ext hx26
          replace hB11 := hB11.ext hx26
          replace hB13 := hB13.ext hx26
          replace hE := hE.ext hx26
          replace hB16 : Blk _ b16 31 #[.slice none 0 0, .slice none 0 0, .int .i64 ((0 : Nat) : Int), .bool (false)] := hB16
          refine R.storeA t31 hB16 rfl rfl rfl rfl (ones4 hR76.bls.one hR76.bds.one rfl rfl) nofun ?_
          intro w27 hU27 hs27 hN27
          replace hR := hR.upT hU27 hB16 (by decide)
          replace hD := hD.upT hU27 hB16 (by decide)
          replace hR76 := hR76.upT hU27 hB16 (by decide)
          replace hB3 := hB3.upT hU27 hB16 (by decide)
          replace hB5 := hB5.upT hU27 hB16 (by decide)
          replace hB7 := hB7.up hU27 (fun h => ne7_16 h)
          replace hB11 := hB11.upT hU27 hB16 (by decide)
          replace hB13 := hB13.upT hU27 hB16 (by decide)
          replace hE := hE.own hU27 hb16
          replace hB16 : Blk _ b16 31 #[rb76, rd76, .int .i64 (((d.write i b).1).pw), .bool (((d.write i b).1).tr)] := hN27
          clear hN27
          refine R.assign ?_
          refine R.nil ?_
          refine E.seq ?_
          refine E.forget [(1, .int .i64 (i)), (5, .pointer (some ⟨b5, 0, none⟩)), (10, .pointer (some ⟨b900, 0, none⟩)), (11, .pointer (some ⟨b11, 0, none⟩)), (12, .bool ((d.read i).isSome)), (13, .pointer (some ⟨b13, 0, none⟩)), (14, .bool ((d.read i).isSome)), (15, .bool ((d.write i b).2)), (16, .pointer (some ⟨b16, 0, none⟩)), (17, .bool ((d.write i b).2))] ⟨rfl, rfl, rfl, rfl, rfl, rfl, rfl, rfl, rfl, rfl, trivial⟩ (fun e => ?_)
          refine E.regionP rfl ?_
          refine R.move ?_
          refine R.callE2 ent15 (read0 _) rfl rfl nofun ?_
          rintro v81 w28 hx28 rfl
          replace hR := hR.ext hx28
          replace hD := hD.ext hx28
          replace hR76 := hR76.ext hx28
          replace hB3 := hB3.ext hx28
          replace hB5 := hB5.ext hx28
          replace hB7 := hB7.ext hx28
          replace hB11 := hB11.ext hx28
          replace hB13 := hB13.ext hx28
          replace hB16 := hB16.ext hx28
          replace hE := hE.ext hx28
          refine R.move ?_
          refine R.extract rfl rfl ?_
          refine R.extract rfl rfl ?_
          refine R.alloc t27 nofun ?_
          intro b18 w29 hb18 hx29 hB18
          have ne5_18 : b5 ≠ b18 := by have := hB5.lt; omega
          have ne11_18 : b11 ≠ b18 := by have := hB11.lt; omega
          have hn_hD_18 := hD.new hb18
          replace hb18 := Nat.le_trans hE.size hb18
          replace hR := hR.ext hx29
          replace hD := hD.ext hx29
          replace hR76 := hR76.ext hx29
          replace hB3 := hB3.ext hx29
          replace hB5 := hB5.ext hx29
          replace hB7 := hB7.ext hx29
          replace hB11 := hB11.ext hx29
          replace hB13 := hB13.ext hx29
          replace hB16 := hB16.ext hx29
          replace hE := hE.ext hx29
          replace hB18 : Blk _ b18 27 (Array.replicate 64 (.int .u8 0)) := hB18
          rw [← zeroV] at hB18
          refine R.storeA t27 hB18 rfl rfl (blkV_size zeroB_ok.1) (blkV_size zeroB_ok.1) blkV_ones nofun ?_
          intro w30 hU30 hs30 hN30
          replace hR := hR.upT hU30 hB18 (by decide)
          replace hD := hD.upN hU30 hn_hD_18
          replace hR76 := hR76.upT hU30 hB18 (by decide)
          replace hB3 := hB3.upT hU30 hB18 (by decide)
          replace hB5 := hB5.up hU30 (fun h => ne5_18 h)
          replace hB7 := hB7.upT hU30 hB18 (by decide)
          replace hB11 := hB11.up hU30 (fun h => ne11_18 h)
          replace hB13 := hB13.upT hU30 hB18 (by decide)
          replace hB16 := hB16.upT hU30 hB18 (by decide)
          replace hE := hE.own hU30 hb18
          replace hB18 : Blk _ b18 27 (blkV zeroB) := hN30
          refine R.assign ?_
          refine R.nil ?_
          refine E.seq ?_
          refine E.regionP rfl ?_
          refine R.loadA t27 hB11 rfl (blkV_size hp59.1) rfl trivial ?_
          refine R.loadA t26 hB13 rfl (blkV_size hp65.1) rfl trivial ?_
          refine R.eqlA (b' := true) rfl rfl Try.eqGuardType27 (fun w => (eq27 hp59 hp59 w).trans (by simp)) ?_
          refine R.move ?_
          refine R.gT rfl rfl ?_
          refine R.move ?_
          refine R.gT rfl rfl ?_
          refine R.move ?_
          refine R.gT rfl rfl ?_
          refine R.eqlB (b := true) Try.underlying4 rfl rfl (by simp) ?_
          refine R.pickT rfl ?_
          refine R.move ?_
          refine R.gT rfl rfl ?_
          refine R.move ?_
          refine R.gT rfl rfl ?_
          refine R.move ?_
          refine R.gT rfl rfl ?_
          refine R.eqlB (b := true) Try.underlying4 rfl rfl (by simp) ?_
          refine R.pickT rfl ?_
          refine R.move ?_
          refine R.gT rfl rfl ?_
          refine R.move ?_
          refine R.gT rfl rfl ?_
          refine R.loadA t31 hB16 rfl rfl rfl trivial ?_
          refine R.gT rfl rfl ?_
          refine R.callE2 ent19 (same_ _ hD hR76 (by rw [write_bl]; omega) (by rw [write_bad]; omega)) rfl rfl nofun ?_
          rintro v100 w31 hx31 rfl
          replace hR := hR.ext hx31
          replace hD := hD.ext hx31
          replace hR76 := hR76.ext hx31
          replace hB3 := hB3.ext hx31
          replace hB5 := hB5.ext hx31
          replace hB7 := hB7.ext hx31
          replace hB11 := hB11.ext hx31
          replace hB13 := hB13.ext hx31
          replace hB16 := hB16.ext hx31
          replace hB18 := hB18.ext hx31
          replace hE := hE.ext hx31
          refine R.pickT rfl ?_
          refine R.move ?_
          refine R.gT rfl rfl ?_
          refine R.loadA t27 hB18 rfl (blkV_size zeroB_ok.1) rfl trivial ?_
          refine R.gT rfl rfl ?_
          refine R.build build27_0 rfl ?_
          refine R.gT rfl rfl ?_
          refine R.eqlA (b' := true) rfl rfl Try.eqGuardType27 (fun w => (eq27 zeroB_ok zeroB_ok w).trans (by simp)) ?_
          refine R.pickT rfl ?_
          refine R.move ?_
          refine R.gT rfl rfl ?_
          refine R.move ?_
          refine R.gT rfl rfl ?_
          refine R.not rfl ?_
          refine R.pickT rfl ?_
          refine R.move ?_
          refine R.gT rfl rfl ?_
          refine R.move ?_
          refine R.gT rfl rfl ?_
          refine R.loadA t27 hB5 rfl (blkV_size hb.1) rfl trivial ?_
          refine R.gT rfl rfl ?_
          refine R.callE3 ent17 (write0_ _ hb) rfl rfl rfl nofun ?_
          rintro v114 w32 hx32 rfl
          replace hR := hR.ext hx32
          replace hD := hD.ext hx32
          replace hR76 := hR76.ext hx32
          replace hB3 := hB3.ext hx32
          replace hB5 := hB5.ext hx32
          replace hB7 := hB7.ext hx32
          replace hB11 := hB11.ext hx32
          replace hB13 := hB13.ext hx32
          replace hB16 := hB16.ext hx32
          replace hB18 := hB18.ext hx32
          replace hE := hE.ext hx32
          refine R.gT rfl rfl ?_
          refine R.not rfl ?_
          refine R.pickT rfl ?_
          refine R.move ?_
          refine R.gT rfl rfl ?_
          refine R.callE0 ent13 (awake_ _)  nofun ?_
          rintro v118 w33 hx33 rfl
          replace hR := hR.ext hx33
          replace hD := hD.ext hx33
          replace hR76 := hR76.ext hx33
          replace hB3 := hB3.ext hx33
          replace hB5 := hB5.ext hx33
          replace hB7 := hB7.ext hx33
          replace hB11 := hB11.ext hx33
          replace hB13 := hB13.ext hx33
          replace hB16 := hB16.ext hx33
          replace hB18 := hB18.ext hx33
          replace hE := hE.ext hx33
          refine R.pickT rfl ?_
          refine R.assign ?_
          refine R.nil ?_
          refine E.ret ?_
          refine ret1 (.bool (true)) rfl rfl ⟨_, rfl, ?_⟩
          exact ⟨hE, rfl⟩
end Go.Proofs.Ytlplogplicgfiaa
