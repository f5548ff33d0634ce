import Derived.Test.YtlplogplicgfiaaZ5JW
namespace Go.Proofs.Ytlplogplicgfiaa
open Go Go.RowKit
theorem take_getD {α : Type} {l : List α} {i : Nat} {z : α} (h : i < l.length) : l.take (i + 1) = l.take i ++ [l.getD i z] := by
  rw [List.take_add_one, List.getD_eq_getElem?_getD, List.getElem?_eq_getElem h]; rfl
theorem bld25_2_3_1 {x2 x3 x1 : Value} (hx2 : x2.oneCell' = true) (hx3 : x3.oneCell' = true) (hx1 : x1.oneCell' = true) (w : World) : (Instr.build 25 #[(2, x2), (3, x3), (1, x1)]).run Try.prog w = .ok (.agg #[(.slice none 0 0), x1, x2, x3]) w := by
  simp [Instr.build, t25.zero, underlying, Try.underlying25, Instr.fill, cells_agg, t3.sizeOf, t4.sizeOf, t23.sizeOf, cells_one hx2, cells_one hx3, cells_one hx1]
theorem disk_ (w : World) {rb rd : Value} {r : Dk} (hR : RD w rb rd r) (hbl : r.bl.length ≤ 100000) (hbd : r.bad.length ≤ 100000) : Calls Try.prog 14 #[.agg #[rb, rd, .int .i64 r.pw, .bool r.tr]] w (Ret fun x w' => Ext w w' ∧ ∃ b vb vd, x = .pointer (some ⟨b, 0, none⟩) ∧ DM w' b vb vd r ∧ ∀ x, DB b vb vd x → w.heap.size ≤ x) := by
  refine calls_E (args := [.agg #[rb, rd, .int .i64 (r.pw), .bool (r.tr)]]) 35 Try.func14 rfl rfl (by simp) ?_
  have hE : Ext w w := Upd.refl w
  refine E.seq ?_
  refine E.regionP rfl ?_
  refine R.box rfl nofun ?_
  intro b1 w1 hb1 hx1 hB1
  replace hb1 := Nat.le_trans hE.size hb1
  replace hR := hR.ext hx1
  replace hE := hE.ext hx1
  replace hB1 : Blk _ b1 31 #[rb, rd, .int .i64 (r.pw), .bool (r.tr)] := hB1
  refine R.assign ?_
  refine R.nil ?_
  refine E.seq ?_
  refine E.regionW (fun c x => x < w1.heap.size ∧ (c = false → True)) []  mixed rfl (by kernel_rfl) ?_
  intro w2 hx2 hh2
  replace hR := hR.ext hx2
  replace hB1 := hB1.ext hx2
  replace hE := hE.ext hx2
  have hEs : Ext w2 w2 := Upd.refl _
  have hS0 := hx2.size
  have hSB : ∀ b, b < w2.heap.size → b < w1.heap.size ∧ (true = false → (fun x => True) b) := fun b hb => ⟨by rw [hh2] at hb; exact hb, nofun⟩
  have hSA : ∀ b, b < w2.heap.size → (fun x => True) b → b < w1.heap.size ∧ (false = false → (fun x => True) b) := fun b hb h => ⟨by rw [hh2] at hb; exact hb, fun _ => h⟩
  have hSO : ∀ b, b < w.heap.size → b < w1.heap.size ∧ (false = false → (fun x => True) b) := fun b hb => hSA b (Nat.lt_of_lt_of_le hb hE.size) (trivial)
  have hRs := hR
  have hB1s := hB1
  refine R.fld fa31_2 rfl ?_
  refine R.loadB t3 hB1 rfl rfl rfl (hSA b1 hB1s.lt (trivial)) ?_
  refine R.fld fa31_3 rfl ?_
  refine R.loadB t4 hB1 rfl rfl rfl (hSA b1 hB1s.lt (trivial)) ?_
  refine R.buildSlice [] Try.underlying23 t4 rfl rfl (by simp [Value.cells]) (by simp) (fun _ _ _ hb => Nat.lt_of_lt_of_le hb.1 (Nat.le_trans hS0 hEs.size)) ?_
  intro b10 w3 hb10 hx3 hB10 hS10
  have hn_hR_10 := hR.new hb10
  have hnb10 := Nat.le_trans (Nat.le_trans hS0 hEs.size) hb10
  replace hb10 := Nat.le_trans hE.size hb10
  replace hR := hR.ext hx3
  replace hB1 := hB1.ext hx3
  replace hE := hE.ext hx3
  replace hEs := hEs.ext hx3
  replace hS10 : Sl _ 4 1 (.slice (some ⟨b10, 0, none⟩) 0 0) 0 [] := hS10
  refine R.fld fa31_1 rfl ?_
  refine R.loadB t23 hB1 rfl rfl rfl (hSA b1 hB1s.lt (trivial)) ?_
  refine R.append Try.underlying23 Try.underlying23 t4 (by decide) rfl hS10 hR.bds.row bools_one rfl rfl (by simp; omega) (by simp; omega) (fun _ b hb => ⟨Nat.lt_of_lt_of_le hb.1 (Nat.le_trans hS0 hEs.size), fun e => by have e1 : b10 = b := Option.some.inj e; have h1 := hb.1; omega⟩) ?_
  intro v13 w4 hU4 hS13 hd4
  have hF13 := Fresh.app hE (Fresh.blk hb10) hd4
  replace hR := hR.upN (hU4.mono (fun c _ h => (Option.some.inj h).symm)) hn_hR_10
  replace hB1 := hB1.upS hU4 hS10 (by decide)
  replace hE := hE.app hU4 (Fresh.blk hb10)
  replace hEs := hEs.trans hU4 (fun c hc h => by have e1 : b10 = c := Option.some.inj h; rw [hh2] at hc; omega)
  replace hS13 : Sl w4 4 1 v13 r.bad.length (bools r.bad) := TA4 (xs := []) (ys := r.bad) hS13
  refine R.build (bld25_2_3_1 rfl rfl hS13.one) rfl ?_
  refine R.box rfl (fun _ _ _ hb => Nat.lt_of_lt_of_le hb.1 (Nat.le_trans hS0 hEs.size)) ?_
  intro b15 w5 hb15 hx5 hB15
  have hnb15 := Nat.le_trans (Nat.le_trans hS0 hEs.size) hb15
  replace hb15 := Nat.le_trans hE.size hb15
  replace hR := hR.ext hx5
  replace hS13 := hS13.ext hx5
  replace hB1 := hB1.ext hx5
  replace hE := hE.ext hx5
  replace hEs := hEs.ext hx5
  replace hB15 : Blk _ b15 25 #[.slice none 0 0, v13, .int .i64 (r.pw), .bool (r.tr)] := hB15
  refine R.assign ?_
  refine R.nil ?_
  refine E.seq ?_
  refine E.seq ?_
  refine E.forget [(1, .pointer (some ⟨b1, 0, none⟩)), (3, .pointer (some ⟨b15, 0, none⟩))] ⟨rfl, rfl, trivial⟩ (fun e => ?_)
  refine E.regionP rfl ?_
  refine R.fld fa31_0 rfl ?_
  refine R.loadB t29 hB1 rfl rfl rfl trivial ?_
  refine R.len Try.underlying29 hR.bls.row rfl ?_
  refine R.move ?_
  refine R.nil ?_
  refine E.block ?_
  refine E.loop (fun n e wr => ∃ (i : Nat) (v : Value), n = r.bl.length - i ∧ i ≤ r.bl.length ∧ Fresh w v ∧ RD wr rb rd r ∧ Sl wr 4 1 v13 r.bad.length (bools r.bad) ∧ Sl wr 27 64 v ((r.bl.take i)).length (blocksC ((r.bl.take i))) ∧ Blk wr b1 31 #[rb, rd, .int .i64 (r.pw), .bool (r.tr)] ∧ Blk wr b15 25 #[v, v13, .int .i64 (r.pw), .bool (r.tr)] ∧ Ext w wr ∧ Has e [(3, .pointer (some ⟨b15, 0, none⟩)), (17, rb), (18, .int .i64 ((r.bl.length : Nat) : Int)), (19, .int .i64 ((i : Nat) : Int))]) (r.bl.length) ?_ ?_
  · exact ⟨0, .slice none 0 0, rfl, by omega, Fresh.nil _, hR, hS13, (by rw [List.take_zero]; exact Sl.nil _ _ _), hB1, hB15, hE, rfl, rfl, rfl, rfl, trivial⟩
  · rintro n e wr ⟨i, v, rfl, hi, hfv, hR, hS13, hV, hB1, hB15, hE, hH⟩
    obtain ⟨e, rfl⟩ := hH.ex
    clear hH
    refine E.seq ?_
    refine E.regionP rfl ?_
    refine R.lss (b := decide ((((i : Nat) : Int)) < (((r.bl.length : Nat) : Int)))) rfl rfl rfl ?_
    refine R.nil ?_
    refine E.seq ?_
    refine E.cond (b := decide ((((i : Nat) : Int)) < (((r.bl.length : Nat) : Int)))) rfl (fun hc20 => ?_) (fun hc20 => ?_)
    · replace hc20 := dT hc20
      refine E.skip ?_
      refine E.seq ?_
      refine E.block ?_
      refine E.seq ?_
      refine E.regionP rfl ?_
      refine R.ix (m := i) Try.underlying29 t26 (by decide) hR.bls.row rfl rfl (by omega) ?_
      refine R.loadE t26 (by decide) hR.bls.row rfl (blocksC_takeD hR.ok (i := i) (by first | omega | decide)) (by rw [List.length_map]; exact ((okL hR.ok (i := i) (by first | omega | decide))).1) rfl (fun _ _ => trivial) ?_
      refine R.alloc t26 nofun ?_
      intro b5 w6 hb5 hx6 hB5
      have hn_hR_5 := hR.new hb5
      replace hb5 := Nat.le_trans hE.size hb5
      replace hR := hR.ext hx6
      replace hS13 := hS13.ext hx6
      replace hV := hV.ext hx6
      replace hB1 := hB1.ext hx6
      replace hB15 := hB15.ext hx6
      replace hE := hE.ext hx6
      replace hB5 : Blk _ b5 26 (Array.replicate 64 (.int .u8 0)) := hB5
      rw [← zeroV] at hB5
      refine R.storeA t26 hB5 rfl rfl (blkV_size zeroB_ok.1) (blkV_size (okL hR.ok (i := i) (by first | omega | decide)).1) blkV_ones nofun ?_
      intro w7 hU7 hs7 hN7
      replace hR := hR.upN hU7 hn_hR_5
      replace hS13 := hS13.upT hU7 hB5 (by decide)
      replace hV := hV.upT hU7 hB5 (by decide)
      replace hB1 := hB1.upT hU7 hB5 (by decide)
      replace hB15 := hB15.upT hU7 hB5 (by decide)
      replace hE := hE.own hU7 hb5
      replace hB5 : Blk _ b5 26 (blkV ((r.bl.getD i []))) := hN7
      refine R.nil ?_
      refine E.regionW (fun c x => x < w7.heap.size ∧ (c = false → x ≠ b15 ∧ vblk v ≠ some x)) [27]  mixed rfl (by kernel_rfl) ?_
      intro w8 hx8 hh8
      replace hR := hR.ext hx8
      replace hS13 := hS13.ext hx8
      replace hV := hV.ext hx8
      replace hB1 := hB1.ext hx8
      replace hB15 := hB15.ext hx8
      replace hB5 := hB5.ext hx8
      replace hE := hE.ext hx8
      have hEs : Ext w8 w8 := Upd.refl _
      have hS0 := hx8.size
      have hSB : ∀ b, b < w8.heap.size → b < w7.heap.size ∧ (true = false → (fun x => x ≠ b15 ∧ vblk v ≠ some x) b) := fun b hb => ⟨by rw [hh8] at hb; exact hb, nofun⟩
      have hSA : ∀ b, b < w8.heap.size → (fun x => x ≠ b15 ∧ vblk v ≠ some x) b → b < w7.heap.size ∧ (false = false → (fun x => x ≠ b15 ∧ vblk v ≠ some x) b) := fun b hb h => ⟨by rw [hh8] at hb; exact hb, fun _ => h⟩
      have hRs := hR
      have hS13s := hS13
      have hVs := hV
      have hB1s := hB1
      have hB15s := hB15
      have hB5s := hB5
      refine R.move ?_
      refine R.move ?_
      refine R.nilCheck rfl ?_
      refine R.fld fa25_0 rfl ?_
      refine R.loadB t22 hB15 rfl rfl rfl (hSB b15 hB15s.lt) ?_
      refine R.loadA t26 hB5 rfl (blkV_size (okL hR.ok (i := i) (by first | omega | decide)).1) rfl (hSA b5 hB5s.lt (⟨hB5s.ne hB15s (by decide), fun e => hB5s.ne_vblk hVs (by decide) e⟩)) ?_
      refine R.buildSlice [.agg (blkV ((r.bl.getD i [])))] Try.underlying22 t27 rfl rfl (fun v hv => by rw [List.mem_singleton.1 hv]; exact blkV_size (okL hR.ok (i := i) (by first | omega | decide)).1) (by simp) (fun _ _ _ hb => Nat.lt_of_lt_of_le hb.1 (Nat.le_trans hS0 hEs.size)) ?_
      intro b29 w9 hb29 hx9 hB29 hS29
      have hnb29 := Nat.le_trans (Nat.le_trans hS0 hEs.size) hb29
      replace hb29 := Nat.le_trans hE.size hb29
      replace hR := hR.ext hx9
      replace hS13 := hS13.ext hx9
      replace hV := hV.ext hx9
      replace hB1 := hB1.ext hx9
      replace hB15 := hB15.ext hx9
      replace hB5 := hB5.ext hx9
      replace hE := hE.ext hx9
      replace hEs := hEs.ext hx9
      replace hS29 : Sl _ 27 64 (.slice (some ⟨b29, 0, none⟩) 1 1) ([(r.bl.getD i [])]).length (blocksC ([(r.bl.getD i [])])) := hS29
      refine R.append Try.underlying22 Try.underlying22 t27 (by decide) rfl hV hS29.row blocksC_one rfl rfl (by simp; omega) (by simp; omega) (fun _ b hb => ⟨Nat.lt_of_lt_of_le hb.1 (Nat.le_trans hS0 hEs.size), fun e => (hb.2 rfl).2 e⟩) ?_
      intro v30 w10 hU10 hS30 hd10
      have hF30 := Fresh.app hE hfv hd10
      replace hR := hR.upS hU10 hV (by decide)
      replace hS13 := hS13.upS hU10 hV (by decide)
      replace hB1 := hB1.upS hU10 hV (by decide)
      replace hB15 := hB15.upS hU10 hV (by decide)
      replace hB5 := hB5.upS hU10 hV (by decide)
      replace hE := hE.app hU10 hfv
      replace hS30 : Sl w10 27 64 v30 (((r.bl.take i) ++ [(r.bl.getD i [])])).length (blocksC (((r.bl.take i) ++ [(r.bl.getD i [])]))) := TA27 (xs := (r.bl.take i)) (ys := [(r.bl.getD i [])]) hS30
      refine R.nilCheck rfl ?_
      refine R.fld fa25_0 rfl ?_
      refine R.store t22 hB15 rfl rfl (hS30.one) (by simp) (fun _ h => (h.2 rfl).1 rfl) ?_
      intro w11 hU11 hs11 hN11
      replace hR := hR.upT hU11 hB15 (by decide)
      replace hS13 := hS13.upT hU11 hB15 (by decide)
      replace hS30 := hS30.upT hU11 hB15 (by decide)
      replace hB1 := hB1.upT hU11 hB15 (by decide)
      replace hB5 := hB5.upT hU11 hB15 (by decide)
      replace hE := hE.own hU11 hb15
      replace hB15 : Blk _ b15 25 #[v30, v13, .int .i64 (r.pw), .bool (r.tr)] := hN11
      clear hN11
      refine R.nil ?_
      refine E.forget [(3, .pointer (some ⟨b15, 0, none⟩)), (17, rb), (18, .int .i64 ((r.bl.length : Nat) : Int)), (19, .int .i64 ((i : Nat) : Int))] ⟨rfl, rfl, rfl, rfl, trivial⟩ (fun e => ?_)
      refine E.regionP rfl ?_
      refine R.addN (m := i) (n := 1) rfl rfl (by omega) ?_
      refine R.move ?_
      refine R.nil ?_
      exact ⟨r.bl.length - (i + 1), by omega, i + 1, v30, rfl, by omega, hF30, hR, hS13, (by rw [take_getD (z := []) (by omega)]; exact hS30), hB1, hB15, hE, rfl, rfl, rfl, rfl, trivial⟩
    · replace hc20 := dF hc20
      refine E.exit ?_
      refine E.seq ?_
      refine E.regionP rfl ?_
      refine R.move ?_
      refine R.assign ?_
      refine R.nil ?_
      refine E.ret ?_
      refine ret1 (.pointer (some ⟨b15, 0, none⟩)) rfl rfl ⟨_, rfl, ?_⟩
      refine ⟨hE, b15, v, v13, rfl, ⟨hB15, ?_, hS13, hR.ok⟩, ?_⟩
      · rw [List.take_of_length_le (by omega)] at hV; exact hV
      · rintro x (rfl | e | e)
        · exact hb15
        · exact hfv x e
        · exact hF13 x e
theorem same_ (w : World) {b900 : Nat} {vb vd rb rd : Value} {r : Dk} (hD : DM w b900 vb vd r) (hR : RD w rb rd r) (hbl : r.bl.length ≤ 100000) (hbd : r.bad.length ≤ 100000) : Calls Try.prog 19 #[.pointer (some ⟨b900, 0, none⟩), .agg #[rb, rd, .int .i64 r.pw, .bool r.tr]] w (Ret fun x w' => Ext w w' ∧ x = .bool true) := by
  refine calls_E (args := [.pointer (some ⟨b900, 0, none⟩), .agg #[rb, rd, .int .i64 (r.pw), .bool (r.tr)]]) 93 Try.func19 rfl rfl (by simp) ?_
  have hE : Ext w w := Upd.refl w
  refine E.seq ?_
  refine E.regionP rfl ?_
  refine R.box rfl nofun ?_
  intro b3 w1 hb3 hx1 hB3
  replace hb3 := Nat.le_trans hE.size hb3
  replace hD := hD.ext hx1
  replace hR := hR.ext hx1
  replace hE := hE.ext hx1
  replace hB3 : Blk _ b3 31 #[rb, rd, .int .i64 (r.pw), .bool (r.tr)] := hB3
  refine R.assign ?_
  refine R.nil ?_
  refine E.seq ?_
  refine E.seq ?_
  refine E.regionW allS [] mixed rfl (by kernel_rfl) ?_
  intro w2 hx2 hh2
  replace hD := hD.ext hx2
  replace hR := hR.ext hx2
  replace hB3 := hB3.ext hx2
  replace hE := hE.ext hx2
  refine R.move ?_
  refine R.eqlNil (b := false) Try.underlying32 rfl rfl rfl ?_
  refine R.move ?_
  refine R.gT rfl rfl ?_
  refine R.move ?_
  refine R.gT rfl rfl ?_
  refine R.nilCheck rfl ?_
  refine R.gT rfl rfl ?_
  refine R.fld fa25_0 rfl ?_
  refine R.gT rfl rfl ?_
  refine R.loadB t22 hD.blk rfl rfl rfl trivial ?_
  refine R.gT rfl rfl ?_
  refine R.len Try.underlying22 hD.bls.row rfl ?_
  refine R.gT rfl rfl ?_
  refine R.fld fa31_0 rfl ?_
  refine R.gT rfl rfl ?_
  refine R.loadB t29 hB3 rfl rfl rfl trivial ?_
  refine R.gT rfl rfl ?_
  refine R.len Try.underlying29 hR.bls.row rfl ?_
  refine R.gT rfl rfl ?_
  refine R.neq (b := false) rfl rfl (by simp) ?_
  refine R.pickF rfl ?_
  refine R.move ?_
  refine R.gT rfl rfl ?_
  refine R.move ?_
  refine R.gT rfl rfl ?_
  refine R.nilCheck rfl ?_
  refine R.gT rfl rfl ?_
  refine R.fld fa25_1 rfl ?_
  refine R.gT rfl rfl ?_
  refine R.loadB t23 hD.blk rfl rfl rfl trivial ?_
  refine R.gT rfl rfl ?_
  refine R.len Try.underlying23 hD.bds.row rfl ?_
  refine R.gT rfl rfl ?_
  refine R.fld fa31_1 rfl ?_
  refine R.gT rfl rfl ?_
  refine R.loadB t23 hB3 rfl rfl rfl trivial ?_
  refine R.gT rfl rfl ?_
  refine R.len Try.underlying23 hR.bds.row rfl ?_
  refine R.gT rfl rfl ?_
  refine R.neq (b := false) rfl rfl (by simp) ?_
  refine R.pickF rfl ?_
  refine R.move ?_
  refine R.gT rfl rfl ?_
  refine R.move ?_
  refine R.gT rfl rfl ?_
  refine R.nilCheck rfl ?_
  refine R.gT rfl rfl ?_
  refine R.fld fa25_2 rfl ?_
  refine R.gT rfl rfl ?_
  refine R.loadB t3 hD.blk rfl rfl rfl trivial ?_
  refine R.gT rfl rfl ?_
  refine R.fld fa31_2 rfl ?_
  refine R.gT rfl rfl ?_
  refine R.loadB t3 hB3 rfl rfl rfl trivial ?_
  refine R.gT rfl rfl ?_
  refine R.neq (b := false) rfl rfl (by simp) ?_
  refine R.pickF rfl ?_
  refine R.move ?_
  refine R.gT rfl rfl ?_
  refine R.move ?_
  refine R.gT rfl rfl ?_
  refine R.nilCheck rfl ?_
  refine R.gT rfl rfl ?_
  refine R.fld fa25_3 rfl ?_
  refine R.gT rfl rfl ?_
  refine R.loadB t4 hD.blk rfl rfl rfl trivial ?_
  refine R.gT rfl rfl ?_
  refine R.fld fa31_3 rfl ?_
  refine R.gT rfl rfl ?_
  refine R.loadB t4 hB3 rfl rfl rfl trivial ?_
  refine R.gT rfl rfl ?_
  refine R.neqB (b := false) Try.underlying4 rfl rfl (by simp) ?_
  refine R.pickF rfl ?_
  refine R.nil ?_
  refine E.condF rfl ?_
  refine E.skip ?_
  refine E.seq ?_
  refine E.seq ?_
  refine E.forget [(0, .pointer (some ⟨b900, 0, none⟩)), (3, .pointer (some ⟨b3, 0, none⟩))] ⟨rfl, rfl, trivial⟩ (fun e => ?_)
  refine E.regionP rfl ?_
  refine R.assign ?_
  refine R.nil ?_
  refine E.block ?_
  refine E.loop (fun n e wr => ∃ (i : Nat), n = r.bl.length - i ∧ i ≤ r.bl.length ∧ DM wr b900 vb vd r ∧ RD wr rb rd r ∧ Blk wr b3 31 #[rb, rd, .int .i64 (r.pw), .bool (r.tr)] ∧ Ext w wr ∧ Has e [(0, .pointer (some ⟨b900, 0, none⟩)), (3, .pointer (some ⟨b3, 0, none⟩)), (5, .int .i64 ((i : Nat) : Int))]) (r.bl.length) ?_ ?_
  · exact ⟨0, rfl, by omega, hD, hR, hB3, hE, rfl, rfl, rfl, trivial⟩
  · rintro n e wr ⟨i, rfl, hi, hD, hR, hB3, hE, hH⟩
    obtain ⟨e, rfl⟩ := hH.ex
    clear hH
    refine E.seq ?_
    refine E.seq ?_
    refine E.regionP rfl ?_
    refine R.move ?_
    refine R.move ?_
    refine R.nilCheck rfl ?_
    refine R.fld fa25_0 rfl ?_
    refine R.loadB t22 hD.blk rfl rfl rfl trivial ?_
    refine R.len Try.underlying22 hD.bls.row rfl ?_
    refine R.lss (b := decide ((((i : Nat) : Int)) < (((r.bl.length : Nat) : Int)))) rfl rfl rfl ?_
    refine R.nil ?_
    refine E.cond (b := decide ((((i : Nat) : Int)) < (((r.bl.length : Nat) : Int)))) rfl (fun hc55 => ?_) (fun hc55 => ?_)
    · replace hc55 := dT hc55
      refine E.skip ?_
      refine E.seq ?_
      refine E.block ?_
      refine E.seq ?_
      refine E.regionW allS [] mixed rfl (by kernel_rfl) ?_
      intro w3 hx3 hh3
      replace hD := hD.ext hx3
      replace hR := hR.ext hx3
      replace hB3 := hB3.ext hx3
      replace hE := hE.ext hx3
      refine R.move ?_
      refine R.nilCheck rfl ?_
      refine R.fld fa25_0 rfl ?_
      refine R.loadB t22 hD.blk rfl rfl rfl trivial ?_
      refine R.move ?_
      refine R.ix (m := i) Try.underlying22 t27 (by decide) hD.bls.row rfl rfl (by omega) ?_
      refine R.loadE t27 (by decide) hD.bls.row rfl (blocksC_takeD hD.ok (i := i) (by first | omega | decide)) (by rw [List.length_map]; exact ((hD.ok' i (by first | omega | decide))).1) rfl (fun _ _ => trivial) ?_
      refine R.fld fa31_0 rfl ?_
      refine R.loadB t29 hB3 rfl rfl rfl trivial ?_
      refine R.move ?_
      refine R.ix (m := i) Try.underlying29 t26 (by decide) hR.bls.row rfl rfl (by omega) ?_
      refine R.loadE t26 (by decide) hR.bls.row rfl (blocksC_takeD hR.ok (i := i) (by first | omega | decide)) (by rw [List.length_map]; exact ((okL hR.ok (i := i) (by first | omega | decide))).1) rfl (fun _ _ => trivial) ?_
      refine R.neqA (b' := true) rfl rfl Try.eqGuardType27 (fun w => (eq27 (hD.ok' i (by omega)) (hD.ok' i (by omega)) w).trans (by simp)) ?_
      refine R.nil ?_
      refine E.condF rfl ?_
      refine E.skip ?_
      refine E.forget [(0, .pointer (some ⟨b900, 0, none⟩)), (3, .pointer (some ⟨b3, 0, none⟩)), (5, .int .i64 ((i : Nat) : Int))] ⟨rfl, rfl, rfl, trivial⟩ (fun e => ?_)
      refine E.regionP rfl ?_
      refine R.move ?_
      refine R.addN (m := i) (n := 1) rfl rfl (by omega) ?_
      refine R.assign ?_
      refine R.nil ?_
      exact ⟨r.bl.length - (i + 1), by omega, i + 1, rfl, by omega, hD, hR, hB3, hE, rfl, rfl, rfl, trivial⟩
    · replace hc55 := dF hc55
      refine E.exit ?_
      refine E.seq ?_
      refine E.seq ?_
      refine E.regionP rfl ?_
      refine R.assign ?_
      refine R.nil ?_
      refine E.block ?_
      refine E.loop (fun n e wr => ∃ (i : Nat), n = r.bad.length - i ∧ i ≤ r.bad.length ∧ DM wr b900 vb vd r ∧ RD wr rb rd r ∧ Blk wr b3 31 #[rb, rd, .int .i64 (r.pw), .bool (r.tr)] ∧ Ext w wr ∧ Has e [(0, .pointer (some ⟨b900, 0, none⟩)), (3, .pointer (some ⟨b3, 0, none⟩)), (6, .int .i64 ((i : Nat) : Int))]) (r.bad.length) ?_ ?_
      · exact ⟨0, rfl, by omega, hD, hR, hB3, hE, rfl, rfl, rfl, trivial⟩
      · rintro n e wr ⟨i, rfl, hi, hD, hR, hB3, hE, hH⟩
        obtain ⟨e, rfl⟩ := hH.ex
        clear hH
        refine E.seq ?_
        refine E.seq ?_
        refine E.regionP rfl ?_
        refine R.move ?_
        refine R.move ?_
        refine R.nilCheck rfl ?_
        refine R.fld fa25_1 rfl ?_
        refine R.loadB t23 hD.blk rfl rfl rfl trivial ?_
        refine R.len Try.underlying23 hD.bds.row rfl ?_
        refine R.lss (b := decide ((((i : Nat) : Int)) < (((r.bad.length : Nat) : Int)))) rfl rfl rfl ?_
        refine R.nil ?_
        refine E.cond (b := decide ((((i : Nat) : Int)) < (((r.bad.length : Nat) : Int)))) rfl (fun hc77 => ?_) (fun hc77 => ?_)
        · replace hc77 := dT hc77
          refine E.skip ?_
          refine E.seq ?_
          refine E.block ?_
          refine E.seq ?_
          refine E.regionW allS [] mixed rfl (by kernel_rfl) ?_
          intro w4 hx4 hh4
          replace hD := hD.ext hx4
          replace hR := hR.ext hx4
          replace hB3 := hB3.ext hx4
          replace hE := hE.ext hx4
          refine R.move ?_
          refine R.nilCheck rfl ?_
          refine R.fld fa25_1 rfl ?_
          refine R.loadB t23 hD.blk rfl rfl rfl trivial ?_
          refine R.move ?_
          refine R.ix (m := i) Try.underlying23 t4 (by decide) hD.bds.row rfl rfl (by omega) ?_
          refine R.load (u := .bool (r.bad.getD i true)) t4 hD.bds.row rfl (bools_getD (i := i) (by first | omega | decide)) rfl (fun _ _ => trivial) ?_
          refine R.fld fa31_1 rfl ?_
          refine R.loadB t23 hB3 rfl rfl rfl trivial ?_
          refine R.move ?_
          refine R.ix (m := i) Try.underlying23 t4 (by decide) hR.bds.row rfl rfl (by omega) ?_
          refine R.load (u := .bool (r.bad.getD i true)) t4 hR.bds.row rfl (bools_getD (i := i) (by first | omega | decide)) rfl (fun _ _ => trivial) ?_
          refine R.neqB (b := false) Try.underlying4 rfl rfl (by simp) ?_
          refine R.nil ?_
          refine E.condF rfl ?_
          refine E.skip ?_
          refine E.forget [(0, .pointer (some ⟨b900, 0, none⟩)), (3, .pointer (some ⟨b3, 0, none⟩)), (6, .int .i64 ((i : Nat) : Int))] ⟨rfl, rfl, rfl, trivial⟩ (fun e => ?_)
          refine E.regionP rfl ?_
          refine R.move ?_
          refine R.addN (m := i) (n := 1) rfl rfl (by omega) ?_
          refine R.assign ?_
          refine R.nil ?_
          exact ⟨r.bad.length - (i + 1), by omega, i + 1, rfl, by omega, hD, hR, hB3, hE, rfl, rfl, rfl, trivial⟩
        · replace hc77 := dF hc77
          refine E.exit ?_
          refine E.seq ?_
          refine E.regionP rfl ?_
          refine R.assign ?_
          refine R.nil ?_
          refine E.ret ?_
          refine ret1 (.bool (true)) rfl rfl ⟨_, rfl, ?_⟩
          exact ⟨hE, rfl⟩
end Go.Proofs.Ytlplogplicgfiaa

namespace Go.Proofs.Ytlplogplicgfiaa
open Go Go.RowKit
theorem RD.upF {X : Nat → Prop} {w w' : World} {vb vd : Value} {d : Dk} (h : RD w vb vd d) (u : Upd X w w') (hq : (∀ x, vblk vb = some x → ¬ X x) ∧ (∀ x, vblk vd = some x → ¬ X x)) : RD w' vb vd d := h.up u hq.1 hq.2
theorem bld31_1_2_3 {x1 x2 x3 : Value} (hx1 : x1.oneCell' = true) (hx2 : x2.oneCell' = true) (hx3 : x3.oneCell' = true) (w : World) : (Instr.build 31 #[(1, x1), (2, x2), (3, x3)]).run Try.prog w = .ok (.agg #[(.slice none 0 0), x1, x2, x3]) w := by
  simp [Instr.build, t31.zero, underlying, Try.underlying31, Instr.fill, cells_agg, t3.sizeOf, t4.sizeOf, t23.sizeOf, cells_one hx1, cells_one hx2, cells_one hx3]
end Go.Proofs.Ytlplogplicgfiaa
