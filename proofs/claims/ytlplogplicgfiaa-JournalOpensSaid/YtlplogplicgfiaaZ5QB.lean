import Derived.Test.YtlplogplicgfiaaZ5QA
namespace Go.Proofs.Ytlplogplicgfiaa
open Go Go.RowKit
theorem take_len1 {L : List Rc} {a : Nat} (h : a < L.length) : (L.take (a + 1)).length = (L.take a).length + 1 := by simp only [List.length_take]; omega
theorem take_map1 {L : List Rc} {a : Nat} (h : a < L.length) : (L.take (a + 1)).map (·.dat) = (L.take a).map (·.dat) ++ [(L.getD a Rc0).dat] := by
  rw [List.take_add_one, List.map_append, List.getD_eq_getElem?_getD, List.getElem?_eq_getElem h]; rfl
theorem bld93_0 {x0_0 x0_1 x0_2 x0_3 : Value} (w : World) : (Instr.build 93 #[(0, .agg #[x0_0, x0_1, x0_2, x0_3])]).run Try.prog w = .ok (.agg #[x0_0, x0_1, x0_2, x0_3, (.slice none 0 0), (.slice none 0 0), (.int .i64 0), (.int .i64 0), (.int .i64 0), (.bool false)]) w := by
  simp [Instr.build, t93.zero, underlying, Try.underlying93, Instr.fill, cells_agg, t31.sizeOf]
theorem bld93_0_3_4 {x0_0 x0_1 x0_2 x0_3 x3 x4 : Value} (hx3 : x3.oneCell' = true) (hx4 : x4.oneCell' = true) (w : World) : (Instr.build 93 #[(0, .agg #[x0_0, x0_1, x0_2, x0_3]), (3, x3), (4, x4)]).run Try.prog w = .ok (.agg #[x0_0, x0_1, x0_2, x0_3, (.slice none 0 0), (.slice none 0 0), x3, x4, (.int .i64 0), (.bool false)]) w := by
  simp [Instr.build, t93.zero, underlying, Try.underlying93, Instr.fill, cells_agg, t3.sizeOf, t31.sizeOf, cells_one hx3, cells_one hx4]
set_option maxHeartbeats 1600000 in
theorem ropen_ (w : World) {rb rd : Value} {r : Dk} (hR : RD w rb rd r) (hbl : r.bl.length ≤ 1000000) (hpw0 : r.pw ≤ 9223372036854775807) (hpw02 : -9223372036854775808 ≤ r.pw) :
    Calls Try.prog 45 #[.agg #[rb, rd, .int .i64 r.pw, .bool r.tr]] w (Ret fun x w' => Ext w w' ∧ RORes w' x (openL r)) := by
  have hnl := r.n_le
  refine calls_E (args := [.agg #[rb, rd, .int .i64 (r.pw), .bool (r.tr)]]) 209 Try.func45 rfl rfl (by simp) ?_
  have hE : Ext w w := Upd.refl w
  refine E.seq ?_
  refine E.regionP rfl ?_
  refine R.box rfl nofun ?_
  intro b1 w1 hb1 hx1 hB1
  replace hb1 := Nat.le_trans hE.size hb1
  replace hR := hR.ext hx1
  replace hE := hE.ext hx1
  replace hB1 : Blk _ b1 31 #[rb, rd, .int .i64 (r.pw), .bool (r.tr)] := hB1
  refine R.alloc t93 nofun ?_
  intro b2 w2 hb2 hx2 hB2
  replace hb2 := Nat.le_trans hE.size hb2
  replace hR := hR.ext hx2
  replace hB1 := hB1.ext hx2
  replace hE := hE.ext hx2
  replace hB2 : Blk _ b2 93 #[.slice none 0 0, .slice none 0 0, .int .i64 ((0 : Nat) : Int), .bool (false), .slice none 0 0, .slice none 0 0, .int .i64 ((0 : Nat) : Int), .int .i64 ((0 : Nat) : Int), .int .i64 ((0 : Nat) : Int), .bool (false)] := hB2
  refine R.assign ?_
  refine R.nil ?_
  refine E.seq ?_
  refine E.regionP rfl ?_
  refine R.loadA t31 hB1 rfl rfl rfl trivial ?_
  refine R.build (bld93_0 ) rfl ?_
  refine R.alloc t93 nofun ?_
  intro b4 w3 hb4 hx3 hB4
  have ne2_4 : b2 ≠ b4 := by have := hB2.lt; omega
  replace hb4 := Nat.le_trans hE.size hb4
  replace hR := hR.ext hx3
  replace hB1 := hB1.ext hx3
  replace hB2 := hB2.ext hx3
  replace hE := hE.ext hx3
  replace hB4 : Blk _ b4 93 #[.slice none 0 0, .slice none 0 0, .int .i64 ((0 : Nat) : Int), .bool (false), .slice none 0 0, .slice none 0 0, .int .i64 ((0 : Nat) : Int), .int .i64 ((0 : Nat) : Int), .int .i64 ((0 : Nat) : Int), .bool (false)] := hB4
  refine R.storeA t93 hB4 rfl rfl rfl rfl (ones10 hR.bls.one hR.bds.one rfl rfl rfl rfl rfl rfl rfl rfl) nofun ?_
  intro w4 hU4 hs4 hN4
  replace hR := hR.upT hU4 hB4 (by decide)
  replace hB1 := hB1.upT hU4 hB4 (by decide)
  replace hB2 := hB2.up hU4 (fun h => ne2_4 h)
  replace hE := hE.own hU4 hb4
  replace hB4 : Blk _ b4 93 #[rb, rd, .int .i64 (r.pw), .bool (r.tr), .slice none 0 0, .slice none 0 0, .int .i64 ((0 : Nat) : Int), .int .i64 ((0 : Nat) : Int), .int .i64 ((0 : Nat) : Int), .bool (false)] := hN4
  clear hN4
  refine R.nil ?_
  refine E.seq ?_
  refine E.seq ?_
  refine E.regionP rfl ?_
  refine R.loadA t31 hB1 rfl rfl rfl trivial ?_
  refine R.callE1 ent44 (right_ _ hR (by omega)) rfl nofun ?_
  rintro v21 w5 hx5 rfl
  replace hR := hR.ext hx5
  replace hB1 := hB1.ext hx5
  replace hB2 := hB2.ext hx5
  replace hB4 := hB4.ext hx5
  replace hE := hE.ext hx5
  refine R.not rfl ?_
  refine R.nil ?_
  refine E.cond (b := !(decide (r.n ≠ 0))) rfl (fun hc22 => ?_) (fun hc22 => ?_)
  · replace hc22 := nT hc22
    have hn0 : r.n = 0 := by simpa using hc22
    refine E.seq ?_
    refine E.regionP rfl ?_
    refine R.loadA t93 hB4 rfl rfl rfl trivial ?_
    refine R.storeA t93 hB2 rfl rfl rfl rfl (ones10 hR.bls.one hR.bds.one rfl rfl rfl rfl rfl rfl rfl rfl) nofun ?_
    intro w6 hU6 hs6 hN6
    replace hR := hR.upT hU6 hB2 (by decide)
    replace hB1 := hB1.upT hU6 hB2 (by decide)
    replace hB4 := hB4.up hU6 (fun h => ne2_4 h.symm)
    replace hE := hE.own hU6 hb2
    replace hB2 : Blk _ b2 93 #[rb, rd, .int .i64 (r.pw), .bool (r.tr), .slice none 0 0, .slice none 0 0, .int .i64 ((0 : Nat) : Int), .int .i64 ((0 : Nat) : Int), .int .i64 ((0 : Nat) : Int), .bool (false)] := hN6
    clear hN6
    refine R.assign ?_
    refine R.nil ?_
    refine E.ret ?_
    refine retA1 (.int .i64 ((2 : Nat) : Int)) t93 hB2 rfl rfl rfl rfl ⟨_, rfl, ?_⟩
    refine ⟨hE, ?_⟩
    rw [openL_0 hn0]
    exact ⟨rb, rd, rfl, hR⟩
  · replace hc22 := nF hc22
    have hn0 : r.n ≠ 0 := by simpa using hc22
    have hn : 0 < r.n := by omega
    have hbn := Dk.n_pos hn
    have hn2 : r.bl.length / 2 = r.n := by omega
    have hPL := lastL_P hR.ok (Nat.le_refl r.n)
    have hlf := hPL.2
    refine E.skip ?_
    refine E.seq ?_
    refine E.regionP rfl ?_
    refine R.fld fa31_0 rfl ?_
    refine R.loadB t29 hB1 rfl rfl rfl trivial ?_
    refine R.len Try.underlying29 hR.bls.row rfl ?_
    refine R.quoN (m := r.bl.length) (n := 2) rfl rfl (by omega) (by omega) ?_
    rw [hn2]
    refine R.assign ?_
    refine R.nil ?_
    refine E.seq ?_
    have hW0 := hE.size
    refine E.regionF (fun c x => x < w5.heap.size ∧ (c = false → True)) [] [] mixed rfl (by kernel_rfl) (fun _ _ h => h.1) ?_
    intro w7 hx7 hh7
    replace hR := hR.ext hx7
    replace hB1 := hB1.ext hx7
    replace hB2 := hB2.ext hx7
    replace hB4 := hB4.ext hx7
    replace hE := hE.ext hx7
    have hEs : Ext w7 w7 := Upd.refl _
    have hS0 := hx7.size
    have hSB : ∀ b, b < w7.heap.size → b < w5.heap.size ∧ (true = false → (fun x => True) b) := fun b hb => ⟨by rw [hh7] at hb; exact hb, nofun⟩
    have hSA : ∀ b, b < w7.heap.size → (fun x => True) b → b < w5.heap.size ∧ (false = false → (fun x => True) b) := fun b hb h => ⟨by rw [hh7] at hb; exact hb, fun _ => h⟩
    have hSO : ∀ b, b < w.heap.size → b < w5.heap.size ∧ (false = false → (fun x => True) b) := fun b hb => hSA b (Nat.lt_of_lt_of_le hb hE.size) (trivial)
    have hRs := hR
    have hB1s := hB1
    have hB2s := hB2
    have hB4s := hB4
    refine G.q rfl (Nat.le_of_ble_eq_true rfl) ?_
    refine R.loadA t31 hB1 rfl rfl rfl (hSA b1 hB1s.lt (trivial)) ?_
    refine R.nil ?_
    refine G.q rfl (Nat.le_of_ble_eq_true rfl) ?_
    refine R.loadA t31 hB1 rfl rfl rfl (hSA b1 hB1s.lt (trivial)) ?_
    refine R.nil ?_
    refine G.l rfl rfl (.inr rfl) (Nat.le_of_ble_eq_true rfl) ?_
    intro w8 hx8
    replace hR := hR.ext hx8
    replace hB1 := hB1.ext hx8
    replace hB2 := hB2.ext hx8
    replace hB4 := hB4.ext hx8
    replace hE := hE.ext hx8
    replace hEs := hEs.ext hx8
    refine R.callE1 ent59 (rlifeP _ hR hn) rfl (fun _ _ hb => G.S1_lt (fun _ _ h => h.1) (Nat.le_trans hS0 hEs.size) hb) ?_
    rintro v30 w9 hx9 rfl
    replace hR := hR.ext hx9
    replace hB1 := hB1.ext hx9
    replace hB2 := hB2.ext hx9
    replace hB4 := hB4.ext hx9
    replace hE := hE.ext hx9
    replace hEs := hEs.ext hx9
    refine R.nil ⟨hx9.size, ?_⟩
    intro K8 hK8 hN8
    refine G.q rfl (Nat.le_of_ble_eq_true rfl) ?_
    refine R.addN (m := ((lastL r r.n).2)) (n := 1) rfl rfl (by omega) ?_
    refine R.nil ?_
    refine G.q rfl (Nat.le_of_ble_eq_true rfl) ?_
    refine R.build (bld93_0_3_4 rfl rfl) rfl ?_
    refine R.nil ?_
    refine G.alloc t93 ?_
    intro w10 b6 K10 hx10 hb6 hn6 hK10 hk6 hB6
    have ne2_6 : b2 ≠ b6 := by have h1 := hB2s.lt; rw [hh7] at h1; omega
    have ne4_6 : b4 ≠ b6 := by have h1 := hB4s.lt; rw [hh7] at h1; omega
    have hn06 := hb6
    replace hb6 := Nat.le_trans hW0 hb6
    replace hR := hR.ext hx10
    replace hB1 := hB1.ext hx10
    replace hB2 := hB2.ext hx10
    replace hB4 := hB4.ext hx10
    replace hE := hE.ext hx10
    replace hEs := hEs.ext hx10
    replace hB6 : Blk _ b6 93 #[.slice none 0 0, .slice none 0 0, .int .i64 ((0 : Nat) : Int), .bool (false), .slice none 0 0, .slice none 0 0, .int .i64 ((0 : Nat) : Int), .int .i64 ((0 : Nat) : Int), .int .i64 ((0 : Nat) : Int), .bool (false)] := hB6
    refine G.l rfl rfl (.inr rfl) (Nat.le_of_ble_eq_true rfl) ?_
    intro w11 hx11
    replace hR := hR.ext hx11
    replace hB1 := hB1.ext hx11
    replace hB2 := hB2.ext hx11
    replace hB4 := hB4.ext hx11
    replace hB6 := hB6.ext hx11
    replace hE := hE.ext hx11
    replace hEs := hEs.ext hx11
    refine R.storeA t93 hB6 rfl rfl rfl rfl (ones10 hR.bls.one hR.bds.one rfl rfl rfl rfl rfl rfl rfl rfl) (fun _ h => G.S1_new (fun _ _ h => h.1) hn06 hk6 h) ?_
    intro w12 hU12 hs12 hN12
    replace hR := hR.upT hU12 hB6 (by decide)
    replace hB1 := hB1.upT hU12 hB6 (by decide)
    replace hB2 := hB2.up hU12 (fun h => ne2_6 h)
    replace hB4 := hB4.up hU12 (fun h => ne4_6 h)
    replace hE := hE.own hU12 hb6
    replace hEs := hEs.trans hU12 (fun c hc h => by have h1 : c = b6 := h; rw [hh7] at hc; omega)
    replace hB6 : Blk _ b6 93 #[rb, rd, .int .i64 (r.pw), .bool (r.tr), .slice none 0 0, .slice none 0 0, .int .i64 ((1 : Nat) : Int), .int .i64 ((((lastL r r.n).2) + 1 : Nat) : Int), .int .i64 ((0 : Nat) : Int), .bool (false)] := hN12
    clear hN12
    refine R.nil ⟨hU12.size, ?_⟩
    intro K11 hK11 hN11
    replace hk6 := hK11 _ hk6
    refine G.nil ?_
    refine E.seq ?_
    refine E.forget [(1, .pointer (some ⟨b1, 0, none⟩)), (2, .pointer (some ⟨b2, 0, none⟩)), (4, .pointer (some ⟨b4, 0, none⟩)), (5, .int .i64 ((r.n : Nat) : Int)), (6, .pointer (some ⟨b6, 0, none⟩))] ⟨rfl, rfl, rfl, rfl, rfl, trivial⟩ (fun e => ?_)
    refine E.regionP rfl ?_
    refine R.loadA t31 hB1 rfl rfl rfl trivial ?_
    refine R.callE1 ent60 (rlast_ _ hR (by omega) hn2 hn) rfl nofun ?_
    rintro v35 w13 hx13 ⟨v35, us35, l35, rfl, hP35, hB35⟩
    replace hR := hR.ext hx13
    replace hB1 := hB1.ext hx13
    replace hB2 := hB2.ext hx13
    replace hB4 := hB4.ext hx13
    replace hB6 := hB6.ext hx13
    replace hE := hE.ext hx13
    refine R.move ?_
    refine R.extract rfl rfl ?_
    refine R.extract rfl rfl ?_
    refine R.assign ?_
    refine R.assign ?_
    have hCur0 : ((lastL r r.n).1 = Rc0 ∧ (lastL r r.n).1 = Rc0 ∧ ([] : List Rc) = [] ∧ l35.length = 0) ∨ (Cur r (lastL r r.n).1 (lastL r r.n).1 [] ∧ PcD (lastL r r.n).1 l35) := by
      rcases hB35 with ⟨h1, h2⟩ | ⟨h1, h2⟩
      · exact .inl ⟨h1, h1, rfl, by rw [h2]; rfl⟩
      · exact .inr ⟨Cur.start hPL.1 (fun e => by have := h1.xpos; rw [e] at this; exact absurd this (by decide)), PcD.of hR.ok h1 h2⟩
    refine R.nil ?_
    refine E.seq ?_
    refine E.regionP rfl ?_
    refine R.assign ?_
    refine R.nil ?_
    refine E.seq ?_
    refine E.cutM (fun e wr => ∃ (L : List Rc) (va : Value) (vs : List Value) (uss : List (List Value)) (ls : List (List (List Nat))) (vP : Value), openC r = some L ∧ Chn r (lastL r r.n).1 L ∧ RD wr rb rd r ∧ AllM wr va vs uss ls L ∧ Sl wr 3 1 vP L.length (plsC L) ∧ Blk wr b1 31 #[rb, rd, .int .i64 (r.pw), .bool (r.tr)] ∧ Blk wr b2 93 #[.slice none 0 0, .slice none 0 0, .int .i64 ((0 : Nat) : Int), .bool (false), .slice none 0 0, .slice none 0 0, .int .i64 ((0 : Nat) : Int), .int .i64 ((0 : Nat) : Int), .int .i64 ((0 : Nat) : Int), .bool (false)] ∧ Blk wr b4 93 #[rb, rd, .int .i64 (r.pw), .bool (r.tr), .slice none 0 0, .slice none 0 0, .int .i64 ((0 : Nat) : Int), .int .i64 ((0 : Nat) : Int), .int .i64 ((0 : Nat) : Int), .bool (false)] ∧ Blk wr b6 93 #[rb, rd, .int .i64 (r.pw), .bool (r.tr), .slice none 0 0, vP, .int .i64 (((firstN L) : Nat) : Int), .int .i64 ((((lastL r r.n).2) + 1 : Nat) : Int), .int .i64 ((0 : Nat) : Int), .bool (false)] ∧ Ext w wr ∧ Has e [(2, .pointer (some ⟨b2, 0, none⟩)), (4, .pointer (some ⟨b4, 0, none⟩)), (5, .int .i64 ((r.n : Nat) : Int)), (6, .pointer (some ⟨b6, 0, none⟩)), (9, va)]) ?_ ?_
    · refine E.block ?_
      refine E.loop (fun n e wr => ∃ (y : Rc) (L : List Rc) (va : Value) (vs : List Value) (uss : List (List Value)) (ls : List (List (List Nat))) (v : Value) (us : List Value) (l : List (List Nat)) (vP : Value), n = r.n + 1 - L.length ∧ ((y = Rc0 ∧ (lastL r r.n).1 = Rc0 ∧ L = [] ∧ l.length = 0) ∨ (Cur r (lastL r r.n).1 y L ∧ PcD y l)) ∧ RD wr rb rd r ∧ AllM wr va vs uss ls L ∧ PS wr v us y.h l ∧ Sl wr 3 1 vP L.length (plsC L) ∧ Blk wr b1 31 #[rb, rd, .int .i64 (r.pw), .bool (r.tr)] ∧ Blk wr b2 93 #[.slice none 0 0, .slice none 0 0, .int .i64 ((0 : Nat) : Int), .bool (false), .slice none 0 0, .slice none 0 0, .int .i64 ((0 : Nat) : Int), .int .i64 ((0 : Nat) : Int), .int .i64 ((0 : Nat) : Int), .bool (false)] ∧ Blk wr b4 93 #[rb, rd, .int .i64 (r.pw), .bool (r.tr), .slice none 0 0, .slice none 0 0, .int .i64 ((0 : Nat) : Int), .int .i64 ((0 : Nat) : Int), .int .i64 ((0 : Nat) : Int), .bool (false)] ∧ Blk wr b6 93 #[rb, rd, .int .i64 (r.pw), .bool (r.tr), .slice none 0 0, vP, .int .i64 (((firstN L) : Nat) : Int), .int .i64 ((((lastL r r.n).2) + 1 : Nat) : Int), .int .i64 ((0 : Nat) : Int), .bool (false)] ∧ Ext w wr ∧ Has e [(1, .pointer (some ⟨b1, 0, none⟩)), (2, .pointer (some ⟨b2, 0, none⟩)), (4, .pointer (some ⟨b4, 0, none⟩)), (5, .int .i64 ((r.n : Nat) : Int)), (6, .pointer (some ⟨b6, 0, none⟩)), (7, .int .i64 ((y.at_ : Nat) : Int)), (8, v), (9, va)]) (r.n + 1) ?_ ?_
      · exact ⟨(lastL r r.n).1, [], (.slice none 0 0), [], [], [], v35, us35, l35, (.slice none 0 0), rfl, hCur0, hR, AllM.nil, hP35, (Sl.nil _ _ _), hB1, hB2, hB4, hB6, hE, rfl, rfl, rfl, rfl, rfl, rfl, rfl, rfl, trivial⟩
      · rintro n e wr ⟨y, L, va, vs, uss, ls, v, us, l, vP, rfl, hCur, hR, hA, hP, hPl, hB1, hB2, hB4, hB6, hE, hH⟩
        obtain ⟨e, rfl⟩ := hH.ex
        clear hH
        refine E.seq ?_
        refine E.seq ?_
        refine E.regionP rfl ?_
        refine R.move ?_
        refine R.len Try.underlying115 hP.sl.row rfl ?_
        refine R.gtr (b := decide ((((0 : Nat) : Int)) < (((l.length : Nat) : Int)))) rfl rfl rfl ?_
        refine R.nil ?_
        refine E.cond (b := decide ((((0 : Nat) : Int)) < (((l.length : Nat) : Int)))) rfl (fun hc40 => ?_) (fun hc40 => ?_)
        · replace hc40 := dT hc40
          obtain ⟨hCu, hPc⟩ : Cur r (lastL r r.n).1 y L ∧ PcD y l := by
            rcases hCur with ⟨_, _, _, h⟩ | h
            · omega
            · exact h
          have hLl := hCu.len
          have hLt := hCu.tl
          have hyt := hCu.rc.tot
          have hya := hCu.rc.at_
          have hyn1 : 1 ≤ y.h.number := hCu.rc.xpos
          have hyn2 : y.h.number ≤ 9223372036854775807 := by have := hCu.rc.numb; omega
          obtain ⟨qa, qc, hvq, _⟩ := hP.sl
          have hcq : cellsOf [v] = [v] := by rw [hvq]; rfl
          have hyl : (y :: L).length ≤ 1001 := by simp only [List.length_cons]; omega
          have hyl0 : 0 < (y :: L).length := by simp
          refine E.skip ?_
          refine E.block ?_
          refine E.seq ?_
          refine E.regionP rfl ?_
          refine R.move ?_
          refine R.buildSlice [v] Try.underlying118 t115 rfl rfl (fun v hv => by rw [List.mem_singleton.1 hv, hvq]; rfl) (by simp) nofun ?_
          intro b42 w14 hb42 hx14 hB42 hS42
          have hn_hA_42 := hA.new hb42
          replace hb42 := Nat.le_trans hE.size hb42
          replace hR := hR.ext hx14
          replace hA := hA.ext hx14
          replace hP := hP.ext hx14
          replace hPl := hPl.ext hx14
          replace hB1 := hB1.ext hx14
          replace hB2 := hB2.ext hx14
          replace hB4 := hB4.ext hx14
          replace hB6 := hB6.ext hx14
          replace hE := hE.ext hx14
          refine R.move ?_
          refine R.append Try.underlying118 Try.underlying118 t115 (by decide) rfl hS42 hA.sl.row hA.one rfl rfl (by have := hCu.len; simp only [List.length_cons, List.length_nil]; omega) (by have := hCu.len; simp only [List.length_cons, List.length_nil]; omega) nofun ?_
          intro v44 w15 hU15 hS44 hd15
          have hF44 := Fresh.app hE (Fresh.blk hb42) hd15
          replace hR := hR.upS hU15 hS42 (by decide)
          replace hA := hA.upN (hU15.mono (fun c _ h => (Option.some.inj h).symm)) hn_hA_42
          replace hP := hP.upS hU15 hS42 (by decide)
          replace hPl := hPl.upS hU15 hS42 (by decide)
          replace hB1 := hB1.upS hU15 hS42 (by decide)
          replace hB2 := hB2.upS hU15 hS42 (by decide)
          replace hB4 := hB4.upS hU15 hS42 (by decide)
          replace hB6 := hB6.upS hU15 hS42 (by decide)
          replace hE := hE.app hU15 (Fresh.blk hb42)
          rw [hcq] at hS44
          have hA2 := hA.cons (show Sl _ 115 1 v44 (1 + L.length) ([v] ++ vs) from hS44) hP hPc
          clear hS44
          refine R.assign ?_
          
          refine R.nil ?_
          refine E.seq ?_
          refine E.regionP rfl ?_
          refine R.move ?_
          refine R.buildSlice [.int .i64 ((y.at_ : Nat) : Int)] Try.underlying54 t3 rfl rfl (by simp [Value.cells]) (by simp) nofun ?_
          intro b46 w16 hb46 hx16 hB46 hS46
          replace hb46 := Nat.le_trans hE.size hb46
          replace hR := hR.ext hx16
          replace hP := hP.ext hx16
          replace hPl := hPl.ext hx16
          replace hA2 := hA2.ext hx16
          replace hB1 := hB1.ext hx16
          replace hB2 := hB2.ext hx16
          replace hB4 := hB4.ext hx16
          replace hB6 := hB6.ext hx16
          replace hE := hE.ext hx16
          refine R.fld fa93_2 rfl ?_
          refine R.loadB t54 hB6 rfl rfl rfl trivial ?_
          refine R.append Try.underlying54 Try.underlying54 t3 (by decide) rfl hS46 hPl.row (plsC_one L) rfl rfl (by have := hCu.len; simp only [List.length_cons, List.length_nil]; omega) (by have := hCu.len; simp only [List.length_cons, List.length_nil]; omega) nofun ?_
          intro v49 w17 hU17 hS49 hd17
          have hF49 := Fresh.app hE (Fresh.blk hb46) hd17
          replace hR := hR.upS hU17 hS46 (by decide)
          replace hP := hP.upS hU17 hS46 (by decide)
          replace hA2 := hA2.upS hU17 hS46 (by decide)
          replace hB1 := hB1.upS hU17 hS46 (by decide)
          replace hB2 := hB2.upS hU17 hS46 (by decide)
          replace hB4 := hB4.upS hU17 hS46 (by decide)
          replace hB6 := hB6.upS hU17 hS46 (by decide)
          replace hE := hE.app hU17 (Fresh.blk hb46)
          replace hS49 : Sl w17 3 1 v49 (y :: L).length (plsC (y :: L)) := by rw [List.length_cons, Nat.add_comm]; exact hS49
          refine R.fld fa93_2 rfl ?_
          refine R.store t54 hB6 rfl rfl (hS49.one) (by simp) nofun ?_
          intro w18 hU18 hs18 hN18
          replace hR := hR.upT hU18 hB6 (by decide)
          replace hP := hP.upT hU18 hB6 (by decide)
          replace hA2 := hA2.upT hU18 hB6 (by decide)
          replace hS49 := hS49.upT hU18 hB6 (by decide)
          replace hB1 := hB1.upT hU18 hB6 (by decide)
          replace hB2 := hB2.up hU18 (fun h => ne2_6 h)
          replace hB4 := hB4.up hU18 (fun h => ne4_6 h)
          replace hE := hE.own hU18 hb6
          replace hB6 : Blk _ b6 93 #[rb, rd, .int .i64 (r.pw), .bool (r.tr), .slice none 0 0, v49, .int .i64 (((firstN L) : Nat) : Int), .int .i64 ((((lastL r r.n).2) + 1 : Nat) : Int), .int .i64 ((0 : Nat) : Int), .bool (false)] := hN18
          clear hN18
          refine R.nil ?_
          refine E.seq ?_
          refine E.forget [(1, .pointer (some ⟨b1, 0, none⟩)), (2, .pointer (some ⟨b2, 0, none⟩)), (4, .pointer (some ⟨b4, 0, none⟩)), (5, .int .i64 ((r.n : Nat) : Int)), (6, .pointer (some ⟨b6, 0, none⟩)), (7, .int .i64 ((y.at_ : Nat) : Int)), (8, v), (9, v44)] ⟨rfl, rfl, rfl, rfl, rfl, rfl, rfl, rfl, trivial⟩ (fun e => ?_)
          refine E.regionP rfl ?_
          refine R.assign ?_
          refine R.nil ?_
          refine E.seq ?_
          refine E.seq ?_
          refine E.regionP rfl ?_
          refine R.assign ?_
          refine R.nil ?_
          refine E.block ?_
          refine E.loop (fun n e wr => ∃ (i : Nat), n = (y :: L).length - i ∧ i ≤ (y :: L).length ∧ RD wr rb rd r ∧ PS wr v us y.h l ∧ AllM wr v44 (v :: vs) (us :: uss) (l :: ls) (y :: L) ∧ Sl wr 3 1 v49 (y :: L).length (plsC (y :: L)) ∧ Blk wr b1 31 #[rb, rd, .int .i64 (r.pw), .bool (r.tr)] ∧ Blk wr b2 93 #[.slice none 0 0, .slice none 0 0, .int .i64 ((0 : Nat) : Int), .bool (false), .slice none 0 0, .slice none 0 0, .int .i64 ((0 : Nat) : Int), .int .i64 ((0 : Nat) : Int), .int .i64 ((0 : Nat) : Int), .bool (false)] ∧ Blk wr b4 93 #[rb, rd, .int .i64 (r.pw), .bool (r.tr), .slice none 0 0, .slice none 0 0, .int .i64 ((0 : Nat) : Int), .int .i64 ((0 : Nat) : Int), .int .i64 ((0 : Nat) : Int), .bool (false)] ∧ Blk wr b6 93 #[rb, rd, .int .i64 (r.pw), .bool (r.tr), .slice none 0 0, v49, .int .i64 (((firstN L) : Nat) : Int), .int .i64 ((((lastL r r.n).2) + 1 : Nat) : Int), .int .i64 ((0 : Nat) : Int), .bool (false)] ∧ Ext w wr ∧ Has e [(1, .pointer (some ⟨b1, 0, none⟩)), (2, .pointer (some ⟨b2, 0, none⟩)), (4, .pointer (some ⟨b4, 0, none⟩)), (5, .int .i64 ((r.n : Nat) : Int)), (6, .pointer (some ⟨b6, 0, none⟩)), (7, .int .i64 ((y.at_ : Nat) : Int)), (8, v), (9, v44), (10, .int .i64 (((totalL ((y :: L).take i)) : Nat) : Int)), (11, .int .i64 ((i : Nat) : Int))]) ((y :: L).length) ?_ ?_
          · exact ⟨0, rfl, by omega, hR, hP, hA2, hS49, hB1, hB2, hB4, hB6, hE, rfl, rfl, rfl, rfl, rfl, rfl, rfl, rfl, rfl, rfl, trivial⟩
          · rintro n e wr ⟨i, rfl, hi, hR, hP, hA2, hS49, hB1, hB2, hB4, hB6, hE, hH⟩
            obtain ⟨e, rfl⟩ := hH.ex
            clear hH
            refine E.seq ?_
            refine E.seq ?_
            refine E.regionP rfl ?_
            refine R.move ?_
            refine R.move ?_
            refine R.len Try.underlying118 hA2.sl.row rfl ?_
            refine R.lss (b := decide ((((i : Nat) : Int)) < ((((y :: L).length : Nat) : Int)))) rfl rfl rfl ?_
            refine R.nil ?_
            refine E.cond (b := decide ((((i : Nat) : Int)) < ((((y :: L).length : Nat) : Int)))) rfl (fun hc54 => ?_) (fun hc54 => ?_)
            · replace hc54 := dT hc54
              have hpl := (hA2.pc i (by omega)).len
              have htt := totalL_take (l := y :: L) (i := i) (by omega)
              have htr : ((y :: L).getD i Rc0).h.total ≤ 84 := by
                rcases getD_cons_lt (y := y) (l := L) (i := i) (by omega) with ⟨_, e⟩ | ⟨q, _, hq, e⟩
                · rw [e]; exact hyt
                · rw [e]
                  rcases hCu.ch with ⟨h1, _⟩ | ⟨h1, _⟩
                  · rw [h1] at hq; exact absurd hq (Nat.not_lt_zero _)
                  · exact (h1.rc q hq).tot
              have htb := totalL_app ((y :: L).take i) ((y :: L).drop i)
              rw [List.take_append_drop, totalL_cons] at htb
              refine E.skip ?_
              refine E.seq ?_
              refine E.block ?_
              refine E.regionP rfl ?_
              refine R.move ?_
              refine R.move ?_
              refine R.move ?_
              refine R.ix (m := i) Try.underlying118 t115 (by decide) hA2.sl.row rfl rfl (by omega) ?_
              refine R.load (u := ((v :: vs).getD i undef)) t115 hA2.sl.row rfl (hA2.cell (i := i) (by first | omega | (simp only [List.length_cons]; omega))) rfl (fun _ _ => trivial) ?_
              refine R.len Try.underlying115 (hA2.rows i (by first | omega | (simp only [List.length_cons]; omega))).sl.row rfl ?_
              refine R.addV (m := (((totalL ((y :: L).take i)) : Nat) : Int)) (n := (((((l :: ls).getD i [])).length : Nat) : Int)) (v := (((totalL ((y :: L).take (i + 1))) : Nat) : Int)) rfl rfl (by omega) (by omega) (by omega) ?_
              refine R.assign ?_
              refine R.nil ?_
              refine E.forget [(1, .pointer (some ⟨b1, 0, none⟩)), (2, .pointer (some ⟨b2, 0, none⟩)), (4, .pointer (some ⟨b4, 0, none⟩)), (5, .int .i64 ((r.n : Nat) : Int)), (6, .pointer (some ⟨b6, 0, none⟩)), (7, .int .i64 ((y.at_ : Nat) : Int)), (8, v), (9, v44), (10, .int .i64 (((totalL ((y :: L).take (i + 1))) : Nat) : Int)), (11, .int .i64 ((i : Nat) : Int))] ⟨rfl, rfl, rfl, rfl, rfl, rfl, rfl, rfl, rfl, rfl, trivial⟩ (fun e => ?_)
              refine E.regionP rfl ?_
              refine R.move ?_
              refine R.addN (m := i) (n := 1) rfl rfl (by omega) ?_
              refine R.assign ?_
              refine R.nil ?_
              exact ⟨(y :: L).length - (i + 1), by omega, i + 1, rfl, by omega, hR, hP, hA2, hS49, hB1, hB2, hB4, hB6, hE, rfl, rfl, rfl, rfl, rfl, rfl, rfl, rfl, rfl, rfl, trivial⟩
            · replace hc54 := dF hc54
              have hie : totalL ((y :: L).take i) = totalL (y :: L) := by rw [List.take_of_length_le (by omega)]
              refine E.exit ?_
              refine E.seq ?_
              refine E.seq ?_
              refine E.regionP rfl ?_
              refine R.move ?_
              refine R.move ?_
              refine R.gtr (b := decide ((((r.n : Nat) : Int)) < ((((totalL ((y :: L).take i)) : Nat) : Int)))) rfl rfl rfl ?_
              refine R.nil ?_
              refine E.cond (b := decide ((((r.n : Nat) : Int)) < ((((totalL ((y :: L).take i)) : Nat) : Int)))) rfl (fun hc66 => ?_) (fun hc66 => ?_)
              · replace hc66 := dT hc66
                refine E.seq ?_
                refine E.forget [(2, .pointer (some ⟨b2, 0, none⟩)), (4, .pointer (some ⟨b4, 0, none⟩))] ⟨rfl, rfl, trivial⟩ (fun e => ?_)
                refine E.regionP rfl ?_
                refine R.loadA t93 hB4 rfl rfl rfl trivial ?_
                refine R.storeA t93 hB2 rfl rfl rfl rfl (ones10 hR.bls.one hR.bds.one rfl rfl rfl rfl rfl rfl rfl rfl) nofun ?_
                intro w19 hU19 hs19 hN19
                replace hR := hR.upT hU19 hB2 (by decide)
                replace hP := hP.upT hU19 hB2 (by decide)
                replace hA2 := hA2.upT hU19 hB2 (by decide)
                replace hS49 := hS49.upT hU19 hB2 (by decide)
                replace hB1 := hB1.upT hU19 hB2 (by decide)
                replace hB4 := hB4.up hU19 (fun h => ne2_4 h.symm)
                replace hB6 := hB6.up hU19 (fun h => ne2_6 h.symm)
                replace hE := hE.own hU19 hb2
                replace hB2 : Blk _ b2 93 #[rb, rd, .int .i64 (r.pw), .bool (r.tr), .slice none 0 0, .slice none 0 0, .int .i64 ((0 : Nat) : Int), .int .i64 ((0 : Nat) : Int), .int .i64 ((0 : Nat) : Int), .bool (false)] := hN19
                clear hN19
                refine R.assign ?_
                refine R.nil ?_
                refine E.ret ?_
                refine retA1 (.int .i64 ((421 : Nat) : Int)) t93 hB2 rfl rfl rfl rfl ⟨_, rfl, ?_⟩
                refine ⟨hE, ?_⟩
                rw [openL_rot hn0 (hCu.over (by unfold freeI; omega))]
                exact ⟨rb, rd, rfl, hR⟩
              · replace hc66 := dF hc66
                have hfre : 0 ≤ freeI r.n (y :: L) := by unfold freeI; omega
                have hCl := (hCu.chn hfre).1.lst hCu.xrc.xpos
                have hlp := (hA2.pc ((y :: L).length - 1) (by omega)).len
                rw [hCl] at hlp
                have hx0 := hCu.xrc.tot0
                refine E.skip ?_
                refine E.seq ?_
                refine E.regionP rfl ?_
                refine R.move ?_
                refine R.ix (m := 0) Try.underlying115 t120 (by decide) hP.sl.row rfl rfl (by omega) ?_
                refine R.fldE fa120_2 hP.sl.row (by rw [pcsC_len, hP.rows.len]; omega) rfl ?_
                refine R.load (u := .int .i64 ((y.h.number : Nat) : Int)) t3 hP.sl.row rfl (pcs_cell (by rw [hP.rows.len]; omega) 2 (by decide)) rfl (fun _ _ => trivial) ?_
                refine R.fld fa93_3 rfl ?_
                refine R.store t3 hB6 rfl rfl (rfl) (by simp) nofun ?_
                intro w20 hU20 hs20 hN20
                replace hR := hR.upT hU20 hB6 (by decide)
                replace hP := hP.upT hU20 hB6 (by decide)
                replace hA2 := hA2.upT hU20 hB6 (by decide)
                replace hS49 := hS49.upT hU20 hB6 (by decide)
                replace hB1 := hB1.upT hU20 hB6 (by decide)
                replace hB2 := hB2.up hU20 (fun h => ne2_6 h)
                replace hB4 := hB4.up hU20 (fun h => ne4_6 h)
                replace hE := hE.own hU20 hb6
                replace hB6 : Blk _ b6 93 #[rb, rd, .int .i64 (r.pw), .bool (r.tr), .slice none 0 0, v49, .int .i64 ((y.h.number : Nat) : Int), .int .i64 ((((lastL r r.n).2) + 1 : Nat) : Int), .int .i64 ((0 : Nat) : Int), .bool (false)] := hN20
                clear hN20
                refine R.nil ?_
                refine E.seq ?_
                refine E.seq ?_
                refine E.forget [(1, .pointer (some ⟨b1, 0, none⟩)), (2, .pointer (some ⟨b2, 0, none⟩)), (4, .pointer (some ⟨b4, 0, none⟩)), (5, .int .i64 ((r.n : Nat) : Int)), (6, .pointer (some ⟨b6, 0, none⟩)), (7, .int .i64 ((y.at_ : Nat) : Int)), (8, v), (9, v44)] ⟨rfl, rfl, rfl, rfl, rfl, rfl, rfl, rfl, trivial⟩ (fun e => ?_)
                refine E.regionW allS [] mixed rfl (by kernel_rfl) ?_
                intro w21 hx21 hh21
                replace hR := hR.ext hx21
                replace hP := hP.ext hx21
                replace hA2 := hA2.ext hx21
                replace hS49 := hS49.ext hx21
                replace hB1 := hB1.ext hx21
                replace hB2 := hB2.ext hx21
                replace hB4 := hB4.ext hx21
                replace hB6 := hB6.ext hx21
                replace hE := hE.ext hx21
                refine R.fld fa93_3 rfl ?_
                refine R.loadB t3 hB6 rfl rfl rfl trivial ?_
                refine R.move ?_
                refine R.move ?_
                refine R.len Try.underlying118 hA2.sl.row rfl ?_
                refine R.subN (m := ((y :: L).length)) (n := 1) rfl rfl (by omega) (by omega) ?_
                refine R.ix (m := (((y :: L).length) - 1)) Try.underlying118 t115 (by decide) hA2.sl.row rfl rfl (by omega) ?_
                refine R.load (u := ((v :: vs).getD (((y :: L).length) - 1) undef)) t115 hA2.sl.row rfl (hA2.cell (i := ((y :: L).length) - 1) (by first | omega | (simp only [List.length_cons]; omega))) rfl (fun _ _ => trivial) ?_
                refine R.ix (m := 0) Try.underlying115 t120 (by decide) (hA2.rows (((y :: L).length) - 1) (by first | omega | (simp only [List.length_cons]; omega))).sl.row rfl rfl (by omega) ?_
                refine R.fldE fa120_4 (hA2.rows (((y :: L).length) - 1) (by first | omega | (simp only [List.length_cons]; omega))).sl.row (by rw [pcsC_len, (hA2.rows (((y :: L).length) - 1) (by first | omega | (simp only [List.length_cons]; omega))).rows.len]; omega) rfl ?_
                refine R.load (u := .int .i64 ((((y :: L).getD (((y :: L).length) - 1) Rc0).h.first : Nat) : Int)) t3 (hA2.rows (((y :: L).length) - 1) (by first | omega | (simp only [List.length_cons]; omega))).sl.row rfl (pcs_cell (by rw [(hA2.rows (((y :: L).length) - 1) (by first | omega | (simp only [List.length_cons]; omega))).rows.len]; omega) 4 (by decide)) rfl (fun _ _ => trivial) ?_
                refine R.eql (b := decide ((((y.h.number : Nat) : Int)) = (((((y :: L).getD (((y :: L).length) - 1) Rc0).h.first : Nat) : Int)))) rfl rfl rfl ?_
                refine R.nil ?_
                refine E.cond (b := decide ((((y.h.number : Nat) : Int)) = (((((y :: L).getD (((y :: L).length) - 1) Rc0).h.first : Nat) : Int)))) rfl (fun hc84 => ?_) (fun hc84 => ?_)
                · replace hc84 := dT hc84
                  rw [hCl] at hc84
                  have hst0 : y.h.number = (lastL r r.n).1.h.first := by omega
                  refine E.exit ?_
                  exact ⟨(y :: L), v44, (v :: vs), (us :: uss), (l :: ls), v49, (hCu.stop hfre hst0), (hCu.chn hfre).1, hR, hA2, hS49, hB1, hB2, hB4, hB6, hE, rfl, rfl, rfl, rfl, rfl, trivial⟩
                · replace hc84 := dF hc84
                  rw [hCl] at hc84
                  have hst : y.h.number ≠ (lastL r r.n).1.h.first := fun e => hc84 (by omega)
                  refine E.skip ?_
                  refine E.seq ?_
                  refine E.forget [(1, .pointer (some ⟨b1, 0, none⟩)), (2, .pointer (some ⟨b2, 0, none⟩)), (4, .pointer (some ⟨b4, 0, none⟩)), (5, .int .i64 ((r.n : Nat) : Int)), (6, .pointer (some ⟨b6, 0, none⟩)), (7, .int .i64 ((y.at_ : Nat) : Int)), (8, v), (9, v44)] ⟨rfl, rfl, rfl, rfl, rfl, rfl, rfl, rfl, trivial⟩ (fun e => ?_)
                  refine E.regionW (fun c x => x < w21.heap.size ∧ (c = false → True)) []  mixed rfl (by kernel_rfl) ?_
                  intro w22 hx22 hh22
                  replace hR := hR.ext hx22
                  replace hP := hP.ext hx22
                  replace hA2 := hA2.ext hx22
                  replace hS49 := hS49.ext hx22
                  replace hB1 := hB1.ext hx22
                  replace hB2 := hB2.ext hx22
                  replace hB4 := hB4.ext hx22
                  replace hB6 := hB6.ext hx22
                  replace hE := hE.ext hx22
                  have hEs : Ext w22 w22 := Upd.refl _
                  have hS0 := hx22.size
                  have hSB : ∀ b, b < w22.heap.size → b < w21.heap.size ∧ (true = false → (fun x => True) b) := fun b hb => ⟨by rw [hh22] at hb; exact hb, nofun⟩
                  have hSA : ∀ b, b < w22.heap.size → (fun x => True) b → b < w21.heap.size ∧ (false = false → (fun x => True) b) := fun b hb h => ⟨by rw [hh22] at hb; exact hb, fun _ => h⟩
                  have hSO : ∀ b, b < w.heap.size → b < w21.heap.size ∧ (false = false → (fun x => True) b) := fun b hb => hSA b (Nat.lt_of_lt_of_le hb hE.size) (trivial)
                  have hRs := hR
                  have hPs := hP
                  have hA2s := hA2
                  have hS49s := hS49
                  have hB1s := hB1
                  have hB2s := hB2
                  have hB4s := hB4
                  have hB6s := hB6
                  refine R.loadA t31 hB1 rfl rfl rfl (hSA b1 hB1s.lt (trivial)) ?_
                  refine R.move ?_
                  refine R.move ?_
                  refine R.ix (m := 0) Try.underlying115 t120 (by decide) hP.sl.row rfl rfl (by omega) ?_
                  refine R.fldE fa120_2 hP.sl.row (by rw [pcsC_len, hP.rows.len]; omega) rfl ?_
                  refine R.load (u := .int .i64 ((y.h.number : Nat) : Int)) t3 hP.sl.row rfl (pcs_cell (by rw [hP.rows.len]; omega) 2 (by decide)) rfl (fun b e => hSA b (hPs.sl.lt b e) (trivial)) ?_
                  refine R.callE3 ent61 (rbefore_ _ (a := y.at_) (num := y.h.number) hR (by omega) hn2 hn hya hyn1 hyn2) rfl rfl rfl (fun _ _ hb => Nat.lt_of_lt_of_le hb.1 (Nat.le_trans hS0 hEs.size)) ?_
                  rintro v92 w23 hx23 hT92
                  replace hR := hR.ext hx23
                  replace hP := hP.ext hx23
                  replace hA2 := hA2.ext hx23
                  replace hS49 := hS49.ext hx23
                  replace hB1 := hB1.ext hx23
                  replace hB2 := hB2.ext hx23
                  replace hB4 := hB4.ext hx23
                  replace hB6 := hB6.ext hx23
                  replace hE := hE.ext hx23
                  replace hEs := hEs.ext hx23
                  have hk92 := optCases (beforeL r y.at_ y.h.number)
                  rcases hk92 with hk92 | ⟨z92, hk92⟩
                  · rw [hk92] at hT92
                    replace hT92 : _ = Value.tuple _ := hT92
                    subst hT92
                    refine R.move ?_
                    refine R.extract rfl rfl ?_
                    refine R.extract rfl rfl ?_
                    refine R.assign ?_
                    refine R.assign ?_
                    refine R.nil ?_
                    refine E.seq ?_
                    refine E.forget [(1, .pointer (some ⟨b1, 0, none⟩)), (2, .pointer (some ⟨b2, 0, none⟩)), (4, .pointer (some ⟨b4, 0, none⟩)), (5, .int .i64 ((r.n : Nat) : Int)), (6, .pointer (some ⟨b6, 0, none⟩)), (7, .int .i64 ((0 : Nat) : Int)), (8, .slice none 0 0), (9, v44)] ⟨rfl, rfl, rfl, rfl, rfl, rfl, rfl, rfl, trivial⟩ (fun e => ?_)
                    refine E.regionP rfl ?_
                    refine R.move ?_
                    refine R.lenV Try.underlying115 rfl ?_
                    refine R.eql (b := true) rfl rfl (by decide) ?_
                    refine R.nil ?_
                    refine E.condT rfl ?_
                    refine E.seq ?_
                    refine E.regionP rfl ?_
                    refine R.loadA t93 hB4 rfl rfl rfl trivial ?_
                    refine R.storeA t93 hB2 rfl rfl rfl rfl (ones10 hR.bls.one hR.bds.one rfl rfl rfl rfl rfl rfl rfl rfl) nofun ?_
                    intro w24 hU24 hs24 hN24
                    replace hR := hR.upT hU24 hB2 (by decide)
                    replace hP := hP.upT hU24 hB2 (by decide)
                    replace hA2 := hA2.upT hU24 hB2 (by decide)
                    replace hS49 := hS49.upT hU24 hB2 (by decide)
                    replace hB1 := hB1.upT hU24 hB2 (by decide)
                    replace hB4 := hB4.up hU24 (fun h => ne2_4 h.symm)
                    replace hB6 := hB6.up hU24 (fun h => ne2_6 h.symm)
                    replace hE := hE.own hU24 hb2
                    replace hB2 : Blk _ b2 93 #[rb, rd, .int .i64 (r.pw), .bool (r.tr), .slice none 0 0, .slice none 0 0, .int .i64 ((0 : Nat) : Int), .int .i64 ((0 : Nat) : Int), .int .i64 ((0 : Nat) : Int), .bool (false)] := hN24
                    clear hN24
                    refine R.assign ?_
                    refine R.nil ?_
                    refine E.ret ?_
                    refine retA1 (.int .i64 ((421 : Nat) : Int)) t93 hB2 rfl rfl rfl rfl ⟨_, rfl, ?_⟩
                    refine ⟨hE, ?_⟩
                    rw [openL_rot hn0 (hCu.none_ hfre hst hk92)]
                    exact ⟨rb, rd, rfl, hR⟩
                  · rw [hk92] at hT92
                    obtain ⟨v92, us92, l92, rfl, hP92, hF92⟩ := hT92
                    have hll92 := foundR_len hF92
                    have hCu92 := hCu.next hR.ok hn hfre hst hk92
                    have hzt92 := hCu92.rc.tot0
                    refine R.move ?_
                    refine R.extract rfl rfl ?_
                    refine R.extract rfl rfl ?_
                    refine R.assign ?_
                    refine R.assign ?_
                    refine R.nil ?_
                    refine E.seq ?_
                    refine E.forget [(1, .pointer (some ⟨b1, 0, none⟩)), (2, .pointer (some ⟨b2, 0, none⟩)), (4, .pointer (some ⟨b4, 0, none⟩)), (5, .int .i64 ((r.n : Nat) : Int)), (6, .pointer (some ⟨b6, 0, none⟩)), (7, .int .i64 ((z92.at_ : Nat) : Int)), (8, v92), (9, v44)] ⟨rfl, rfl, rfl, rfl, rfl, rfl, rfl, rfl, trivial⟩ (fun e => ?_)
                    refine E.regionP rfl ?_
                    refine R.move ?_
                    refine R.len Try.underlying115 hP92.sl.row rfl ?_
                    refine R.eql (b := decide ((((l92.length : Nat) : Int)) = (((0 : Nat) : Int)))) rfl rfl rfl ?_
                    refine R.nil ?_
                    refine E.cond (b := decide ((((l92.length : Nat) : Int)) = (((0 : Nat) : Int)))) rfl (fun hc97 => ?_) (fun hc97 => ?_)
                    · replace hc97 := dT hc97
                      exact absurd hc97 (by omega)
                    · replace hc97 := dF hc97
                      refine E.skip ?_
                      exact ⟨r.n + 1 - (L.length + 1), by omega, z92, (y :: L), v44, (v :: vs), (us :: uss), (l :: ls), v92, us92, l92, v49, rfl, (.inr ⟨hCu92, PcD.of hR.ok hCu92.rc hF92⟩), hR, hA2, hP92, hS49, hB1, hB2, hB4, hB6, hE, rfl, rfl, rfl, rfl, rfl, rfl, rfl, rfl, trivial⟩
        · replace hc40 := dF hc40
          refine E.exit ?_
          exact ⟨L, va, vs, uss, ls, vP, (by
            rcases hCur with ⟨_, e2, e3, _⟩ | ⟨h1, h2⟩
            · rw [e3]; exact open_zero e2
            · exact absurd h2.len (by have := h1.rc.tot0; omega)), (by
            rcases hCur with ⟨_, e2, e3, _⟩ | ⟨h1, h2⟩
            · have := Chn.start hPL.1
              rw [if_pos (by rw [e2]; rfl)] at this
              rw [e3]; exact this
            · exact absurd h2.len (by have := h1.rc.tot0; omega)), hR, hA, hPl, hB1, hB2, hB4, hB6, hE, rfl, rfl, rfl, rfl, rfl, trivial⟩
    · rintro e wr ⟨L, va, vs, uss, ls, vP, hO, hC, hR, hA, hPl, hB1, hB2, hB4, hB6, hE, hH⟩
      obtain ⟨e, rfl⟩ := hH.ex
      clear hH
      refine E.seq ?_
      refine E.seq ?_
      refine E.regionP rfl ?_
      refine R.fld fa93_4 rfl ?_
      refine R.loadB t3 hB6 rfl rfl rfl trivial ?_
      refine R.gtr (b := decide ((((4294967295 : Nat) : Int)) < (((((lastL r r.n).2) + 1 : Nat) : Int)))) rfl rfl rfl ?_
      refine R.nil ?_
      refine E.cond (b := decide ((((4294967295 : Nat) : Int)) < (((((lastL r r.n).2) + 1 : Nat) : Int)))) rfl (fun hc101 => ?_) (fun hc101 => ?_)
      · replace hc101 := dT hc101
        refine E.seq ?_
        refine E.regionP rfl ?_
        refine R.loadA t93 hB4 rfl rfl rfl trivial ?_
        refine R.storeA t93 hB2 rfl rfl rfl rfl (ones10 hR.bls.one hR.bds.one rfl rfl rfl rfl rfl rfl rfl rfl) nofun ?_
        intro w25 hU25 hs25 hN25
        replace hR := hR.upT hU25 hB2 (by decide)
        replace hA := hA.upT hU25 hB2 (by decide)
        replace hPl := hPl.upT hU25 hB2 (by decide)
        replace hB1 := hB1.upT hU25 hB2 (by decide)
        replace hB4 := hB4.up hU25 (fun h => ne2_4 h.symm)
        replace hB6 := hB6.up hU25 (fun h => ne2_6 h.symm)
        replace hE := hE.own hU25 hb2
        replace hB2 : Blk _ b2 93 #[rb, rd, .int .i64 (r.pw), .bool (r.tr), .slice none 0 0, .slice none 0 0, .int .i64 ((0 : Nat) : Int), .int .i64 ((0 : Nat) : Int), .int .i64 ((0 : Nat) : Int), .bool (false)] := hN25
        clear hN25
        refine R.assign ?_
        refine R.nil ?_
        refine E.ret ?_
        refine retA1 (.int .i64 ((4 : Nat) : Int)) t93 hB2 rfl rfl rfl rfl ⟨_, rfl, ?_⟩
        refine ⟨hE, ?_⟩
        rw [openL_full hn0 hO (by omega)]
        exact ⟨rb, rd, rfl, hR⟩
      · replace hc101 := dF hc101
        refine E.skip ?_
        refine E.seq ?_
        refine E.seq ?_
        refine E.regionP rfl ?_
        refine R.assign ?_
        refine R.nil ?_
        refine E.block ?_
        refine E.loop (fun n e wr => ∃ (a : Nat) (dc : Dk) (m : Nat) (qb : Value) (qd : Value) (vR : Value) (uR : List Value), n = L.length - a ∧ a ≤ L.length ∧ dc.n = r.n ∧ dc.pw ≤ 9223372036854775807 ∧ -9223372036854775808 ≤ dc.pw ∧ MSt (jobsL r.n (L.drop a)) dc m (mendL (jobsL r.n L) r 0) ∧ Fresh w vR ∧ RD wr rb rd r ∧ AllM wr va vs uss ls L ∧ Sl wr 3 1 vP L.length (plsC L) ∧ RD wr qb qd dc ∧ Sl wr 55 1 vR (L.take a).length uR ∧ Rows8 wr uR ((L.take a).map (·.dat)) ∧ Blk wr b1 31 #[rb, rd, .int .i64 (r.pw), .bool (r.tr)] ∧ Blk wr b2 93 #[.slice none 0 0, .slice none 0 0, .int .i64 ((0 : Nat) : Int), .bool (false), .slice none 0 0, .slice none 0 0, .int .i64 ((0 : Nat) : Int), .int .i64 ((0 : Nat) : Int), .int .i64 ((0 : Nat) : Int), .bool (false)] ∧ Blk wr b4 93 #[rb, rd, .int .i64 (r.pw), .bool (r.tr), .slice none 0 0, .slice none 0 0, .int .i64 ((0 : Nat) : Int), .int .i64 ((0 : Nat) : Int), .int .i64 ((0 : Nat) : Int), .bool (false)] ∧ Blk wr b6 93 #[qb, qd, .int .i64 (dc.pw), .bool (dc.tr), vR, vP, .int .i64 (((firstN L) : Nat) : Int), .int .i64 ((((lastL r r.n).2) + 1 : Nat) : Int), .int .i64 ((m : Nat) : Int), .bool (false)] ∧ Ext w wr ∧ Has e [(2, .pointer (some ⟨b2, 0, none⟩)), (4, .pointer (some ⟨b4, 0, none⟩)), (5, .int .i64 ((r.n : Nat) : Int)), (6, .pointer (some ⟨b6, 0, none⟩)), (9, va), (12, .int .i64 ((a : Nat) : Int))]) (L.length) ?_ ?_
        · exact ⟨0, r, 0, rb, rd, (.slice none 0 0), [], rfl, by omega, rfl, hpw0, hpw02, ⟨rfl, by have := jobs_len hC; simpa using this⟩, (Fresh.nil _), hR, hA, hPl, hR, (Sl.nil _ _ _), Rows8.nil, hB1, hB2, hB4, hB6, hE, rfl, rfl, rfl, rfl, rfl, rfl, trivial⟩
        · rintro n e wr ⟨a, dc, m, qb, qd, vR, uR, rfl, hia, hdn, hpw, hpw2, hmm, hvf, hR, hA, hPl, hQ, hVl, hVr, hB1, hB2, hB4, hB6, hE, hH⟩
          obtain ⟨e, rfl⟩ := hH.ex
          clear hH
          refine E.seq ?_
          refine E.seq ?_
          refine E.regionP rfl ?_
          refine R.move ?_
          refine R.move ?_
          refine R.len Try.underlying118 hA.sl.row rfl ?_
          refine R.lss (b := decide ((((a : Nat) : Int)) < (((L.length : Nat) : Int)))) rfl rfl rfl ?_
          refine R.nil ?_
          refine E.cond (b := decide ((((a : Nat) : Int)) < (((L.length : Nat) : Int)))) rfl (fun hc106 => ?_) (fun hc106 => ?_)
          · replace hc106 := dT hc106
            have hy := hC.rc a (by omega)
            have hyt := hy.tot
            have hya := hy.at_
            have hpl := (hA.pc a (by omega)).len
            have hLn := hC.len
            obtain ⟨N2, hN2⟩ : ∃ N2, N2 = wr.heap.size := ⟨_, rfl⟩
            have hAN : ∀ x, AlB va vs uss L.length x → x < N2 := fun x hx => hN2 ▸ hA.lt hx
            have hVN : ∀ x, UB uR x → x < N2 := fun x hx => by obtain ⟨c, q⟩ := hVr.ub hx; rw [hN2]; exact q.lt
            have hN0 : w.heap.size ≤ N2 := hN2 ▸ hE.size
            have hZ : SzM wr N2 := ⟨Nat.le_of_eq hN2⟩
            clear hN2
            refine E.skip ?_
            refine E.seq ?_
            refine E.block ?_
            refine E.seq ?_
            refine E.regionP rfl ?_
            refine R.assign ?_
            refine R.nil ?_
            refine E.seq ?_
            refine E.seq ?_
            refine E.regionP rfl ?_
            refine R.assign ?_
            refine R.nil ?_
            refine E.block ?_
            refine E.loop (fun n e wr => ∃ (k : Nat) (dc : Dk) (m : Nat) (qb : Value) (qd : Value) (rv : Value), n = (L.getD a Rc0).h.total - k ∧ k ≤ (L.getD a Rc0).h.total ∧ dc.n = r.n ∧ dc.pw ≤ 9223372036854775807 ∧ -9223372036854775808 ≤ dc.pw ∧ MSt (restK r.n (L.getD a Rc0) k (jobsL r.n (L.drop (a + 1)))) dc m (mendL (jobsL r.n L) r 0) ∧ (∀ b, vblk rv = some b → N2 ≤ b) ∧ RD wr rb rd r ∧ AllM wr va vs uss ls L ∧ Sl wr 3 1 vP L.length (plsC L) ∧ RD wr qb qd dc ∧ Sl wr 55 1 vR (L.take a).length uR ∧ Rows8 wr uR ((L.take a).map (·.dat)) ∧ SU8s wr rv ((L.getD a Rc0).dat.take (48 * k)) ∧ SzM wr N2 ∧ Blk wr b1 31 #[rb, rd, .int .i64 (r.pw), .bool (r.tr)] ∧ Blk wr b2 93 #[.slice none 0 0, .slice none 0 0, .int .i64 ((0 : Nat) : Int), .bool (false), .slice none 0 0, .slice none 0 0, .int .i64 ((0 : Nat) : Int), .int .i64 ((0 : Nat) : Int), .int .i64 ((0 : Nat) : Int), .bool (false)] ∧ Blk wr b4 93 #[rb, rd, .int .i64 (r.pw), .bool (r.tr), .slice none 0 0, .slice none 0 0, .int .i64 ((0 : Nat) : Int), .int .i64 ((0 : Nat) : Int), .int .i64 ((0 : Nat) : Int), .bool (false)] ∧ Blk wr b6 93 #[qb, qd, .int .i64 (dc.pw), .bool (dc.tr), vR, vP, .int .i64 (((firstN L) : Nat) : Int), .int .i64 ((((lastL r r.n).2) + 1 : Nat) : Int), .int .i64 ((m : Nat) : Int), .bool (false)] ∧ Ext w wr ∧ Has e [(2, .pointer (some ⟨b2, 0, none⟩)), (4, .pointer (some ⟨b4, 0, none⟩)), (5, .int .i64 ((r.n : Nat) : Int)), (6, .pointer (some ⟨b6, 0, none⟩)), (9, va), (12, .int .i64 ((a : Nat) : Int)), (13, rv), (14, .int .i64 ((k : Nat) : Int))]) ((L.getD a Rc0).h.total) ?_ ?_
            · exact ⟨0, dc, m, qb, qd, (.slice none 0 0), rfl, by omega, hdn, hpw, hpw2, (by rw [← jobsL_drop (by omega)]; exact hmm), (fun b hb => by simp [vblk] at hb), hR, hA, hPl, hQ, hVl, hVr, (Sl.nil _ _ _), hZ, hB1, hB2, hB4, hB6, hE, rfl, rfl, rfl, rfl, rfl, rfl, rfl, rfl, trivial⟩
            · rintro n e wr ⟨k, dc, m, qb, qd, rv, rfl, hik, hdn, hpw, hpw2, hmm, hrf, hR, hA, hPl, hQ, hVl, hVr, hX, hZ, hB1, hB2, hB4, hB6, hE, hH⟩
              obtain ⟨e, rfl⟩ := hH.ex
              clear hH
              refine E.seq ?_
              refine E.seq ?_
              refine E.regionP rfl ?_
              refine R.move ?_
              refine R.move ?_
              refine R.move ?_
              refine R.ix (m := a) Try.underlying118 t115 (by decide) hA.sl.row rfl rfl (by omega) ?_
              refine R.load (u := (vs.getD a undef)) t115 hA.sl.row rfl (hA.cell (i := a) (by first | omega | (simp only [List.length_cons]; omega))) rfl (fun _ _ => trivial) ?_
              refine R.len Try.underlying115 (hA.rows a (by first | omega | (simp only [List.length_cons]; omega))).sl.row rfl ?_
              refine R.lss (b := decide ((((k : Nat) : Int)) < (((((ls.getD a [])).length : Nat) : Int)))) rfl rfl rfl ?_
              refine R.nil ?_
              refine E.cond (b := decide ((((k : Nat) : Int)) < (((((ls.getD a [])).length : Nat) : Int)))) rfl (fun hc115 => ?_) (fun hc115 => ?_)
              · replace hc115 := dT hc115
                refine E.skip ?_
                refine E.seq ?_
                refine E.block ?_
                refine E.seq ?_
                refine E.regionP rfl ?_
                refine R.move ?_
                refine R.move ?_
                refine R.move ?_
                refine R.ix (m := a) Try.underlying118 t115 (by decide) hA.sl.row rfl rfl (by omega) ?_
                refine R.load (u := (vs.getD a undef)) t115 hA.sl.row rfl (hA.cell (i := a) (by first | omega | (simp only [List.length_cons]; omega))) rfl (fun _ _ => trivial) ?_
                refine R.move ?_
                refine R.ix (m := k) Try.underlying115 t120 (by decide) (hA.rows a (by first | omega | (simp only [List.length_cons]; omega))).sl.row rfl rfl (by omega) ?_
                refine R.fldE fa120_5 (hA.rows a (by first | omega | (simp only [List.length_cons]; omega))).sl.row (by rw [pcsC_len, (hA.rows a (by first | omega | (simp only [List.length_cons]; omega))).rows.len]; omega) rfl ?_
                refine R.load (u := ((uss.getD a []).getD k undef)) t55 (hA.rows a (by first | omega | (simp only [List.length_cons]; omega))).sl.row rfl (pcs_cell (by rw [(hA.rows a (by first | omega | (simp only [List.length_cons]; omega))).rows.len]; omega) 5 (by decide)) rfl (fun _ _ => trivial) ?_
                have hZ0 := hZ
                refine R.append Try.underlying55 Try.underlying55 t5 (by decide) rfl hX ((hA.rows a (by first | omega | (simp only [List.length_cons]; omega))).rows.rows k (by omega)).row u8s_one rfl rfl (by have := hy.d.lenle; simp only [List.length_take]; rw [(hA.pc a (by omega)).dat k (by omega)]; have := dataL_le (rec := (L.getD a Rc0).dat) (k := k); omega) (by have := hy.d.lenle; simp only [List.length_take]; rw [(hA.pc a (by omega)).dat k (by omega)]; have := dataL_le (rec := (L.getD a Rc0).dat) (k := k); omega) nofun ?_
                intro v127 w26 hU26 hS127 hd26
                have hF127 := Fresh.app hE (fun b hb => Nat.le_trans hN0 (hrf b hb)) hd26
                replace hR := hR.upS hU26 hX (by decide)
                replace hA := hA.up hU26 (fun x e h => by have := hrf x e; have := hAN x h; omega)
                replace hPl := hPl.upS hU26 hX (by decide)
                replace hQ := hQ.upS hU26 hX (by decide)
                replace hVl := hVl.upS hU26 hX (by decide)
                replace hVr := hVr.up hU26 (fun x e h => by have := hrf x e; have := hVN x h; omega)
                replace hZ := hZ.upS hU26 hX (by decide)
                replace hB1 := hB1.upS hU26 hX (by decide)
                replace hB2 := hB2.upS hU26 hX (by decide)
                replace hB4 := hB4.upS hU26 hX (by decide)
                replace hB6 := hB6.upS hU26 hX (by decide)
                replace hE := hE.app hU26 (fun b hb => Nat.le_trans hN0 (hrf b hb))
                replace hS127 : Sl w26 5 1 v127 ((((L.getD a Rc0).dat.take (48 * k)) ++ (((ls.getD a [])).getD k []))).length (u8s ((((L.getD a Rc0).dat.take (48 * k)) ++ (((ls.getD a [])).getD k [])))) := TA5 (xs := ((L.getD a Rc0).dat.take (48 * k))) (ys := (((ls.getD a [])).getD k [])) hS127
                have hrf2 := app_ge hZ0 hrf hd26
                replace hS127 : SU8s w26 v127 ((L.getD a Rc0).dat.take (48 * (k + 1))) := by
                  rw [← dat_take, ← (hA.pc a (by omega)).dat k (by omega)]; exact hS127
                refine R.assign ?_
                
                refine R.nil ?_
                refine E.seq ?_
                refine E.forget [(2, .pointer (some ⟨b2, 0, none⟩)), (4, .pointer (some ⟨b4, 0, none⟩)), (5, .int .i64 ((r.n : Nat) : Int)), (6, .pointer (some ⟨b6, 0, none⟩)), (9, va), (12, .int .i64 ((a : Nat) : Int)), (13, v127), (14, .int .i64 ((k : Nat) : Int))] ⟨rfl, rfl, rfl, rfl, rfl, rfl, rfl, rfl, trivial⟩ (fun e => ?_)
                refine E.regionP rfl ?_
                refine R.assign ?_
                refine R.nil ?_
                refine E.block ?_
                refine E.loop (fun n e wr => ∃ (t : Nat) (dc : Dk) (m : Nat) (qb : Value) (qd : Value), n = 2 - t ∧ t ≤ 2 ∧ dc.n = r.n ∧ dc.pw ≤ 9223372036854775807 ∧ -9223372036854775808 ≤ dc.pw ∧ MSt ((jobs2 r.n (L.getD a Rc0) k).drop t ++ restK r.n (L.getD a Rc0) (k + 1) (jobsL r.n (L.drop (a + 1)))) dc m (mendL (jobsL r.n L) r 0) ∧ RD wr rb rd r ∧ AllM wr va vs uss ls L ∧ Sl wr 3 1 vP L.length (plsC L) ∧ RD wr qb qd dc ∧ Sl wr 55 1 vR (L.take a).length uR ∧ Rows8 wr uR ((L.take a).map (·.dat)) ∧ SzM wr N2 ∧ SU8s wr v127 ((L.getD a Rc0).dat.take (48 * (k + 1))) ∧ Blk wr b1 31 #[rb, rd, .int .i64 (r.pw), .bool (r.tr)] ∧ Blk wr b2 93 #[.slice none 0 0, .slice none 0 0, .int .i64 ((0 : Nat) : Int), .bool (false), .slice none 0 0, .slice none 0 0, .int .i64 ((0 : Nat) : Int), .int .i64 ((0 : Nat) : Int), .int .i64 ((0 : Nat) : Int), .bool (false)] ∧ Blk wr b4 93 #[rb, rd, .int .i64 (r.pw), .bool (r.tr), .slice none 0 0, .slice none 0 0, .int .i64 ((0 : Nat) : Int), .int .i64 ((0 : Nat) : Int), .int .i64 ((0 : Nat) : Int), .bool (false)] ∧ Blk wr b6 93 #[qb, qd, .int .i64 (dc.pw), .bool (dc.tr), vR, vP, .int .i64 (((firstN L) : Nat) : Int), .int .i64 ((((lastL r r.n).2) + 1 : Nat) : Int), .int .i64 ((m : Nat) : Int), .bool (false)] ∧ Ext w wr ∧ Has e [(2, .pointer (some ⟨b2, 0, none⟩)), (4, .pointer (some ⟨b4, 0, none⟩)), (5, .int .i64 ((r.n : Nat) : Int)), (6, .pointer (some ⟨b6, 0, none⟩)), (9, va), (12, .int .i64 ((a : Nat) : Int)), (13, v127), (14, .int .i64 ((k : Nat) : Int)), (15, .int .i64 ((t : Nat) : Int))]) (2) ?_ ?_
                · exact ⟨0, dc, m, qb, qd, rfl, by omega, hdn, hpw, hpw2, (by rw [← restK_step (by omega)]; exact hmm), hR, hA, hPl, hQ, hVl, hVr, hZ, hS127, hB1, hB2, hB4, hB6, hE, rfl, rfl, rfl, rfl, rfl, rfl, rfl, rfl, rfl, trivial⟩
                · rintro n e wr ⟨t, dc, m, qb, qd, rfl, hit, hdn, hpw, hpw2, hmm, hR, hA, hPl, hQ, hVl, hVr, hZ, hS127, hB1, hB2, hB4, hB6, hE, hH⟩
                  obtain ⟨e, rfl⟩ := hH.ex
                  clear hH
                  refine E.seq ?_
                  refine E.seq ?_
                  refine E.regionP rfl ?_
                  refine R.move ?_
                  refine R.lss (b := decide ((((t : Nat) : Int)) < (((2 : Nat) : Int)))) rfl rfl rfl ?_
                  refine R.nil ?_
                  refine E.cond (b := decide ((((t : Nat) : Int)) < (((2 : Nat) : Int)))) rfl (fun hc129 => ?_) (fun hc129 => ?_)
                  · replace hc129 := dT hc129
                    have hbq := Dk.n_pos (d := dc) (by omega)
                    have hml := Nat.mod_lt ((L.getD a Rc0).at_ + k) (show 0 < r.n by omega)
                    have ht1 : t * r.n ≤ 1 * r.n := Nat.mul_le_mul_right _ (by omega)
                    have hmlt : m < 168000 := by rw [jobs2_drop (by omega), List.cons_append] at hmm; exact hmm.lt
                    refine E.skip ?_
                    refine E.seq ?_
                    refine E.block ?_
                    refine E.seq ?_
                    have hW0 := hE.size
                    refine E.regionF (fun c x => x < wr.heap.size ∧ (c = false → True)) [] [] mixed rfl (by kernel_rfl) (fun _ _ h => h.1) ?_
                    intro w27 hx27 hh27
                    replace hR := hR.ext hx27
                    replace hA := hA.ext hx27
                    replace hPl := hPl.ext hx27
                    replace hQ := hQ.ext hx27
                    replace hVl := hVl.ext hx27
                    replace hVr := hVr.ext hx27
                    replace hZ := hZ.ext hx27
                    replace hS127 := hS127.ext hx27
                    replace hB1 := hB1.ext hx27
                    replace hB2 := hB2.ext hx27
                    replace hB4 := hB4.ext hx27
                    replace hB6 := hB6.ext hx27
                    replace hE := hE.ext hx27
                    have hEs : Ext w27 w27 := Upd.refl _
                    have hS0 := hx27.size
                    have hSB : ∀ b, b < w27.heap.size → b < wr.heap.size ∧ (true = false → (fun x => True) b) := fun b hb => ⟨by rw [hh27] at hb; exact hb, nofun⟩
                    have hSA : ∀ b, b < w27.heap.size → (fun x => True) b → b < wr.heap.size ∧ (false = false → (fun x => True) b) := fun b hb h => ⟨by rw [hh27] at hb; exact hb, fun _ => h⟩
                    have hSO : ∀ b, b < w.heap.size → b < wr.heap.size ∧ (false = false → (fun x => True) b) := fun b hb => hSA b (Nat.lt_of_lt_of_le hb hE.size) (trivial)
                    have hRs := hR
                    have hAs := hA
                    have hPls := hPl
                    have hQs := hQ
                    have hVls := hVl
                    have hVrs := hVr
                    have hZs := hZ
                    have hS127s := hS127
                    have hB1s := hB1
                    have hB2s := hB2
                    have hB4s := hB4
                    have hB6s := hB6
                    refine G.q rfl (Nat.le_of_ble_eq_true rfl) ?_
                    refine R.fld fa93_0 rfl ?_
                    refine R.nil ?_
                    refine G.q rfl (Nat.le_of_ble_eq_true rfl) ?_
                    refine R.loadS t31 hB6 rfl (us := [qb, qd, .int .i64 (dc.pw), .bool (dc.tr)]) rfl rfl rfl (hSA b6 hB6s.lt (trivial)) ?_
                    refine R.nil ?_
                    refine G.q rfl (Nat.le_of_ble_eq_true rfl) ?_
                    refine R.fld fa93_2 rfl ?_
                    refine R.nil ?_
                    refine G.q rfl (Nat.le_of_ble_eq_true rfl) ?_
                    refine R.loadB t54 hB6 rfl rfl rfl (hSA b6 hB6s.lt (trivial)) ?_
                    refine R.nil ?_
                    refine G.q rfl (Nat.le_of_ble_eq_true rfl) ?_
                    refine R.move ?_
                    refine R.nil ?_
                    refine G.q rfl (Nat.le_of_ble_eq_true rfl) ?_
                    refine R.ix (m := a) Try.underlying54 t3 (by decide) hPl.row rfl rfl (by omega) ?_
                    refine R.nil ?_
                    refine G.q rfl (Nat.le_of_ble_eq_true rfl) ?_
                    refine R.load (u := .int .i64 (((L.getD a Rc0).at_ : Nat) : Int)) t3 hPl.row rfl (plsC_at (i := a) (by omega)) rfl (fun b e => hSA b (hPls.lt b e) (trivial)) ?_
                    refine R.nil ?_
                    refine G.q rfl (Nat.le_of_ble_eq_true rfl) ?_
                    refine R.move ?_
                    refine R.nil ?_
                    refine G.q rfl (Nat.le_of_ble_eq_true rfl) ?_
                    refine R.addN (m := ((L.getD a Rc0).at_)) (n := k) rfl rfl (by omega) ?_
                    refine R.nil ?_
                    refine G.q rfl (Nat.le_of_ble_eq_true rfl) ?_
                    refine R.move ?_
                    refine R.nil ?_
                    refine G.q rfl (Nat.le_of_ble_eq_true rfl) ?_
                    refine R.remN (m := (((L.getD a Rc0).at_) + k)) (n := r.n) rfl rfl (by omega) ?_
                    refine R.nil ?_
                    refine G.q rfl (Nat.le_of_ble_eq_true rfl) ?_
                    refine R.move ?_
                    refine R.nil ?_
                    refine G.q rfl (Nat.le_of_ble_eq_true rfl) ?_
                    refine R.move ?_
                    refine R.nil ?_
                    refine G.q rfl (Nat.le_of_ble_eq_true rfl) ?_
                    refine R.mulN (m := t) (n := r.n) rfl rfl (by omega) ?_
                    refine R.nil ?_
                    refine G.q rfl (Nat.le_of_ble_eq_true rfl) ?_
                    refine R.addN (m := ((((L.getD a Rc0).at_) + k) % r.n)) (n := (t * r.n)) rfl rfl (by omega) ?_
                    refine R.nil ?_
                    refine G.l rfl rfl (.inr rfl) (Nat.le_of_ble_eq_true rfl) ?_
                    intro w28 hx28
                    replace hR := hR.ext hx28
                    replace hA := hA.ext hx28
                    replace hPl := hPl.ext hx28
                    replace hQ := hQ.ext hx28
                    replace hVl := hVl.ext hx28
                    replace hVr := hVr.ext hx28
                    replace hZ := hZ.ext hx28
                    replace hS127 := hS127.ext hx28
                    replace hB1 := hB1.ext hx28
                    replace hB2 := hB2.ext hx28
                    replace hB4 := hB4.ext hx28
                    replace hB6 := hB6.ext hx28
                    replace hE := hE.ext hx28
                    replace hEs := hEs.ext hx28
                    refine R.callE2 ent16 (rread_ _ hQ (by omega)) rfl rfl (fun _ _ hb => G.S1_lt (fun _ _ h => h.1) (Nat.le_trans hS0 hEs.size) hb) ?_
                    rintro v148 w29 hx29 rfl
                    have hp148 : BlockP (blkO (dc.read ((((((L.getD a Rc0).at_) + k) % r.n) + (t * r.n) : Nat) : Int))) := Dk.okO hQ.ok
                    replace hR := hR.ext hx29
                    replace hA := hA.ext hx29
                    replace hPl := hPl.ext hx29
                    replace hQ := hQ.ext hx29
                    replace hVl := hVl.ext hx29
                    replace hVr := hVr.ext hx29
                    replace hZ := hZ.ext hx29
                    replace hS127 := hS127.ext hx29
                    replace hB1 := hB1.ext hx29
                    replace hB2 := hB2.ext hx29
                    replace hB4 := hB4.ext hx29
                    replace hB6 := hB6.ext hx29
                    replace hE := hE.ext hx29
                    replace hEs := hEs.ext hx29
                    refine R.nil ⟨hx29.size, ?_⟩
                    intro K28 hK28 hN28
                    refine G.q rfl (Nat.le_of_ble_eq_true rfl) ?_
                    refine R.move ?_
                    refine R.nil ?_
                    refine G.q rfl (Nat.le_of_ble_eq_true rfl) ?_
                    refine R.extract rfl rfl ?_
                    refine R.nil ?_
                    refine G.q rfl (Nat.le_of_ble_eq_true rfl) ?_
                    refine R.extract rfl rfl ?_
                    refine R.nil ?_
                    refine G.alloc t26 ?_
                    intro w30 b16 K30 hx30 hb16 hn16 hK30 hk16 hB16
                    have hn_hR_16 := hRs.new (by rw [hh27]; exact hb16)
                    have hn_hQ_16 := hQs.new (by rw [hh27]; exact hb16)
                    have hn016 := hb16
                    replace hb16 := Nat.le_trans hW0 hb16
                    replace hR := hR.ext hx30
                    replace hA := hA.ext hx30
                    replace hPl := hPl.ext hx30
                    replace hQ := hQ.ext hx30
                    replace hVl := hVl.ext hx30
                    replace hVr := hVr.ext hx30
                    replace hZ := hZ.ext hx30
                    replace hS127 := hS127.ext hx30
                    replace hB1 := hB1.ext hx30
                    replace hB2 := hB2.ext hx30
                    replace hB4 := hB4.ext hx30
                    replace hB6 := hB6.ext hx30
                    replace hE := hE.ext hx30
                    replace hEs := hEs.ext hx30
                    replace hB16 : Blk _ b16 26 (Array.replicate 64 (.int .u8 0)) := hB16
                    rw [← zeroV] at hB16
                    refine G.l rfl rfl (.inr rfl) (Nat.le_of_ble_eq_true rfl) ?_
                    intro w31 hx31
                    replace hR := hR.ext hx31
                    replace hA := hA.ext hx31
                    replace hPl := hPl.ext hx31
                    replace hQ := hQ.ext hx31
                    replace hVl := hVl.ext hx31
                    replace hVr := hVr.ext hx31
                    replace hZ := hZ.ext hx31
                    replace hS127 := hS127.ext hx31
                    replace hB1 := hB1.ext hx31
                    replace hB2 := hB2.ext hx31
                    replace hB4 := hB4.ext hx31
                    replace hB6 := hB6.ext hx31
                    replace hB16 := hB16.ext hx31
                    replace hE := hE.ext hx31
                    replace hEs := hEs.ext hx31
                    refine R.storeA t26 hB16 rfl rfl (blkV_size zeroB_ok.1) (blkV_size hp148.1) blkV_ones (fun _ h => G.S1_new (fun _ _ h => h.1) hn016 hk16 h) ?_
                    intro w32 hU32 hs32 hN32
                    replace hR := hR.upN hU32 hn_hR_16
                    replace hA := hA.upT hU32 hB16 (by decide)
                    replace hPl := hPl.upT hU32 hB16 (by decide)
                    replace hQ := hQ.upN hU32 hn_hQ_16
                    replace hVl := hVl.upT hU32 hB16 (by decide)
                    replace hVr := hVr.upT hU32 hB16 (by decide)
                    replace hZ := hZ.upT hU32 hB16 (by decide)
                    replace hS127 := hS127.upT hU32 hB16 (by decide)
                    replace hB1 := hB1.upT hU32 hB16 (by decide)
                    replace hB2 := hB2.upT hU32 hB16 (by decide)
                    replace hB4 := hB4.upT hU32 hB16 (by decide)
                    replace hB6 := hB6.upT hU32 hB16 (by decide)
                    replace hE := hE.own hU32 hb16
                    replace hEs := hEs.trans hU32 (fun c hc h => by have h1 : c = b16 := h; rw [hh27] at hc; omega)
                    replace hB16 : Blk _ b16 26 (blkV ((blkO (dc.read ((((((L.getD a Rc0).at_) + k) % r.n) + (t * r.n) : Nat) : Int))))) := hN32
                    refine R.nil ⟨hU32.size, ?_⟩
                    intro K31 hK31 hN31
                    replace hk16 := hK31 _ hk16
                    refine G.q rfl (Nat.le_of_ble_eq_true rfl) ?_
                    refine R.assign ?_
                    refine R.nil ?_
                    refine G.nil ?_
                    refine E.seq ?_
                    refine E.seq ?_
                    refine E.forget [(2, .pointer (some ⟨b2, 0, none⟩)), (4, .pointer (some ⟨b4, 0, none⟩)), (5, .int .i64 ((r.n : Nat) : Int)), (6, .pointer (some ⟨b6, 0, none⟩)), (9, va), (12, .int .i64 ((a : Nat) : Int)), (13, v127), (14, .int .i64 ((k : Nat) : Int)), (15, .int .i64 ((t : Nat) : Int)), (16, .pointer (some ⟨b16, 0, none⟩)), (17, .bool ((dc.read ((((((L.getD a Rc0).at_) + k) % r.n) + (t * r.n) : Nat) : Int)).isSome))] ⟨rfl, rfl, rfl, rfl, rfl, rfl, rfl, rfl, rfl, rfl, rfl, trivial⟩ (fun e => ?_)
                    refine E.regionW (fun c x => x < w32.heap.size ∧ (c = false → True)) []  mixed rfl (by kernel_rfl) ?_
                    intro w33 hx33 hh33
                    replace hR := hR.ext hx33
                    replace hA := hA.ext hx33
                    replace hPl := hPl.ext hx33
                    replace hQ := hQ.ext hx33
                    replace hVl := hVl.ext hx33
                    replace hVr := hVr.ext hx33
                    replace hZ := hZ.ext hx33
                    replace hS127 := hS127.ext hx33
                    replace hB1 := hB1.ext hx33
                    replace hB2 := hB2.ext hx33
                    replace hB4 := hB4.ext hx33
                    replace hB6 := hB6.ext hx33
                    replace hB16 := hB16.ext hx33
                    replace hE := hE.ext hx33
                    have hEs : Ext w33 w33 := Upd.refl _
                    have hS0 := hx33.size
                    have hSB : ∀ b, b < w33.heap.size → b < w32.heap.size ∧ (true = false → (fun x => True) b) := fun b hb => ⟨by rw [hh33] at hb; exact hb, nofun⟩
                    have hSA : ∀ b, b < w33.heap.size → (fun x => True) b → b < w32.heap.size ∧ (false = false → (fun x => True) b) := fun b hb h => ⟨by rw [hh33] at hb; exact hb, fun _ => h⟩
                    have hSO : ∀ b, b < w.heap.size → b < w32.heap.size ∧ (false = false → (fun x => True) b) := fun b hb => hSA b (Nat.lt_of_lt_of_le hb hE.size) (trivial)
                    have hRs := hR
                    have hAs := hA
                    have hPls := hPl
                    have hQs := hQ
                    have hVls := hVl
                    have hVrs := hVr
                    have hZs := hZ
                    have hS127s := hS127
                    have hB1s := hB1
                    have hB2s := hB2
                    have hB4s := hB4
                    have hB6s := hB6
                    have hB16s := hB16
                    refine R.move ?_
                    refine R.move ?_
                    have hg152 := Bool.eq_false_or_eq_true ((dc.read ((((((L.getD a Rc0).at_) + k) % r.n) + (t * r.n) : Nat) : Int)).isSome)
                    rcases hg152 with hg152 | hg152
                    · have hg152q := hg152
                      refine R.gT rfl (congrArg Value.bool hg152q) ?_
                      refine R.loadA t26 hB16 rfl (blkV_size hp148.1) rfl (hSA b16 hB16s.lt (trivial)) ?_
                      refine R.gT rfl (congrArg Value.bool hg152q) ?_
                      refine R.move ?_
                      refine R.gT rfl (congrArg Value.bool hg152q) ?_
                      refine R.move ?_
                      refine R.gT rfl (congrArg Value.bool hg152q) ?_
                      refine R.ix (m := a) Try.underlying118 t115 (by decide) hA.sl.row rfl rfl (by omega) ?_
                      refine R.gT rfl (congrArg Value.bool hg152q) ?_
                      refine R.load (u := (vs.getD a undef)) t115 hA.sl.row rfl (hA.cell (i := a) (by first | omega | (simp only [List.length_cons]; omega))) rfl (fun b e => hSA b (hAs.sl.lt b e) (trivial)) ?_
                      refine R.gT rfl (congrArg Value.bool hg152q) ?_
                      refine R.move ?_
                      refine R.gT rfl (congrArg Value.bool hg152q) ?_
                      refine R.ix (m := k) Try.underlying115 t120 (by decide) (hA.rows a (by first | omega | (simp only [List.length_cons]; omega))).sl.row rfl rfl (by omega) ?_
                      refine R.gT rfl (congrArg Value.bool hg152q) ?_
                      refine R.loadE t120 (by decide) (hA.rows a (by first | omega | (simp only [List.length_cons]; omega))).sl.row rfl (pcs_take0 (by rw [(hA.rows a (by first | omega | (simp only [List.length_cons]; omega))).rows.len]; omega)) rfl rfl (fun b e => hSA b ((hAs.rows a (by first | omega | (simp only [List.length_cons]; omega))).sl.lt b e) (trivial)) ?_
                      refine R.gT rfl (congrArg Value.bool hg152q) ?_
                      refine R.callE1 ent62 (rbytesP _ (d := r) (y := (L.getD a Rc0)) (l := (ls.getD a [])) (k := k) ((hA.rows a (by first | omega | (simp only [List.length_cons]; omega))).rows.rows k (by omega)) (hA.pc a (by omega)) (by omega) hy) rfl (fun _ _ hb => Nat.lt_of_lt_of_le hb.1 (Nat.le_trans hS0 hEs.size)) ?_
                      rintro v161 w34 hx34 rfl
                      replace hR := hR.ext hx34
                      replace hA := hA.ext hx34
                      replace hPl := hPl.ext hx34
                      replace hQ := hQ.ext hx34
                      replace hVl := hVl.ext hx34
                      replace hVr := hVr.ext hx34
                      replace hZ := hZ.ext hx34
                      replace hS127 := hS127.ext hx34
                      replace hB1 := hB1.ext hx34
                      replace hB2 := hB2.ext hx34
                      replace hB4 := hB4.ext hx34
                      replace hB6 := hB6.ext hx34
                      replace hB16 := hB16.ext hx34
                      replace hE := hE.ext hx34
                      replace hEs := hEs.ext hx34
                      refine R.gT rfl (congrArg Value.bool hg152q) ?_
                      refine R.eqlA (b' := decide ((blkO (dc.read ((((((L.getD a Rc0).at_) + k) % r.n) + (t * r.n) : Nat) : Int))) = (pcB (L.getD a Rc0) k))) rfl rfl Try.eqGuardType26 (eq26 hp148 (pcB_ok hy.d.byt k)) ?_
                      refine R.pickT (congrArg Value.bool hg152q) ?_
                      refine R.nil ?_
                      refine E.cond (b := decide ((blkO (dc.read ((((((L.getD a Rc0).at_) + k) % r.n) + (t * r.n) : Nat) : Int))) = (pcB (L.getD a Rc0) k))) rfl (fun hc163 => ?_) (fun hc163 => ?_)
                      · replace hc163 := dT hc163
                        refine E.exit ?_
                        refine E.forget [(2, .pointer (some ⟨b2, 0, none⟩)), (4, .pointer (some ⟨b4, 0, none⟩)), (5, .int .i64 ((r.n : Nat) : Int)), (6, .pointer (some ⟨b6, 0, none⟩)), (9, va), (12, .int .i64 ((a : Nat) : Int)), (13, v127), (14, .int .i64 ((k : Nat) : Int)), (15, .int .i64 ((t : Nat) : Int))] ⟨rfl, rfl, rfl, rfl, rfl, rfl, rfl, rfl, rfl, trivial⟩ (fun e => ?_)
                        refine E.regionP rfl ?_
                        refine R.move ?_
                        refine R.addN (m := t) (n := 1) rfl rfl (by omega) ?_
                        refine R.assign ?_
                        refine R.nil ?_
                        exact ⟨2 - (t + 1), by omega, t + 1, dc, m, qb, qd, rfl, by omega, hdn, hpw, hpw2, (by rw [jobs2_drop (by omega), List.cons_append] at hmm; exact hmm.skip hg152 hc163), hR, hA, hPl, hQ, hVl, hVr, hZ, hS127, hB1, hB2, hB4, hB6, hE, rfl, rfl, rfl, rfl, rfl, rfl, rfl, rfl, rfl, trivial⟩
                      · replace hc163 := dF hc163
                        refine E.skip ?_
                        refine E.seq ?_
                        refine E.forget [(2, .pointer (some ⟨b2, 0, none⟩)), (4, .pointer (some ⟨b4, 0, none⟩)), (5, .int .i64 ((r.n : Nat) : Int)), (6, .pointer (some ⟨b6, 0, none⟩)), (9, va), (12, .int .i64 ((a : Nat) : Int)), (13, v127), (14, .int .i64 ((k : Nat) : Int)), (15, .int .i64 ((t : Nat) : Int))] ⟨rfl, rfl, rfl, rfl, rfl, rfl, rfl, rfl, rfl, trivial⟩ (fun e => ?_)
                        have hW0 := hE.size
                        refine E.regionF (fun c x => x < w34.heap.size ∧ (c = false → x ≠ b6)) [166, 168] [187] mixed rfl (by kernel_rfl) (fun _ _ h => h.1) ?_
                        intro w35 hx35 hh35
                        replace hR := hR.ext hx35
                        replace hA := hA.ext hx35
                        replace hPl := hPl.ext hx35
                        replace hQ := hQ.ext hx35
                        replace hVl := hVl.ext hx35
                        replace hVr := hVr.ext hx35
                        replace hZ := hZ.ext hx35
                        replace hS127 := hS127.ext hx35
                        replace hB1 := hB1.ext hx35
                        replace hB2 := hB2.ext hx35
                        replace hB4 := hB4.ext hx35
                        replace hB6 := hB6.ext hx35
                        replace hB16 := hB16.ext hx35
                        replace hE := hE.ext hx35
                        have hEs : Ext w35 w35 := Upd.refl _
                        have hS0 := hx35.size
                        have hSB : ∀ b, b < w35.heap.size → b < w34.heap.size ∧ (true = false → (fun x => x ≠ b6) b) := fun b hb => ⟨by rw [hh35] at hb; exact hb, nofun⟩
                        have hSA : ∀ b, b < w35.heap.size → (fun x => x ≠ b6) b → b < w34.heap.size ∧ (false = false → (fun x => x ≠ b6) b) := fun b hb h => ⟨by rw [hh35] at hb; exact hb, fun _ => h⟩
                        have hRs := hR
                        have hAs := hA
                        have hPls := hPl
                        have hQs := hQ
                        have hVls := hVl
                        have hVrs := hVr
                        have hZs := hZ
                        have hS127s := hS127
                        have hB1s := hB1
                        have hB2s := hB2
                        have hB4s := hB4
                        have hB6s := hB6
                        have hB16s := hB16
                        refine G.q rfl (Nat.le_of_ble_eq_true rfl) ?_
                        refine R.fld fa93_0 rfl ?_
                        refine R.nil ?_
                        refine G.q rfl (Nat.le_of_ble_eq_true rfl) ?_
                        refine R.loadS t31 hB6 rfl (us := [qb, qd, .int .i64 (dc.pw), .bool (dc.tr)]) rfl rfl rfl (hSB b6 hB6s.lt) ?_
                        refine R.nil ?_
                        refine G.q rfl (Nat.le_of_ble_eq_true rfl) ?_
                        refine R.fld fa93_2 rfl ?_
                        refine R.nil ?_
                        refine G.q rfl (Nat.le_of_ble_eq_true rfl) ?_
                        refine R.loadB t54 hB6 rfl rfl rfl (hSB b6 hB6s.lt) ?_
                        refine R.nil ?_
                        refine G.q rfl (Nat.le_of_ble_eq_true rfl) ?_
                        refine R.move ?_
                        refine R.nil ?_
                        refine G.q rfl (Nat.le_of_ble_eq_true rfl) ?_
                        refine R.ix (m := a) Try.underlying54 t3 (by decide) hPl.row rfl rfl (by omega) ?_
                        refine R.nil ?_
                        refine G.q rfl (Nat.le_of_ble_eq_true rfl) ?_
                        refine R.load (u := .int .i64 (((L.getD a Rc0).at_ : Nat) : Int)) t3 hPl.row rfl (plsC_at (i := a) (by omega)) rfl (fun b e => hSA b (hPls.lt b e) (fun q => (hB6s.ne_vblk hPls (by decide)) (q ▸ e))) ?_
                        refine R.nil ?_
                        refine G.q rfl (Nat.le_of_ble_eq_true rfl) ?_
                        refine R.move ?_
                        refine R.nil ?_
                        refine G.q rfl (Nat.le_of_ble_eq_true rfl) ?_
                        refine R.addN (m := ((L.getD a Rc0).at_)) (n := k) rfl rfl (by omega) ?_
                        refine R.nil ?_
                        refine G.q rfl (Nat.le_of_ble_eq_true rfl) ?_
                        refine R.move ?_
                        refine R.nil ?_
                        refine G.q rfl (Nat.le_of_ble_eq_true rfl) ?_
                        refine R.remN (m := (((L.getD a Rc0).at_) + k)) (n := r.n) rfl rfl (by omega) ?_
                        refine R.nil ?_
                        refine G.q rfl (Nat.le_of_ble_eq_true rfl) ?_
                        refine R.move ?_
                        refine R.nil ?_
                        refine G.q rfl (Nat.le_of_ble_eq_true rfl) ?_
                        refine R.move ?_
                        refine R.nil ?_
                        refine G.q rfl (Nat.le_of_ble_eq_true rfl) ?_
                        refine R.mulN (m := t) (n := r.n) rfl rfl (by omega) ?_
                        refine R.nil ?_
                        refine G.q rfl (Nat.le_of_ble_eq_true rfl) ?_
                        refine R.addN (m := ((((L.getD a Rc0).at_) + k) % r.n)) (n := (t * r.n)) rfl rfl (by omega) ?_
                        refine R.nil ?_
                        refine G.q rfl (Nat.le_of_ble_eq_true rfl) ?_
                        refine R.move ?_
                        refine R.nil ?_
                        refine G.q rfl (Nat.le_of_ble_eq_true rfl) ?_
                        refine R.move ?_
                        refine R.nil ?_
                        refine G.q rfl (Nat.le_of_ble_eq_true rfl) ?_
                        refine R.ix (m := a) Try.underlying118 t115 (by decide) hA.sl.row rfl rfl (by omega) ?_
                        refine R.nil ?_
                        refine G.q rfl (Nat.le_of_ble_eq_true rfl) ?_
                        refine R.load (u := (vs.getD a undef)) t115 hA.sl.row rfl (hA.cell (i := a) (by first | omega | (simp only [List.length_cons]; omega))) rfl (fun b e => hSA b (hAs.sl.lt b e) (fun q => (hB6s.ne_vblk hAs.sl (by decide)) (q ▸ e))) ?_
                        refine R.nil ?_
                        refine G.q rfl (Nat.le_of_ble_eq_true rfl) ?_
                        refine R.move ?_
                        refine R.nil ?_
                        refine G.q rfl (Nat.le_of_ble_eq_true rfl) ?_
                        refine R.ix (m := k) Try.underlying115 t120 (by decide) (hA.rows a (by first | omega | (simp only [List.length_cons]; omega))).sl.row rfl rfl (by omega) ?_
                        refine R.nil ?_
                        refine G.q rfl (Nat.le_of_ble_eq_true rfl) ?_
                        refine R.loadE t120 (by decide) (hA.rows a (by first | omega | (simp only [List.length_cons]; omega))).sl.row rfl (pcs_take0 (by rw [(hA.rows a (by first | omega | (simp only [List.length_cons]; omega))).rows.len]; omega)) rfl rfl (fun b e => hSA b ((hAs.rows a (by first | omega | (simp only [List.length_cons]; omega))).sl.lt b e) (fun q => (hB6s.ne_vblk (hAs.rows a (by first | omega | (simp only [List.length_cons]; omega))).sl (by decide)) (q ▸ e))) ?_
                        refine R.nil ?_
                        refine G.l rfl rfl (.inl rfl) (Nat.le_of_ble_eq_true rfl) ?_
                        intro w36 hx36
                        replace hR := hR.ext hx36
                        replace hA := hA.ext hx36
                        replace hPl := hPl.ext hx36
                        replace hQ := hQ.ext hx36
                        replace hVl := hVl.ext hx36
                        replace hVr := hVr.ext hx36
                        replace hZ := hZ.ext hx36
                        replace hS127 := hS127.ext hx36
                        replace hB1 := hB1.ext hx36
                        replace hB2 := hB2.ext hx36
                        replace hB4 := hB4.ext hx36
                        replace hB6 := hB6.ext hx36
                        replace hB16 := hB16.ext hx36
                        replace hE := hE.ext hx36
                        replace hEs := hEs.ext hx36
                        refine R.callE1 ent62 (rbytesP _ (d := r) (y := (L.getD a Rc0)) (l := (ls.getD a [])) (k := k) ((hA.rows a (by first | omega | (simp only [List.length_cons]; omega))).rows.rows k (by omega)) (hA.pc a (by omega)) (by omega) hy) rfl (fun _ _ hb => G.S1_lt (fun _ _ h => h.1) (Nat.le_trans hS0 hEs.size) hb) ?_
                        rintro v187 w37 hx37 rfl
                        replace hR := hR.ext hx37
                        replace hA := hA.ext hx37
                        replace hPl := hPl.ext hx37
                        replace hQ := hQ.ext hx37
                        replace hVl := hVl.ext hx37
                        replace hVr := hVr.ext hx37
                        replace hZ := hZ.ext hx37
                        replace hS127 := hS127.ext hx37
                        replace hB1 := hB1.ext hx37
                        replace hB2 := hB2.ext hx37
                        replace hB4 := hB4.ext hx37
                        replace hB6 := hB6.ext hx37
                        replace hB16 := hB16.ext hx37
                        replace hE := hE.ext hx37
                        replace hEs := hEs.ext hx37
                        refine R.nil ⟨hx37.size, ?_⟩
                        intro K36 hK36 hN36
                        refine G.l rfl rfl (.inr rfl) (Nat.le_of_ble_eq_true rfl) ?_
                        intro w38 hx38
                        replace hR := hR.ext hx38
                        replace hA := hA.ext hx38
                        replace hPl := hPl.ext hx38
                        replace hQ := hQ.ext hx38
                        replace hVl := hVl.ext hx38
                        replace hVr := hVr.ext hx38
                        replace hZ := hZ.ext hx38
                        replace hS127 := hS127.ext hx38
                        replace hB1 := hB1.ext hx38
                        replace hB2 := hB2.ext hx38
                        replace hB4 := hB4.ext hx38
                        replace hB6 := hB6.ext hx38
                        replace hB16 := hB16.ext hx38
                        replace hE := hE.ext hx38
                        replace hEs := hEs.ext hx38
                        refine R.callE3 ent18 (rwrite_ _ hQ (by omega) (pcB_ok hy.d.byt k) hpw hpw2) rfl rfl rfl (fun _ _ hb => G.S1_lt (fun _ _ h => h.1) (Nat.le_trans hS0 hEs.size) hb) ?_
                        rintro v188 w39 hx39 ⟨rb188, rd188, rfl, hR188, hX188⟩
                        replace hR := hR.ext hx39
                        replace hA := hA.ext hx39
                        replace hPl := hPl.ext hx39
                        replace hQ := hQ.ext hx39
                        replace hVl := hVl.ext hx39
                        replace hVr := hVr.ext hx39
                        replace hZ := hZ.ext hx39
                        replace hS127 := hS127.ext hx39
                        replace hB1 := hB1.ext hx39
                        replace hB2 := hB2.ext hx39
                        replace hB4 := hB4.ext hx39
                        replace hB6 := hB6.ext hx39
                        replace hB16 := hB16.ext hx39
                        replace hE := hE.ext hx39
                        replace hEs := hEs.ext hx39
                        refine R.nil ⟨hx39.size, ?_⟩
                        intro K38 hK38 hN38
                        refine G.q rfl (Nat.le_of_ble_eq_true rfl) ?_
                        refine R.move ?_
                        refine R.nil ?_
                        refine G.q rfl (Nat.le_of_ble_eq_true rfl) ?_
                        refine R.extract rfl rfl ?_
                        refine R.nil ?_
                        refine G.q rfl (Nat.le_of_ble_eq_true rfl) ?_
                        refine R.extract rfl rfl ?_
                        refine R.nil ?_
                        refine G.q rfl (Nat.le_of_ble_eq_true rfl) ?_
                        refine R.fld fa93_0 rfl ?_
                        refine R.nil ?_
                        refine G.l rfl rfl (.inr rfl) (Nat.le_of_ble_eq_true rfl) ?_
                        intro w40 hx40
                        replace hR := hR.ext hx40
                        replace hA := hA.ext hx40
                        replace hPl := hPl.ext hx40
                        replace hQ := hQ.ext hx40
                        replace hVl := hVl.ext hx40
                        replace hVr := hVr.ext hx40
                        replace hZ := hZ.ext hx40
                        replace hS127 := hS127.ext hx40
                        replace hR188 := hR188.ext hx40
                        replace hB1 := hB1.ext hx40
                        replace hB2 := hB2.ext hx40
                        replace hB4 := hB4.ext hx40
                        replace hB6 := hB6.ext hx40
                        replace hB16 := hB16.ext hx40
                        replace hE := hE.ext hx40
                        replace hEs := hEs.ext hx40
                        refine R.storeG (vs := [rb188, rd188, .int .i64 (((dc.write ((((((L.getD a Rc0).at_) + k) % r.n) + (t * r.n) : Nat) : Int) ((pcB (L.getD a Rc0) k))).1).pw), .bool (((dc.write ((((((L.getD a Rc0).at_) + k) % r.n) + (t * r.n) : Nat) : Int) ((pcB (L.getD a Rc0) k))).1).tr)]) t31 hB6 rfl rfl rfl rfl (ones4 hR188.bls.one hR188.bds.one rfl rfl) (by first | decide | simp) (fun _ h => h.elim (fun h => h.2 rfl rfl) (fun h => h.elim (fun h => absurd h.1 (by decide)) (fun h => by have h1 := hB6s.lt; rw [hh35] at h1; have := h.1; omega))) ?_
                        intro w41 hU41 hs41 hN41
                        replace hR := hR.upT hU41 hB6 (by decide)
                        replace hA := hA.upT hU41 hB6 (by decide)
                        replace hPl := hPl.upT hU41 hB6 (by decide)
                        replace hQ := hQ.upT hU41 hB6 (by decide)
                        replace hVl := hVl.upT hU41 hB6 (by decide)
                        replace hVr := hVr.upT hU41 hB6 (by decide)
                        replace hZ := hZ.upT hU41 hB6 (by decide)
                        replace hS127 := hS127.upT hU41 hB6 (by decide)
                        replace hR188 := hR188.upT hU41 hB6 (by decide)
                        replace hB1 := hB1.upT hU41 hB6 (by decide)
                        replace hB2 := hB2.up hU41 (fun h => ne2_6 h)
                        replace hB4 := hB4.up hU41 (fun h => ne4_6 h)
                        replace hB16 := hB16.upT hU41 hB6 (by decide)
                        replace hE := hE.own hU41 hb6
                        replace hB6 : Blk _ b6 93 #[rb188, rd188, .int .i64 (((dc.write ((((((L.getD a Rc0).at_) + k) % r.n) + (t * r.n) : Nat) : Int) ((pcB (L.getD a Rc0) k))).1).pw), .bool (((dc.write ((((((L.getD a Rc0).at_) + k) % r.n) + (t * r.n) : Nat) : Int) ((pcB (L.getD a Rc0) k))).1).tr), vR, vP, .int .i64 (((firstN L) : Nat) : Int), .int .i64 ((((lastL r r.n).2) + 1 : Nat) : Int), .int .i64 ((m : Nat) : Int), .bool (false)] := hN41
                        clear hN41
                        refine R.nil ⟨hU41.size, ?_⟩
                        intro K40 hK40 hN40
                        refine G.q rfl (Nat.le_of_ble_eq_true rfl) ?_
                        refine R.assign ?_
                        refine R.nil ?_
                        refine G.nil ?_
                        refine E.seq ?_
                        refine E.seq ?_
                        refine E.forget [(2, .pointer (some ⟨b2, 0, none⟩)), (4, .pointer (some ⟨b4, 0, none⟩)), (5, .int .i64 ((r.n : Nat) : Int)), (6, .pointer (some ⟨b6, 0, none⟩)), (9, va), (12, .int .i64 ((a : Nat) : Int)), (13, v127), (14, .int .i64 ((k : Nat) : Int)), (15, .int .i64 ((t : Nat) : Int)), (17, .bool ((dc.write ((((((L.getD a Rc0).at_) + k) % r.n) + (t * r.n) : Nat) : Int) ((pcB (L.getD a Rc0) k))).2))] ⟨rfl, rfl, rfl, rfl, rfl, rfl, rfl, rfl, rfl, rfl, trivial⟩ (fun e => ?_)
                        refine E.regionP rfl ?_
                        refine R.move ?_
                        refine R.not rfl ?_
                        refine R.nil ?_
                        refine E.cond (b := !((dc.write ((((((L.getD a Rc0).at_) + k) % r.n) + (t * r.n) : Nat) : Int) ((pcB (L.getD a Rc0) k))).2)) rfl (fun hc193 => ?_) (fun hc193 => ?_)
                        · refine E.seq ?_
                          refine E.regionP rfl ?_
                          refine R.fld fa93_0 rfl ?_
                          refine R.loadS t31 hB6 rfl (us := [rb188, rd188, .int .i64 (((dc.write ((((((L.getD a Rc0).at_) + k) % r.n) + (t * r.n) : Nat) : Int) ((pcB (L.getD a Rc0) k))).1).pw), .bool (((dc.write ((((((L.getD a Rc0).at_) + k) % r.n) + (t * r.n) : Nat) : Int) ((pcB (L.getD a Rc0) k))).1).tr)]) rfl rfl rfl trivial ?_
                          refine R.fld fa93_0 rfl ?_
                          refine R.storeG (vs := [rb188, rd188, .int .i64 (((dc.write ((((((L.getD a Rc0).at_) + k) % r.n) + (t * r.n) : Nat) : Int) ((pcB (L.getD a Rc0) k))).1).pw), .bool (((dc.write ((((((L.getD a Rc0).at_) + k) % r.n) + (t * r.n) : Nat) : Int) ((pcB (L.getD a Rc0) k))).1).tr)]) t31 hB4 rfl rfl rfl rfl (ones4 hR188.bls.one hR188.bds.one rfl rfl) (by first | decide | simp) nofun ?_
                          intro w42 hU42 hs42 hN42
                          replace hR := hR.upT hU42 hB4 (by decide)
                          replace hA := hA.upT hU42 hB4 (by decide)
                          replace hPl := hPl.upT hU42 hB4 (by decide)
                          replace hQ := hQ.upT hU42 hB4 (by decide)
                          replace hVl := hVl.upT hU42 hB4 (by decide)
                          replace hVr := hVr.upT hU42 hB4 (by decide)
                          replace hZ := hZ.upT hU42 hB4 (by decide)
                          replace hS127 := hS127.upT hU42 hB4 (by decide)
                          replace hR188 := hR188.upT hU42 hB4 (by decide)
                          replace hB1 := hB1.upT hU42 hB4 (by decide)
                          replace hB2 := hB2.up hU42 (fun h => ne2_4 h)
                          replace hB6 := hB6.up hU42 (fun h => ne4_6 h.symm)
                          replace hB16 := hB16.upT hU42 hB4 (by decide)
                          replace hE := hE.own hU42 hb4
                          replace hB4 : Blk _ b4 93 #[rb188, rd188, .int .i64 (((dc.write ((((((L.getD a Rc0).at_) + k) % r.n) + (t * r.n) : Nat) : Int) ((pcB (L.getD a Rc0) k))).1).pw), .bool (((dc.write ((((((L.getD a Rc0).at_) + k) % r.n) + (t * r.n) : Nat) : Int) ((pcB (L.getD a Rc0) k))).1).tr), .slice none 0 0, .slice none 0 0, .int .i64 ((0 : Nat) : Int), .int .i64 ((0 : Nat) : Int), .int .i64 ((0 : Nat) : Int), .bool (false)] := hN42
                          clear hN42
                          refine R.nil ?_
                          refine E.seq ?_
                          refine E.forget [(2, .pointer (some ⟨b2, 0, none⟩)), (4, .pointer (some ⟨b4, 0, none⟩))] ⟨rfl, rfl, trivial⟩ (fun e => ?_)
                          refine E.regionP rfl ?_
                          refine R.loadA t93 hB4 rfl rfl rfl trivial ?_
                          refine R.storeA t93 hB2 rfl rfl rfl rfl (ones10 hR188.bls.one hR188.bds.one rfl rfl rfl rfl rfl rfl rfl rfl) nofun ?_
                          intro w43 hU43 hs43 hN43
                          replace hR := hR.upT hU43 hB2 (by decide)
                          replace hA := hA.upT hU43 hB2 (by decide)
                          replace hPl := hPl.upT hU43 hB2 (by decide)
                          replace hQ := hQ.upT hU43 hB2 (by decide)
                          replace hVl := hVl.upT hU43 hB2 (by decide)
                          replace hVr := hVr.upT hU43 hB2 (by decide)
                          replace hZ := hZ.upT hU43 hB2 (by decide)
                          replace hS127 := hS127.upT hU43 hB2 (by decide)
                          replace hR188 := hR188.upT hU43 hB2 (by decide)
                          replace hB1 := hB1.upT hU43 hB2 (by decide)
                          replace hB4 := hB4.up hU43 (fun h => ne2_4 h.symm)
                          replace hB6 := hB6.up hU43 (fun h => ne2_6 h.symm)
                          replace hB16 := hB16.upT hU43 hB2 (by decide)
                          replace hE := hE.own hU43 hb2
                          replace hB2 : Blk _ b2 93 #[rb188, rd188, .int .i64 (((dc.write ((((((L.getD a Rc0).at_) + k) % r.n) + (t * r.n) : Nat) : Int) ((pcB (L.getD a Rc0) k))).1).pw), .bool (((dc.write ((((((L.getD a Rc0).at_) + k) % r.n) + (t * r.n) : Nat) : Int) ((pcB (L.getD a Rc0) k))).1).tr), .slice none 0 0, .slice none 0 0, .int .i64 ((0 : Nat) : Int), .int .i64 ((0 : Nat) : Int), .int .i64 ((0 : Nat) : Int), .bool (false)] := hN43
                          clear hN43
                          refine R.assign ?_
                          refine R.nil ?_
                          refine E.ret ?_
                          refine retA1 (.int .i64 ((420 : Nat) : Int)) t93 hB2 rfl rfl rfl rfl ⟨_, rfl, ?_⟩
                          refine ⟨hE, ?_⟩
                          rw [jobs2_drop (by omega), List.cons_append] at hmm
                          rw [openL_pow hn0 hO (by omega) (hmm.fail (.inr hc163) (by simpa using hc193))]
                          exact ⟨_, _, rfl, hR188⟩
                        · refine E.skip ?_
                          refine E.regionP rfl ?_
                          refine R.fld fa93_5 rfl ?_
                          refine R.loadB t3 hB6 rfl rfl rfl trivial ?_
                          refine R.addN (m := m) (n := 1) rfl rfl (by omega) ?_
                          refine R.fld fa93_5 rfl ?_
                          refine R.store t3 hB6 rfl rfl (rfl) (by simp) nofun ?_
                          intro w44 hU44 hs44 hN44
                          replace hR := hR.upT hU44 hB6 (by decide)
                          replace hA := hA.upT hU44 hB6 (by decide)
                          replace hPl := hPl.upT hU44 hB6 (by decide)
                          replace hQ := hQ.upT hU44 hB6 (by decide)
                          replace hVl := hVl.upT hU44 hB6 (by decide)
                          replace hVr := hVr.upT hU44 hB6 (by decide)
                          replace hZ := hZ.upT hU44 hB6 (by decide)
                          replace hS127 := hS127.upT hU44 hB6 (by decide)
                          replace hR188 := hR188.upT hU44 hB6 (by decide)
                          replace hB1 := hB1.upT hU44 hB6 (by decide)
                          replace hB2 := hB2.up hU44 (fun h => ne2_6 h)
                          replace hB4 := hB4.up hU44 (fun h => ne4_6 h)
                          replace hB16 := hB16.upT hU44 hB6 (by decide)
                          replace hE := hE.own hU44 hb6
                          replace hB6 : Blk _ b6 93 #[rb188, rd188, .int .i64 (((dc.write ((((((L.getD a Rc0).at_) + k) % r.n) + (t * r.n) : Nat) : Int) ((pcB (L.getD a Rc0) k))).1).pw), .bool (((dc.write ((((((L.getD a Rc0).at_) + k) % r.n) + (t * r.n) : Nat) : Int) ((pcB (L.getD a Rc0) k))).1).tr), vR, vP, .int .i64 (((firstN L) : Nat) : Int), .int .i64 ((((lastL r r.n).2) + 1 : Nat) : Int), .int .i64 ((m + 1 : Nat) : Int), .bool (false)] := hN44
                          clear hN44
                          refine R.nil ?_
                          refine E.regionP rfl ?_
                          refine R.move ?_
                          refine R.addN (m := t) (n := 1) rfl rfl (by omega) ?_
                          refine R.assign ?_
                          refine R.nil ?_
                          exact ⟨2 - (t + 1), by omega, t + 1, _, m + 1, _, _, rfl, by omega, ((Dk.write_n _ _ _).trans hdn), (Dk.write_pw _ _ _ (by decide) hpw), (Dk.write_pw2 _ _ _ hpw2), (by rw [jobs2_drop (by omega), List.cons_append] at hmm; exact hmm.write (.inr hc163) (by simpa using hc193)), hR, hA, hPl, hR188, hVl, hVr, hZ, hS127, hB1, hB2, hB4, hB6, hE, rfl, rfl, rfl, rfl, rfl, rfl, rfl, rfl, rfl, trivial⟩
                    · have hg152q := hg152
                      refine R.gF rfl (congrArg Value.bool hg152q) rfl ?_
                      refine R.gF rfl (congrArg Value.bool hg152q) rfl ?_
                      refine R.gF rfl (congrArg Value.bool hg152q) rfl ?_
                      refine R.gF rfl (congrArg Value.bool hg152q) rfl ?_
                      refine R.gF rfl (congrArg Value.bool hg152q) rfl ?_
                      refine R.gF rfl (congrArg Value.bool hg152q) rfl ?_
                      refine R.gF rfl (congrArg Value.bool hg152q) rfl ?_
                      refine R.gF rfl (congrArg Value.bool hg152q) rfl ?_
                      refine R.gF rfl (congrArg Value.bool hg152q) rfl ?_
                      refine R.gF rfl (congrArg Value.bool hg152q) rfl ?_
                      refine R.pickF (congrArg Value.bool hg152q) ?_
                      refine R.nil ?_
                      refine E.condF rfl ?_
                      refine E.skip ?_
                      refine E.seq ?_
                      refine E.forget [(2, .pointer (some ⟨b2, 0, none⟩)), (4, .pointer (some ⟨b4, 0, none⟩)), (5, .int .i64 ((r.n : Nat) : Int)), (6, .pointer (some ⟨b6, 0, none⟩)), (9, va), (12, .int .i64 ((a : Nat) : Int)), (13, v127), (14, .int .i64 ((k : Nat) : Int)), (15, .int .i64 ((t : Nat) : Int))] ⟨rfl, rfl, rfl, rfl, rfl, rfl, rfl, rfl, rfl, trivial⟩ (fun e => ?_)
                      have hW0 := hE.size
                      refine E.regionF (fun c x => x < w33.heap.size ∧ (c = false → x ≠ b6)) [166, 168] [187] mixed rfl (by kernel_rfl) (fun _ _ h => h.1) ?_
                      intro w45 hx45 hh45
                      replace hR := hR.ext hx45
                      replace hA := hA.ext hx45
                      replace hPl := hPl.ext hx45
                      replace hQ := hQ.ext hx45
                      replace hVl := hVl.ext hx45
                      replace hVr := hVr.ext hx45
                      replace hZ := hZ.ext hx45
                      replace hS127 := hS127.ext hx45
                      replace hB1 := hB1.ext hx45
                      replace hB2 := hB2.ext hx45
                      replace hB4 := hB4.ext hx45
                      replace hB6 := hB6.ext hx45
                      replace hB16 := hB16.ext hx45
                      replace hE := hE.ext hx45
                      have hEs : Ext w45 w45 := Upd.refl _
                      have hS0 := hx45.size
                      have hSB : ∀ b, b < w45.heap.size → b < w33.heap.size ∧ (true = false → (fun x => x ≠ b6) b) := fun b hb => ⟨by rw [hh45] at hb; exact hb, nofun⟩
                      have hSA : ∀ b, b < w45.heap.size → (fun x => x ≠ b6) b → b < w33.heap.size ∧ (false = false → (fun x => x ≠ b6) b) := fun b hb h => ⟨by rw [hh45] at hb; exact hb, fun _ => h⟩
                      have hRs := hR
                      have hAs := hA
                      have hPls := hPl
                      have hQs := hQ
                      have hVls := hVl
                      have hVrs := hVr
                      have hZs := hZ
                      have hS127s := hS127
                      have hB1s := hB1
                      have hB2s := hB2
                      have hB4s := hB4
                      have hB6s := hB6
                      have hB16s := hB16
                      refine G.q rfl (Nat.le_of_ble_eq_true rfl) ?_
                      refine R.fld fa93_0 rfl ?_
                      refine R.nil ?_
                      refine G.q rfl (Nat.le_of_ble_eq_true rfl) ?_
                      refine R.loadS t31 hB6 rfl (us := [qb, qd, .int .i64 (dc.pw), .bool (dc.tr)]) rfl rfl rfl (hSB b6 hB6s.lt) ?_
                      refine R.nil ?_
                      refine G.q rfl (Nat.le_of_ble_eq_true rfl) ?_
                      refine R.fld fa93_2 rfl ?_
                      refine R.nil ?_
                      refine G.q rfl (Nat.le_of_ble_eq_true rfl) ?_
                      refine R.loadB t54 hB6 rfl rfl rfl (hSB b6 hB6s.lt) ?_
                      refine R.nil ?_
                      refine G.q rfl (Nat.le_of_ble_eq_true rfl) ?_
                      refine R.move ?_
                      refine R.nil ?_
                      refine G.q rfl (Nat.le_of_ble_eq_true rfl) ?_
                      refine R.ix (m := a) Try.underlying54 t3 (by decide) hPl.row rfl rfl (by omega) ?_
                      refine R.nil ?_
                      refine G.q rfl (Nat.le_of_ble_eq_true rfl) ?_
                      refine R.load (u := .int .i64 (((L.getD a Rc0).at_ : Nat) : Int)) t3 hPl.row rfl (plsC_at (i := a) (by omega)) rfl (fun b e => hSA b (hPls.lt b e) (fun q => (hB6s.ne_vblk hPls (by decide)) (q ▸ e))) ?_
                      refine R.nil ?_
                      refine G.q rfl (Nat.le_of_ble_eq_true rfl) ?_
                      refine R.move ?_
                      refine R.nil ?_
                      refine G.q rfl (Nat.le_of_ble_eq_true rfl) ?_
                      refine R.addN (m := ((L.getD a Rc0).at_)) (n := k) rfl rfl (by omega) ?_
                      refine R.nil ?_
                      refine G.q rfl (Nat.le_of_ble_eq_true rfl) ?_
                      refine R.move ?_
                      refine R.nil ?_
                      refine G.q rfl (Nat.le_of_ble_eq_true rfl) ?_
                      refine R.remN (m := (((L.getD a Rc0).at_) + k)) (n := r.n) rfl rfl (by omega) ?_
                      refine R.nil ?_
                      refine G.q rfl (Nat.le_of_ble_eq_true rfl) ?_
                      refine R.move ?_
                      refine R.nil ?_
                      refine G.q rfl (Nat.le_of_ble_eq_true rfl) ?_
                      refine R.move ?_
                      refine R.nil ?_
                      refine G.q rfl (Nat.le_of_ble_eq_true rfl) ?_
                      refine R.mulN (m := t) (n := r.n) rfl rfl (by omega) ?_
                      refine R.nil ?_
                      refine G.q rfl (Nat.le_of_ble_eq_true rfl) ?_
                      refine R.addN (m := ((((L.getD a Rc0).at_) + k) % r.n)) (n := (t * r.n)) rfl rfl (by omega) ?_
                      refine R.nil ?_
                      refine G.q rfl (Nat.le_of_ble_eq_true rfl) ?_
                      refine R.move ?_
                      refine R.nil ?_
                      refine G.q rfl (Nat.le_of_ble_eq_true rfl) ?_
                      refine R.move ?_
                      refine R.nil ?_
                      refine G.q rfl (Nat.le_of_ble_eq_true rfl) ?_
                      refine R.ix (m := a) Try.underlying118 t115 (by decide) hA.sl.row rfl rfl (by omega) ?_
                      refine R.nil ?_
                      refine G.q rfl (Nat.le_of_ble_eq_true rfl) ?_
                      refine R.load (u := (vs.getD a undef)) t115 hA.sl.row rfl (hA.cell (i := a) (by first | omega | (simp only [List.length_cons]; omega))) rfl (fun b e => hSA b (hAs.sl.lt b e) (fun q => (hB6s.ne_vblk hAs.sl (by decide)) (q ▸ e))) ?_
                      refine R.nil ?_
                      refine G.q rfl (Nat.le_of_ble_eq_true rfl) ?_
                      refine R.move ?_
                      refine R.nil ?_
                      refine G.q rfl (Nat.le_of_ble_eq_true rfl) ?_
                      refine R.ix (m := k) Try.underlying115 t120 (by decide) (hA.rows a (by first | omega | (simp only [List.length_cons]; omega))).sl.row rfl rfl (by omega) ?_
                      refine R.nil ?_
                      refine G.q rfl (Nat.le_of_ble_eq_true rfl) ?_
                      refine R.loadE t120 (by decide) (hA.rows a (by first | omega | (simp only [List.length_cons]; omega))).sl.row rfl (pcs_take0 (by rw [(hA.rows a (by first | omega | (simp only [List.length_cons]; omega))).rows.len]; omega)) rfl rfl (fun b e => hSA b ((hAs.rows a (by first | omega | (simp only [List.length_cons]; omega))).sl.lt b e) (fun q => (hB6s.ne_vblk (hAs.rows a (by first | omega | (simp only [List.length_cons]; omega))).sl (by decide)) (q ▸ e))) ?_
                      refine R.nil ?_
                      refine G.l rfl rfl (.inl rfl) (Nat.le_of_ble_eq_true rfl) ?_
                      intro w46 hx46
                      replace hR := hR.ext hx46
                      replace hA := hA.ext hx46
                      replace hPl := hPl.ext hx46
                      replace hQ := hQ.ext hx46
                      replace hVl := hVl.ext hx46
                      replace hVr := hVr.ext hx46
                      replace hZ := hZ.ext hx46
                      replace hS127 := hS127.ext hx46
                      replace hB1 := hB1.ext hx46
                      replace hB2 := hB2.ext hx46
                      replace hB4 := hB4.ext hx46
                      replace hB6 := hB6.ext hx46
                      replace hB16 := hB16.ext hx46
                      replace hE := hE.ext hx46
                      replace hEs := hEs.ext hx46
                      refine R.callE1 ent62 (rbytesP _ (d := r) (y := (L.getD a Rc0)) (l := (ls.getD a [])) (k := k) ((hA.rows a (by first | omega | (simp only [List.length_cons]; omega))).rows.rows k (by omega)) (hA.pc a (by omega)) (by omega) hy) rfl (fun _ _ hb => G.S1_lt (fun _ _ h => h.1) (Nat.le_trans hS0 hEs.size) hb) ?_
                      rintro v187 w47 hx47 rfl
                      replace hR := hR.ext hx47
                      replace hA := hA.ext hx47
                      replace hPl := hPl.ext hx47
                      replace hQ := hQ.ext hx47
                      replace hVl := hVl.ext hx47
                      replace hVr := hVr.ext hx47
                      replace hZ := hZ.ext hx47
                      replace hS127 := hS127.ext hx47
                      replace hB1 := hB1.ext hx47
                      replace hB2 := hB2.ext hx47
                      replace hB4 := hB4.ext hx47
                      replace hB6 := hB6.ext hx47
                      replace hB16 := hB16.ext hx47
                      replace hE := hE.ext hx47
                      replace hEs := hEs.ext hx47
                      refine R.nil ⟨hx47.size, ?_⟩
                      intro K46 hK46 hN46
                      refine G.l rfl rfl (.inr rfl) (Nat.le_of_ble_eq_true rfl) ?_
                      intro w48 hx48
                      replace hR := hR.ext hx48
                      replace hA := hA.ext hx48
                      replace hPl := hPl.ext hx48
                      replace hQ := hQ.ext hx48
                      replace hVl := hVl.ext hx48
                      replace hVr := hVr.ext hx48
                      replace hZ := hZ.ext hx48
                      replace hS127 := hS127.ext hx48
                      replace hB1 := hB1.ext hx48
                      replace hB2 := hB2.ext hx48
                      replace hB4 := hB4.ext hx48
                      replace hB6 := hB6.ext hx48
                      replace hB16 := hB16.ext hx48
                      replace hE := hE.ext hx48
                      replace hEs := hEs.ext hx48
                      refine R.callE3 ent18 (rwrite_ _ hQ (by omega) (pcB_ok hy.d.byt k) hpw hpw2) rfl rfl rfl (fun _ _ hb => G.S1_lt (fun _ _ h => h.1) (Nat.le_trans hS0 hEs.size) hb) ?_
                      rintro v188 w49 hx49 ⟨rb188, rd188, rfl, hR188, hX188⟩
                      replace hR := hR.ext hx49
                      replace hA := hA.ext hx49
                      replace hPl := hPl.ext hx49
                      replace hQ := hQ.ext hx49
                      replace hVl := hVl.ext hx49
                      replace hVr := hVr.ext hx49
                      replace hZ := hZ.ext hx49
                      replace hS127 := hS127.ext hx49
                      replace hB1 := hB1.ext hx49
                      replace hB2 := hB2.ext hx49
                      replace hB4 := hB4.ext hx49
                      replace hB6 := hB6.ext hx49
                      replace hB16 := hB16.ext hx49
                      replace hE := hE.ext hx49
                      replace hEs := hEs.ext hx49
                      refine R.nil ⟨hx49.size, ?_⟩
                      intro K48 hK48 hN48
                      refine G.q rfl (Nat.le_of_ble_eq_true rfl) ?_
                      refine R.move ?_
                      refine R.nil ?_
                      refine G.q rfl (Nat.le_of_ble_eq_true rfl) ?_
                      refine R.extract rfl rfl ?_
                      refine R.nil ?_
                      refine G.q rfl (Nat.le_of_ble_eq_true rfl) ?_
                      refine R.extract rfl rfl ?_
                      refine R.nil ?_
                      refine G.q rfl (Nat.le_of_ble_eq_true rfl) ?_
                      refine R.fld fa93_0 rfl ?_
                      refine R.nil ?_
                      refine G.l rfl rfl (.inr rfl) (Nat.le_of_ble_eq_true rfl) ?_
                      intro w50 hx50
                      replace hR := hR.ext hx50
                      replace hA := hA.ext hx50
                      replace hPl := hPl.ext hx50
                      replace hQ := hQ.ext hx50
                      replace hVl := hVl.ext hx50
                      replace hVr := hVr.ext hx50
                      replace hZ := hZ.ext hx50
                      replace hS127 := hS127.ext hx50
                      replace hR188 := hR188.ext hx50
                      replace hB1 := hB1.ext hx50
                      replace hB2 := hB2.ext hx50
                      replace hB4 := hB4.ext hx50
                      replace hB6 := hB6.ext hx50
                      replace hB16 := hB16.ext hx50
                      replace hE := hE.ext hx50
                      replace hEs := hEs.ext hx50
                      refine R.storeG (vs := [rb188, rd188, .int .i64 (((dc.write ((((((L.getD a Rc0).at_) + k) % r.n) + (t * r.n) : Nat) : Int) ((pcB (L.getD a Rc0) k))).1).pw), .bool (((dc.write ((((((L.getD a Rc0).at_) + k) % r.n) + (t * r.n) : Nat) : Int) ((pcB (L.getD a Rc0) k))).1).tr)]) t31 hB6 rfl rfl rfl rfl (ones4 hR188.bls.one hR188.bds.one rfl rfl) (by first | decide | simp) (fun _ h => h.elim (fun h => h.2 rfl rfl) (fun h => h.elim (fun h => absurd h.1 (by decide)) (fun h => by have h1 := hB6s.lt; rw [hh45] at h1; have := h.1; omega))) ?_
                      intro w51 hU51 hs51 hN51
                      replace hR := hR.upT hU51 hB6 (by decide)
                      replace hA := hA.upT hU51 hB6 (by decide)
                      replace hPl := hPl.upT hU51 hB6 (by decide)
                      replace hQ := hQ.upT hU51 hB6 (by decide)
                      replace hVl := hVl.upT hU51 hB6 (by decide)
                      replace hVr := hVr.upT hU51 hB6 (by decide)
                      replace hZ := hZ.upT hU51 hB6 (by decide)
                      replace hS127 := hS127.upT hU51 hB6 (by decide)
                      replace hR188 := hR188.upT hU51 hB6 (by decide)
                      replace hB1 := hB1.upT hU51 hB6 (by decide)
                      replace hB2 := hB2.up hU51 (fun h => ne2_6 h)
                      replace hB4 := hB4.up hU51 (fun h => ne4_6 h)
                      replace hB16 := hB16.upT hU51 hB6 (by decide)
                      replace hE := hE.own hU51 hb6
                      replace hB6 : Blk _ b6 93 #[rb188, rd188, .int .i64 (((dc.write ((((((L.getD a Rc0).at_) + k) % r.n) + (t * r.n) : Nat) : Int) ((pcB (L.getD a Rc0) k))).1).pw), .bool (((dc.write ((((((L.getD a Rc0).at_) + k) % r.n) + (t * r.n) : Nat) : Int) ((pcB (L.getD a Rc0) k))).1).tr), vR, vP, .int .i64 (((firstN L) : Nat) : Int), .int .i64 ((((lastL r r.n).2) + 1 : Nat) : Int), .int .i64 ((m : Nat) : Int), .bool (false)] := hN51
                      clear hN51
                      refine R.nil ⟨hU51.size, ?_⟩
                      intro K50 hK50 hN50
                      refine G.q rfl (Nat.le_of_ble_eq_true rfl) ?_
                      refine R.assign ?_
                      refine R.nil ?_
                      refine G.nil ?_
                      refine E.seq ?_
                      refine E.seq ?_
                      refine E.forget [(2, .pointer (some ⟨b2, 0, none⟩)), (4, .pointer (some ⟨b4, 0, none⟩)), (5, .int .i64 ((r.n : Nat) : Int)), (6, .pointer (some ⟨b6, 0, none⟩)), (9, va), (12, .int .i64 ((a : Nat) : Int)), (13, v127), (14, .int .i64 ((k : Nat) : Int)), (15, .int .i64 ((t : Nat) : Int)), (17, .bool ((dc.write ((((((L.getD a Rc0).at_) + k) % r.n) + (t * r.n) : Nat) : Int) ((pcB (L.getD a Rc0) k))).2))] ⟨rfl, rfl, rfl, rfl, rfl, rfl, rfl, rfl, rfl, rfl, trivial⟩ (fun e => ?_)
                      refine E.regionP rfl ?_
                      refine R.move ?_
                      refine R.not rfl ?_
                      refine R.nil ?_
                      refine E.cond (b := !((dc.write ((((((L.getD a Rc0).at_) + k) % r.n) + (t * r.n) : Nat) : Int) ((pcB (L.getD a Rc0) k))).2)) rfl (fun hc193 => ?_) (fun hc193 => ?_)
                      · refine E.seq ?_
                        refine E.regionP rfl ?_
                        refine R.fld fa93_0 rfl ?_
                        refine R.loadS t31 hB6 rfl (us := [rb188, rd188, .int .i64 (((dc.write ((((((L.getD a Rc0).at_) + k) % r.n) + (t * r.n) : Nat) : Int) ((pcB (L.getD a Rc0) k))).1).pw), .bool (((dc.write ((((((L.getD a Rc0).at_) + k) % r.n) + (t * r.n) : Nat) : Int) ((pcB (L.getD a Rc0) k))).1).tr)]) rfl rfl rfl trivial ?_
                        refine R.fld fa93_0 rfl ?_
                        refine R.storeG (vs := [rb188, rd188, .int .i64 (((dc.write ((((((L.getD a Rc0).at_) + k) % r.n) + (t * r.n) : Nat) : Int) ((pcB (L.getD a Rc0) k))).1).pw), .bool (((dc.write ((((((L.getD a Rc0).at_) + k) % r.n) + (t * r.n) : Nat) : Int) ((pcB (L.getD a Rc0) k))).1).tr)]) t31 hB4 rfl rfl rfl rfl (ones4 hR188.bls.one hR188.bds.one rfl rfl) (by first | decide | simp) nofun ?_
                        intro w52 hU52 hs52 hN52
                        replace hR := hR.upT hU52 hB4 (by decide)
                        replace hA := hA.upT hU52 hB4 (by decide)
                        replace hPl := hPl.upT hU52 hB4 (by decide)
                        replace hQ := hQ.upT hU52 hB4 (by decide)
                        replace hVl := hVl.upT hU52 hB4 (by decide)
                        replace hVr := hVr.upT hU52 hB4 (by decide)
                        replace hZ := hZ.upT hU52 hB4 (by decide)
                        replace hS127 := hS127.upT hU52 hB4 (by decide)
                        replace hR188 := hR188.upT hU52 hB4 (by decide)
                        replace hB1 := hB1.upT hU52 hB4 (by decide)
                        replace hB2 := hB2.up hU52 (fun h => ne2_4 h)
                        replace hB6 := hB6.up hU52 (fun h => ne4_6 h.symm)
                        replace hB16 := hB16.upT hU52 hB4 (by decide)
                        replace hE := hE.own hU52 hb4
                        replace hB4 : Blk _ b4 93 #[rb188, rd188, .int .i64 (((dc.write ((((((L.getD a Rc0).at_) + k) % r.n) + (t * r.n) : Nat) : Int) ((pcB (L.getD a Rc0) k))).1).pw), .bool (((dc.write ((((((L.getD a Rc0).at_) + k) % r.n) + (t * r.n) : Nat) : Int) ((pcB (L.getD a Rc0) k))).1).tr), .slice none 0 0, .slice none 0 0, .int .i64 ((0 : Nat) : Int), .int .i64 ((0 : Nat) : Int), .int .i64 ((0 : Nat) : Int), .bool (false)] := hN52
                        clear hN52
                        refine R.nil ?_
                        refine E.seq ?_
                        refine E.forget [(2, .pointer (some ⟨b2, 0, none⟩)), (4, .pointer (some ⟨b4, 0, none⟩))] ⟨rfl, rfl, trivial⟩ (fun e => ?_)
                        refine E.regionP rfl ?_
                        refine R.loadA t93 hB4 rfl rfl rfl trivial ?_
                        refine R.storeA t93 hB2 rfl rfl rfl rfl (ones10 hR188.bls.one hR188.bds.one rfl rfl rfl rfl rfl rfl rfl rfl) nofun ?_
                        intro w53 hU53 hs53 hN53
                        replace hR := hR.upT hU53 hB2 (by decide)
                        replace hA := hA.upT hU53 hB2 (by decide)
                        replace hPl := hPl.upT hU53 hB2 (by decide)
                        replace hQ := hQ.upT hU53 hB2 (by decide)
                        replace hVl := hVl.upT hU53 hB2 (by decide)
                        replace hVr := hVr.upT hU53 hB2 (by decide)
                        replace hZ := hZ.upT hU53 hB2 (by decide)
                        replace hS127 := hS127.upT hU53 hB2 (by decide)
                        replace hR188 := hR188.upT hU53 hB2 (by decide)
                        replace hB1 := hB1.upT hU53 hB2 (by decide)
                        replace hB4 := hB4.up hU53 (fun h => ne2_4 h.symm)
                        replace hB6 := hB6.up hU53 (fun h => ne2_6 h.symm)
                        replace hB16 := hB16.upT hU53 hB2 (by decide)
                        replace hE := hE.own hU53 hb2
                        replace hB2 : Blk _ b2 93 #[rb188, rd188, .int .i64 (((dc.write ((((((L.getD a Rc0).at_) + k) % r.n) + (t * r.n) : Nat) : Int) ((pcB (L.getD a Rc0) k))).1).pw), .bool (((dc.write ((((((L.getD a Rc0).at_) + k) % r.n) + (t * r.n) : Nat) : Int) ((pcB (L.getD a Rc0) k))).1).tr), .slice none 0 0, .slice none 0 0, .int .i64 ((0 : Nat) : Int), .int .i64 ((0 : Nat) : Int), .int .i64 ((0 : Nat) : Int), .bool (false)] := hN53
                        clear hN53
                        refine R.assign ?_
                        refine R.nil ?_
                        refine E.ret ?_
                        refine retA1 (.int .i64 ((420 : Nat) : Int)) t93 hB2 rfl rfl rfl rfl ⟨_, rfl, ?_⟩
                        refine ⟨hE, ?_⟩
                        rw [jobs2_drop (by omega), List.cons_append] at hmm
                        rw [openL_pow hn0 hO (by omega) (hmm.fail (.inl hg152) (by simpa using hc193))]
                        exact ⟨_, _, rfl, hR188⟩
                      · refine E.skip ?_
                        refine E.regionP rfl ?_
                        refine R.fld fa93_5 rfl ?_
                        refine R.loadB t3 hB6 rfl rfl rfl trivial ?_
                        refine R.addN (m := m) (n := 1) rfl rfl (by omega) ?_
                        refine R.fld fa93_5 rfl ?_
                        refine R.store t3 hB6 rfl rfl (rfl) (by simp) nofun ?_
                        intro w54 hU54 hs54 hN54
                        replace hR := hR.upT hU54 hB6 (by decide)
                        replace hA := hA.upT hU54 hB6 (by decide)
                        replace hPl := hPl.upT hU54 hB6 (by decide)
                        replace hQ := hQ.upT hU54 hB6 (by decide)
                        replace hVl := hVl.upT hU54 hB6 (by decide)
                        replace hVr := hVr.upT hU54 hB6 (by decide)
                        replace hZ := hZ.upT hU54 hB6 (by decide)
                        replace hS127 := hS127.upT hU54 hB6 (by decide)
                        replace hR188 := hR188.upT hU54 hB6 (by decide)
                        replace hB1 := hB1.upT hU54 hB6 (by decide)
                        replace hB2 := hB2.up hU54 (fun h => ne2_6 h)
                        replace hB4 := hB4.up hU54 (fun h => ne4_6 h)
                        replace hB16 := hB16.upT hU54 hB6 (by decide)
                        replace hE := hE.own hU54 hb6
                        replace hB6 : Blk _ b6 93 #[rb188, rd188, .int .i64 (((dc.write ((((((L.getD a Rc0).at_) + k) % r.n) + (t * r.n) : Nat) : Int) ((pcB (L.getD a Rc0) k))).1).pw), .bool (((dc.write ((((((L.getD a Rc0).at_) + k) % r.n) + (t * r.n) : Nat) : Int) ((pcB (L.getD a Rc0) k))).1).tr), vR, vP, .int .i64 (((firstN L) : Nat) : Int), .int .i64 ((((lastL r r.n).2) + 1 : Nat) : Int), .int .i64 ((m + 1 : Nat) : Int), .bool (false)] := hN54
                        clear hN54
                        refine R.nil ?_
                        refine E.regionP rfl ?_
                        refine R.move ?_
                        refine R.addN (m := t) (n := 1) rfl rfl (by omega) ?_
                        refine R.assign ?_
                        refine R.nil ?_
                        exact ⟨2 - (t + 1), by omega, t + 1, _, m + 1, _, _, rfl, by omega, ((Dk.write_n _ _ _).trans hdn), (Dk.write_pw _ _ _ (by decide) hpw), (Dk.write_pw2 _ _ _ hpw2), (by rw [jobs2_drop (by omega), List.cons_append] at hmm; exact hmm.write (.inl hg152) (by simpa using hc193)), hR, hA, hPl, hR188, hVl, hVr, hZ, hS127, hB1, hB2, hB4, hB6, hE, rfl, rfl, rfl, rfl, rfl, rfl, rfl, rfl, rfl, trivial⟩
                  · replace hc129 := dF hc129
                    obtain rfl : t = 2 := by omega
                    refine E.exit ?_
                    refine E.regionP rfl ?_
                    refine R.move ?_
                    refine R.addN (m := k) (n := 1) rfl rfl (by omega) ?_
                    refine R.assign ?_
                    refine R.nil ?_
                    exact ⟨(L.getD a Rc0).h.total - (k + 1), by omega, k + 1, dc, m, qb, qd, v127, rfl, by omega, hdn, hpw, hpw2, hmm, hrf2, hR, hA, hPl, hQ, hVl, hVr, hS127, hZ, hB1, hB2, hB4, hB6, hE, rfl, rfl, rfl, rfl, rfl, rfl, rfl, rfl, trivial⟩
              · replace hc115 := dF hc115
                have hke : k = (L.getD a Rc0).h.total := by omega
                rw [hke, dat_all hy.d] at hX
                have hXq := hX
                obtain ⟨rqa, rqc, hrq, _⟩ := hXq
                have hcr : cellsOf [rv] = [rv] := by rw [hrq]; rfl
                refine E.exit ?_
                refine E.regionP rfl ?_
                refine R.fld fa93_1 rfl ?_
                refine R.loadB t67 hB6 rfl rfl rfl trivial ?_
                refine R.move ?_
                refine R.buildSlice [rv] Try.underlying67 t55 rfl rfl (fun v hv => by rw [List.mem_singleton.1 hv, hrq]; rfl) (by simp) nofun ?_
                intro b205 w55 hb205 hx55 hB205 hS205
                replace hb205 := Nat.le_trans hE.size hb205
                replace hR := hR.ext hx55
                replace hA := hA.ext hx55
                replace hPl := hPl.ext hx55
                replace hQ := hQ.ext hx55
                replace hVl := hVl.ext hx55
                replace hVr := hVr.ext hx55
                replace hX := hX.ext hx55
                replace hZ := hZ.ext hx55
                replace hB1 := hB1.ext hx55
                replace hB2 := hB2.ext hx55
                replace hB4 := hB4.ext hx55
                replace hB6 := hB6.ext hx55
                replace hE := hE.ext hx55
                refine R.append Try.underlying67 Try.underlying67 t55 (by decide) rfl hVl hS205.row (by intro u hu; rw [hcr] at hu; rw [List.mem_singleton.1 hu]; exact hX.one) rfl rfl (by simp only [List.length_take, List.length_cons, List.length_nil]; omega) (by simp only [List.length_take, List.length_cons, List.length_nil]; omega) nofun ?_
                intro v206 w56 hU56 hS206 hd56
                have hF206 := Fresh.app hE hvf hd56
                replace hR := hR.upS hU56 hVl (by decide)
                replace hA := hA.upS hU56 hVl (by decide)
                replace hPl := hPl.upS hU56 hVl (by decide)
                replace hQ := hQ.upS hU56 hVl (by decide)
                replace hVr := hVr.upS hU56 hVl (by decide)
                replace hX := hX.upS hU56 hVl (by decide)
                replace hZ := hZ.upS hU56 hVl (by decide)
                replace hB1 := hB1.upS hU56 hVl (by decide)
                replace hB2 := hB2.upS hU56 hVl (by decide)
                replace hB4 := hB4.upS hU56 hVl (by decide)
                replace hB6 := hB6.upS hU56 hVl (by decide)
                replace hE := hE.app hU56 hvf
                rw [hcr] at hS206
                refine R.fld fa93_1 rfl ?_
                refine R.store t67 hB6 rfl rfl (hS206.one) (by simp) nofun ?_
                intro w57 hU57 hs57 hN57
                replace hR := hR.upT hU57 hB6 (by decide)
                replace hA := hA.upT hU57 hB6 (by decide)
                replace hPl := hPl.upT hU57 hB6 (by decide)
                replace hQ := hQ.upT hU57 hB6 (by decide)
                replace hVr := hVr.upT hU57 hB6 (by decide)
                replace hX := hX.upT hU57 hB6 (by decide)
                replace hZ := hZ.upT hU57 hB6 (by decide)
                replace hS206 := hS206.upT hU57 hB6 (by decide)
                replace hB1 := hB1.upT hU57 hB6 (by decide)
                replace hB2 := hB2.up hU57 (fun h => ne2_6 h)
                replace hB4 := hB4.up hU57 (fun h => ne4_6 h)
                replace hE := hE.own hU57 hb6
                replace hB6 : Blk _ b6 93 #[qb, qd, .int .i64 (dc.pw), .bool (dc.tr), v206, vP, .int .i64 (((firstN L) : Nat) : Int), .int .i64 ((((lastL r r.n).2) + 1 : Nat) : Int), .int .i64 ((m : Nat) : Int), .bool (false)] := hN57
                clear hN57
                refine R.nil ?_
                refine E.forget [(2, .pointer (some ⟨b2, 0, none⟩)), (4, .pointer (some ⟨b4, 0, none⟩)), (5, .int .i64 ((r.n : Nat) : Int)), (6, .pointer (some ⟨b6, 0, none⟩)), (9, va), (12, .int .i64 ((a : Nat) : Int))] ⟨rfl, rfl, rfl, rfl, rfl, rfl, trivial⟩ (fun e => ?_)
                refine E.regionP rfl ?_
                refine R.move ?_
                refine R.addN (m := a) (n := 1) rfl rfl (by omega) ?_
                refine R.assign ?_
                refine R.nil ?_
                exact ⟨L.length - (a + 1), by omega, a + 1, dc, m, qb, qd, v206, (uR ++ [rv]), rfl, by omega, hdn, hpw, hpw2, (by rw [restK_end (by omega)] at hmm; exact hmm), hF206, hR, hA, hPl, hQ, (by rw [take_len1 (by omega)]; exact hS206), (by rw [take_map1 (by omega)]; exact hVr.snoc hX), hB1, hB2, hB4, hB6, hE, rfl, rfl, rfl, rfl, rfl, rfl, trivial⟩
          · replace hc106 := dF hc106
            have hae : a = L.length := by omega
            refine E.exit ?_
            refine E.seq ?_
            refine E.regionP rfl ?_
            refine R.loadA t93 hB6 rfl rfl rfl trivial ?_
            refine R.storeA t93 hB2 rfl rfl rfl rfl (ones10 hQ.bls.one hQ.bds.one rfl rfl hVl.one hPl.one rfl rfl rfl rfl) nofun ?_
            intro w58 hU58 hs58 hN58
            replace hR := hR.upT hU58 hB2 (by decide)
            replace hA := hA.upT hU58 hB2 (by decide)
            replace hPl := hPl.upT hU58 hB2 (by decide)
            replace hQ := hQ.upT hU58 hB2 (by decide)
            replace hVl := hVl.upT hU58 hB2 (by decide)
            replace hVr := hVr.upT hU58 hB2 (by decide)
            replace hB1 := hB1.upT hU58 hB2 (by decide)
            replace hB4 := hB4.up hU58 (fun h => ne2_4 h.symm)
            replace hB6 := hB6.up hU58 (fun h => ne2_6 h.symm)
            replace hE := hE.own hU58 hb2
            replace hB2 : Blk _ b2 93 #[qb, qd, .int .i64 (dc.pw), .bool (dc.tr), vR, vP, .int .i64 (((firstN L) : Nat) : Int), .int .i64 ((((lastL r r.n).2) + 1 : Nat) : Int), .int .i64 ((m : Nat) : Int), .bool (false)] := hN58
            clear hN58
            refine R.assign ?_
            refine R.nil ?_
            refine E.ret ?_
            refine retA1 (.int .i64 ((0 : Nat) : Int)) t93 hB2 rfl rfl rfl rfl ⟨_, rfl, ?_⟩
            refine ⟨hE, ?_⟩
            rw [List.drop_of_length_le (by omega)] at hmm
            rw [openL_ok hn0 hO (by omega) hmm.1.symm]
            rw [hae, List.take_of_length_le (Nat.le_refl _)] at hVl hVr
            exact ⟨_, _, _, _, _, rfl, ⟨hQ, ⟨by rw [List.length_map]; exact hVl, hVr⟩, hPl⟩⟩
end Go.Proofs.Ytlplogplicgfiaa
