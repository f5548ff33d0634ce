import Derived.Test.YtfdmndkoiheebaaZ10J25a
namespace Go.Proofs.Ytfdmndkoiheebaa
open Go Go.RowKit
theorem U8s.take {w : World} {v : Value} {xs : List Nat} (h : U8s w v xs) {k : Nat} (hk : k ≤ xs.length) : U8s w (cut 1 v 0 k) (xs.take k) := by
  have := h.cut (l := 0) (r := k) (Nat.zero_le _) hk
  show Row w 1 _ (xs.take k).length _
  have e : (xs.take k).length = k := by simp; omega
  rw [e]
  simpa [u8s, List.map_take] using this
theorem tri_le : ∀ n, n ≤ 6 → tri n ≤ 15 := by
  intro n hn
  rcases (show n = 0 ∨ n = 1 ∨ n = 2 ∨ n = 3 ∨ n = 4 ∨ n = 5 ∨ n = 6 by omega) with rfl | rfl | rfl | rfl | rfl | rfl | rfl <;> decide
theorem few_eq {H : Nat} {ord : List Int} {ys : List (List Int)} {c m : Nat} (h : FewP H ord ys 0 c m) (hmin : ∀ m, m < c → tryL H ord ys 0 m = none) : m = c := by
  obtain ⟨h1, h2⟩ := h
  rcases Nat.lt_or_ge m c with h3 | h3
  · have := h2 h3
    rw [hmin m h3] at this
    cases this
  · omega
theorem yShiftE3 (w : World) {v : Value} {h f t f' t' h' e : Int} {xss l : List (List Int)} (hm : ∃ us, Mat w v us xss) (hl : xss.length < 1000000) (hx : ∀ xs ∈ xss, xs.length < 1000000) (hp : shiftR xss h f t = (l, h', e)) (hf : f' = f) (ht : t' = t) :
    Calls Try.prog 36 #[.agg #[v, .int .i64 h], .agg #[.int .i64 f', .int .i64 t']] w (Ret fun r w' => Ext w w' ∧ ∃ u, r = .tuple #[.agg #[u, .int .i64 h'], .int .i64 e] ∧ YO w w' u h' l) := by
  subst hf ht
  exact yShiftP w hm hl hx hp
set_option maxHeartbeats 1600000 in
theorem retrieveFewest (w : World) {vl vos : Value} {st ht : Nat} {ls os : List Nat} (hl : U8s w vl ls) (hll : ls.length ≤ 9223372036854775807) (hls : ∀ x ∈ ls, x < 256) (ho : U8s w vos os) (hol : os.length ≤ 9223372036854775807) (hos : ∀ x ∈ os, x < 256) :
    Calls Try.prog 10 #[.int .u8 st, .int .u8 ht, vl, vos] w (Ret fun r w' => Ext w w' ∧ r = .bool true) := by
  have hn1 : 1 + (st % 4) % 6 ≤ 4 := by omega
  have hH1 : 1 + ht % 6 ≤ 6 := by omega
  obtain ⟨H, hHd⟩ : ∃ H, 1 + ht % 6 = H := ⟨_, rfl⟩
  obtain ⟨n0, hnd⟩ : ∃ n, 1 + (st % 4) % 6 = n := ⟨_, rfl⟩
  rw [hHd] at hH1
  rw [hnd] at hn1
  refine calls_E (args := [.int .u8 st, .int .u8 ht, vl, vos]) 116 Try.func10 rfl rfl (by simp) ?_
  have hE : Ext w w := Upd.refl w
  refine E.seq ?_
  refine E.regionP rfl ?_
  refine R.assign ?_
  refine R.nil ?_
  refine E.seq ?_
  refine E.seq ?_
  refine E.regionP rfl ?_
  refine R.callE0 ent38 (awake35 _)  nofun ?_
  rintro v21 w1 hx1 rfl
  replace hE := hE.ext hx1
  refine R.not rfl ?_
  refine R.nil ?_
  refine E.condF rfl ?_
  refine E.skip ?_
  refine E.seq ?_
  refine E.seq ?_
  refine E.regionP rfl ?_
  refine R.move ?_
  refine R.len Try.underlying33 hl rfl ?_
  refine R.gtr rfl rfl rfl ?_
  refine R.nil ?_
  refine E.cutM (fun e wr => ∃ (vl1 : Value) (ls1 : List Nat), Ext w wr ∧ U8s wr vl1 ls1 ∧ ls1.length ≤ 5 ∧ (∀ x ∈ ls1, x < 256) ∧ Has e [(0, .int .u8 st), (1, .int .u8 ht), (2, vl1), (3, vos)]) ?_ ?_
  · refine E.cond rfl (fun hc25 => ?_) (fun hc25 => ?_)
    · replace hc25 := dT hc25
      refine E.regionP rfl ?_
      refine R.move ?_
      have hl9 := hl
      obtain ⟨a27, c27, hv27, hc27, _⟩ := hl9
      refine R.slc (l := 0) (r := 5) Try.underlying33 t5 rfl hv27 rfl ⟨_, rfl⟩ (by omega) (by omega) ?_
      refine R.assign ?_
      refine R.nil ?_
      exact ⟨_, _, hE, (U8s.take hl (k := 5) (by omega)).ext hE, by simp; omega, fun x hx => hls x (List.mem_of_mem_take hx), rfl, rfl, rfl, rfl, trivial⟩
    · replace hc25 := dF hc25
      refine E.skip ?_
      exact ⟨vl, ls, hE, hl.ext hE, by omega, hls, rfl, rfl, rfl, rfl, trivial⟩
  · rintro e wr ⟨vl1, ls1, hE, hl1, hls5, hls6, hH⟩
    obtain ⟨e, rfl⟩ := hH.ex
    clear hH
    refine E.seq ?_
    refine E.regionP rfl ?_
    refine R.move ?_
    refine remU (m := st) (n := 4) rfl rfl (by omega) ?_
    refine R.move ?_
    refine R.move ?_
    refine R.callE3 ent22 (madeE _ hl1 (by omega) hls6 hnd hHd) rfl rfl rfl nofun ?_
    rintro v32 w2 hx2 ⟨u32, us32, xss, rfl, hM32, hP32⟩
    replace hE := hE.ext hx2
    have hE0 := hE
    clear hE
    obtain ⟨wb, hwb⟩ : ∃ x, x = w2 := ⟨_, rfl⟩
    subst hwb
    have hE : Ext wb wb := Upd.refl _
    have hm := hM32.mat
    have hR : RightP xss (H : Int) := hP32.right (by omega) (by omega) (by omega) (by omega) (by omega)
    have hRb := hR.b
    have hlen := hP32.len
    replace ho := ho.ext hE0
    refine R.alloc t24 nofun ?_
    intro b9 w3 hb9 hx3 hB9
    replace hb9 := Nat.le_trans hE.size hb9
    replace hE := hE.ext hx3
    replace hB9 : Blk _ b9 24 #[.slice none 0 0, .int .i64 0] := hB9
    refine R.storeA t24 hB9 rfl rfl rfl rfl (ones2 hm.row.one rfl) nofun ?_
    intro w4 hU4 hs4 hN4
    replace hE := hE.own hU4 hb9
    replace hB9 : Blk _ b9 24 #[u32, .int .i64 H] := hN4
    clear hN4
    refine R.nil ?_
    refine E.seq ?_
    refine E.regionP rfl ?_
    refine R.loadA t24 hB9 rfl rfl rfl trivial ?_
    refine R.move ?_
    refine R.callE3 ent39 (ordered _ (m := 5) (hm.ext hE) (ho.ext hE) hol hos hR.2.2.2.1 (sum_lengths hR) (by omega)) rfl rfl rfl nofun ?_
    rintro v35 w5 hx5 ⟨hS35, hf35⟩
    replace hB9 := hB9.ext hx5
    replace hE := hE.ext hx5
    obtain ⟨hOP, hOl⟩ := ordL_right (ls := os) (m := 5) hR
    generalize ordL xss os 5 = od at *
    have hb := beginB_of hR hOP
    have hfc := hP32.count
    have hfn := hP32.len
    refine R.assign ?_
    refine R.nil ?_
    refine E.seq ?_
    have hlk := leastR_kind hb
    rcases hlk with ⟨h5, hL⟩ | ⟨_, hL, hno⟩ | ⟨ss, hL, hls7, hmin⟩
    · exact absurd h5 (by omega)
    · refine E.regionP rfl ?_
      refine R.loadA t24 hB9 rfl rfl rfl trivial ?_
      refine R.move ?_
      refine R.callE2 ent40 (yLeastP _ (hm.ext hE) hS35.row hR.l6 hR.x6 (by omega) hL) rfl rfl nofun ?_
      rintro v39 w6 hx6 ⟨u39, rfl, hQ39, hf39⟩
      replace hS35 := hS35.ext hx6
      replace hB9 := hB9.ext hx6
      replace hE := hE.ext hx6
      refine R.move ?_
      refine R.extract rfl rfl ?_
      refine R.extract rfl rfl ?_
      refine R.assign ?_
      refine R.assign ?_
      refine R.nil ?_
      refine E.seq ?_
      refine E.seq ?_
      refine E.regionP rfl ?_
      refine R.move ?_
      refine R.neq (b := true) rfl rfl (by simp) ?_
      refine R.nil ?_
      refine E.condT rfl ?_
      refine E.seq ?_
      refine E.regionP rfl ?_
      refine R.move ?_
      refine R.eql (b := true) rfl rfl (decide_eq_true rfl) ?_
      refine R.assign ?_
      refine R.nil ?_
      refine E.ret ?_
      exact ret1 (.bool true) rfl rfl ⟨_, rfl, hE0.ext hE, rfl⟩
    · refine E.regionP rfl ?_
      refine R.loadA t24 hB9 rfl rfl rfl trivial ?_
      refine R.move ?_
      refine R.callE2 ent40 (yLeastP _ (hm.ext hE) hS35.row hR.l6 hR.x6 (by omega) hL) rfl rfl nofun ?_
      rintro v39 w7 hx7 ⟨u39, rfl, hQ39, hf39⟩
      replace hS35 := hS35.ext hx7
      replace hB9 := hB9.ext hx7
      replace hE := hE.ext hx7
      refine R.move ?_
      refine R.extract rfl rfl ?_
      refine R.extract rfl rfl ?_
      refine R.assign ?_
      refine R.assign ?_
      refine R.nil ?_
      refine E.seq ?_
      refine E.seq ?_
      refine E.regionP rfl ?_
      refine R.move ?_
      refine R.neq (b := false) rfl rfl (by simp) ?_
      refine R.nil ?_
      refine E.condF rfl ?_
      refine E.skip ?_
      refine E.seq ?_
      refine E.regionP rfl ?_
      have hgl := hls7.goP (Nat.zero_le _) 0
      rw [Nat.zero_add] at hgl
      have hll9 := hls7.len
      have hlt := hls7.tri (GoodJ.start hb)
      have htl := tri_le xss.flatten.length (by omega)
      have hsl9 : ss.length < 1000 := by have := leastR_len (xss := xss) (h := (H : Int)) (ord := od); rw [hL] at this; simp only at this; omega
      refine R.loadA t24 hB9 rfl rfl rfl trivial ?_
      refine R.move ?_
      refine R.move ?_
      refine R.callE3 ent41 (playedP _ (hm.ext hE) hS35.row hQ39.row hR (by omega) (by omega) hgl) rfl rfl rfl nofun ?_
      rintro v50 w8 hx8 rfl
      replace hS35 := hS35.ext hx8
      replace hQ39 := hQ39.ext hx8
      replace hB9 := hB9.ext hx8
      replace hE := hE.ext hx8
      refine R.move ?_
      refine R.extract rfl rfl ?_
      refine R.extract rfl rfl ?_
      refine R.assign ?_
      refine R.assign ?_
      refine R.nil ?_
      refine E.seq ?_
      refine E.regionP rfl ?_
      refine R.loadA t24 hB9 rfl rfl rfl trivial ?_
      refine R.alloc t24 nofun ?_
      intro b15 w9 hb15 hx9 hB15
      have ne9_15 : b9 ≠ b15 := by have := hB9.lt; omega
      replace hb15 := Nat.le_trans hE.size hb15
      replace hS35 := hS35.ext hx9
      replace hQ39 := hQ39.ext hx9
      replace hB9 := hB9.ext hx9
      replace hE := hE.ext hx9
      replace hB15 : Blk _ b15 24 #[.slice none 0 0, .int .i64 0] := hB15
      refine R.storeA t24 hB15 rfl rfl rfl rfl (ones2 hm.row.one rfl) nofun ?_
      intro w10 hU10 hs10 hN10
      replace hS35 := hS35.upT hU10 hB15 (by decide)
      replace hQ39 := hQ39.upT hU10 hB15 (by decide)
      replace hB9 := hB9.up hU10 (fun h => ne9_15 h)
      replace hE := hE.own hU10 hb15
      replace hB15 : Blk _ b15 24 #[u32, .int .i64 H] := hN10
      clear hN10
      refine R.assign ?_
      refine R.nil ?_
      refine E.seq ?_
      refine E.seq ?_
      refine E.regionP rfl ?_
      refine R.move ?_
      refine R.len Try.underlying62 hQ39.row rfl ?_
      refine R.move ?_
      refine R.nil ?_
      refine E.block ?_
      refine E.loop (fun n e wr => ∃ (i nx : Nat) (ys : List (List Int)) (ov : Value), n = ss.length - i ∧ i ≤ ss.length ∧ GoodJ ys H od nx ∧ nx ≤ od.length ∧ Str H od ys nx (ss.drop i) ∧ Ext wb wr ∧ YK wb wr ov H ys ∧ SInts wr v35 od ∧ Sl wr 68 3 u39 ss.length (stepsC ss) ∧ Blk wr b9 24 #[u32, .int .i64 H] ∧ Blk wr b15 24 #[ov, .int .i64 H] ∧ Has e [(9, .pointer (some ⟨b9, 0, none⟩)), (10, v35), (11, u39), (13, .int .i64 (cnt ss : Nat)), (14, .bool true), (15, .pointer (some ⟨b15, 0, none⟩)), (16, .int .i64 (nx : Nat)), (54, u39), (55, .int .i64 ss.length), (56, .int .i64 (i : Nat))]) (ss.length) ?_ ?_
      · exact ⟨0, 0, xss, u32, rfl, Nat.zero_le _, GoodJ.start hb, Nat.zero_le _, by simpa using hls7, hE, .inl ⟨us32, hm⟩, hS35, hQ39, hB9, hB15, rfl, rfl, rfl, rfl, rfl, rfl, rfl, rfl, rfl, rfl, trivial⟩
      · rintro n e wr ⟨i, nx, ys, ov, rfl, hi, hG, hnx, hS, hE, hY, hS35, hQ39, hB9, hB15, hH⟩
        obtain ⟨e, rfl⟩ := hH.ex
        clear hH
        refine E.seq ?_
        refine E.regionP rfl ?_
        refine R.lss rfl rfl rfl ?_
        refine R.nil ?_
        refine E.seq ?_
        refine E.cond rfl (fun hc57 => ?_) (fun hc57 => ?_)
        · replace hc57 := dT hc57
          have hi1 : i < ss.length := by omega
          refine E.skip ?_
          refine E.seq ?_
          refine E.block ?_
          refine E.seq ?_
          refine E.regionP rfl ?_
          refine R.ix Try.underlying62 t68 (by decide) hQ39.row rfl rfl (by omega) ?_
          refine R.loadE (j := i * 3) t68 (by decide) hQ39.row rfl (steps_take hi1) rfl rfl (fun _ _ => trivial) ?_
          refine R.alloc t68 nofun ?_
          intro b18 w18 hb18 hx18a hB18
          have hn18 : ∀ b, vblk u39 = some b → b ≠ b18 := fun b e h => by have := hQ39.lt b e; omega
          replace hb18 := Nat.le_trans hE.size hb18
          replace hY := hY.ext hx18a
          replace hS35 := hS35.ext hx18a
          replace hQ39 := hQ39.ext hx18a
          replace hB9 := hB9.ext hx18a
          replace hB15 := hB15.ext hx18a
          replace hE := hE.ext hx18a
          replace hB18 : Blk _ b18 68 #[.int .i64 0, .int .i64 0, .int .i64 0] := hB18
          refine R.storeA t68 hB18 rfl rfl rfl rfl (ones3 rfl rfl rfl) nofun ?_
          intro w99 hU99 hs99 hN99
          replace hY := hY.upT hU99 hB18 (by decide)
          replace hS35 := hS35.upT hU99 hB18 (by decide)
          replace hQ39 := hQ39.up hU99 (fun b e => hn18 b e)
          replace hB9 := hB9.upT hU99 hB18 (by decide)
          replace hB15 := hB15.upT hU99 hB18 (by decide)
          replace hE := hE.own hU99 hb18
          replace hB18 : Blk _ b18 68 #[.int .i64 ss[i].1, .int .i64 ss[i].2.1, .int .i64 ss[i].2.2] := hN99
          refine R.nil ?_
          refine E.seq ?_
          refine E.seq ?_
          have hst := hS.stepAt hi1
          rcases hst with ⟨a, k, hO, e1, e3, hS1⟩ | ⟨a, k, j, b, ov1, hO, hj, hja, hjH, e1, e2, e3, hS1⟩
          · have hln := hO.ln
            obtain ⟨ht1, hdo, hG1, htk⟩ := hO.leave
            rw [← e1] at htk
            refine E.regionP rfl ?_
            refine R.fld fa68_2 rfl ?_
            refine R.loadB t3 hB18 rfl rfl rfl trivial ?_
            refine R.eql (b := true) rfl rfl (decide_eq_true e3) ?_
            refine R.nil ?_
            refine E.condT rfl ?_
            refine E.seq ?_
            refine E.regionP rfl ?_
            refine R.loadA t24 hB15 rfl rfl rfl trivial ?_
            refine R.fld fa68_0 rfl ?_
            refine R.loadB t3 hB18 rfl rfl rfl trivial ?_
            refine R.callE2 ent25 (yTakeP _ (hY.mat hE) hG.right.l6 hG.right.x6 htk) rfl rfl nofun ?_
            rintro v67 w11 hx11 ⟨u67, rfl, hY67⟩
            replace hY67 := hY67.mono hE.size
            replace hY := hY.ext hx11
            replace hS35 := hS35.ext hx11
            replace hQ39 := hQ39.ext hx11
            replace hB9 := hB9.ext hx11
            replace hB15 := hB15.ext hx11
            replace hB18 := hB18.ext hx11
            replace hE := hE.ext hx11
            refine R.move ?_
            refine R.extract rfl rfl ?_
            refine R.extract rfl rfl ?_
            refine R.storeA t24 hB15 rfl rfl rfl rfl (ones2 hY67.one' rfl) nofun ?_
            intro w100 hU100 hs100 hN100
            replace hY67 := hY67.upT hU100 hB15 (by decide)
            replace hS35 := hS35.upT hU100 hB15 (by decide)
            replace hQ39 := hQ39.upT hU100 hB15 (by decide)
            replace hB9 := hB9.up hU100 (fun h => ne9_15 h)
            replace hB18 := hB18.upT hU100 hB15 (by decide)
            replace hE := hE.own hU100 hb15
            replace hB15 : Blk _ b15 24 #[u67, .int .i64 H] := hN100
            replace hY : YK wb w100 u67 H _ := .inr hY67
            refine R.nil ?_
            refine E.seq ?_
            refine E.regionP rfl ?_
            refine R.move ?_
            refine R.addN (m := nx) (n := 1) rfl rfl (by omega) ?_
            refine R.assign ?_
            refine R.nil ?_
            refine E.exit ?_
            refine E.regionP rfl ?_
            refine R.addN (n := 1) rfl rfl (by omega) ?_
            refine R.move ?_
            refine R.nil ?_
            exact ⟨ss.length - (i + 1), by omega, i + 1, nx + 1, _, u67, rfl, by omega, hG1, hln, hS1, hE, hY, hS35, hQ39, hB9, hB15, rfl, rfl, rfl, rfl, rfl, rfl, rfl, rfl, rfl, rfl, trivial⟩
          · have hln := hO.ln
            obtain ⟨hO1, hsh, hdo⟩ := hO.next hj hja hjH
            obtain ⟨a0, k0, ov0, hO0, hab, _⟩ := OverJ.start hO.good hln
            obtain ⟨_, _, rfl⟩ := hO0.uniq hO
            have hsr := hO.good.right.shiftR_ok hsh
            refine E.regionP rfl ?_
            refine R.fld fa68_2 rfl ?_
            refine R.loadB t3 hB18 rfl rfl rfl trivial ?_
            refine R.eql (b := false) rfl rfl (decide_eq_false (by omega)) ?_
            refine R.nil ?_
            refine E.condF rfl ?_
            refine E.skip ?_
            refine E.seq ?_
            refine E.regionW (fun _ b => b < w99.heap.size) [] mixed rfl (by kernel_rfl) ?_
            intro w12 hx12 hh12
            replace hY := hY.ext hx12
            replace hS35 := hS35.ext hx12
            replace hQ39 := hQ39.ext hx12
            replace hB9 := hB9.ext hx12
            replace hB15 := hB15.ext hx12
            replace hB18 := hB18.ext hx12
            replace hE := hE.ext hx12
            have hEs : Ext w12 w12 := Upd.refl _
            have hS0 := hx12.size
            have hSs : ∀ b, b < w12.heap.size → b < w99.heap.size := fun b hb => by rw [hh12] at hb; exact hb
            have hSa : ∀ b, b < wb.heap.size → b < w99.heap.size := fun b hb => by have := hE.size; rw [hh12] at this; omega
            have hYs := hY
            have hS35s := hS35
            have hQ39s := hQ39
            have hB9s := hB9
            have hB15s := hB15
            have hB18s := hB18
            refine R.loadAE t24 hB15s hEs rfl rfl rfl hSs ?_
            refine R.move ?_
            refine R.move ?_
            refine R.ix (m := nx) Try.underlying35 t3 (by decide) hS35.row rfl rfl hln ?_
            refine R.ldE (j := nx) t3 hS35s.row hEs rfl (int_at hln) rfl hSs ?_
            refine R.callE2 ent24 (aboveP _ (hY.mat hE) hG.right.l6 hG.right.x6 hab) rfl rfl (fun _ _ hb => Nat.lt_of_lt_of_le hb (Nat.le_trans hS0 hEs.size)) ?_
            rintro v78 w13 hx13 ⟨u78, rfl, hS78, hf78⟩
            replace hY := hY.ext hx13
            replace hS35 := hS35.ext hx13
            replace hQ39 := hQ39.ext hx13
            replace hB9 := hB9.ext hx13
            replace hB15 := hB15.ext hx13
            replace hB18 := hB18.ext hx13
            replace hE := hE.ext hx13
            replace hEs := hEs.ext hx13
            refine R.move ?_
            refine R.extract rfl rfl ?_
            refine R.extract rfl rfl ?_
            refine R.assign ?_
            refine R.assign ?_
            refine R.nil ?_
            refine E.seq ?_
            refine E.seq ?_
            refine E.regionW allS [] mixed rfl (by kernel_rfl) ?_
            intro w14 hx14 hh14
            replace hY := hY.ext hx14
            replace hS35 := hS35.ext hx14
            replace hQ39 := hQ39.ext hx14
            replace hS78 := hS78.ext hx14
            replace hB9 := hB9.ext hx14
            replace hB15 := hB15.ext hx14
            replace hB18 := hB18.ext hx14
            replace hE := hE.ext hx14
            refine R.move ?_
            refine R.neq (b := false) rfl rfl (by simp) ?_
            refine R.move ?_
            refine R.gT rfl rfl ?_
            refine R.move ?_
            refine R.gT rfl rfl ?_
            refine R.len Try.underlying35 hS78.row rfl ?_
            refine R.gT rfl rfl ?_
            refine R.eql (b := false) rfl rfl (decide_eq_false (by simp only [List.length_cons]; omega)) ?_
            refine R.pickF rfl ?_
            refine R.move ?_
            refine R.gT rfl rfl ?_
            refine R.move ?_
            refine R.gT rfl rfl ?_
            refine R.ix (m := 0) Try.underlying35 t3 (by decide) hS78.row rfl rfl (by simp) ?_
            refine R.gT rfl rfl ?_
            refine R.ld (j := 0) (u := .int .i64 b) t3 hS78.row rfl rfl rfl (fun _ _ => trivial) ?_
            refine R.gT rfl rfl ?_
            refine R.fld fa68_0 rfl ?_
            refine R.gT rfl rfl ?_
            refine R.loadB t3 hB18 rfl rfl rfl trivial ?_
            refine R.gT rfl rfl ?_
            refine R.neq (b := false) rfl rfl (by simp [e1]) ?_
            refine R.pickF rfl ?_
            refine R.nil ?_
            refine E.condF rfl ?_
            refine E.skip ?_
            refine E.regionP rfl ?_
            refine R.loadA t24 hB15 rfl rfl rfl trivial ?_
            refine R.fld fa68_1 rfl ?_
            refine R.loadB t3 hB18 rfl rfl rfl trivial ?_
            refine R.fld fa68_2 rfl ?_
            refine R.loadB t3 hB18 rfl rfl rfl trivial ?_
            refine R.build build30 rfl ?_
            refine R.callE2 ent36 (yShiftE3 _ (hY.mat hE) hG.right.l6 hG.right.x6 hsr e2 e3) rfl rfl nofun ?_
            rintro v103 w15 hx15 ⟨u103, rfl, hY103⟩
            replace hY103 := hY103.mono hE.size
            replace hY := hY.ext hx15
            replace hS35 := hS35.ext hx15
            replace hQ39 := hQ39.ext hx15
            replace hS78 := hS78.ext hx15
            replace hB9 := hB9.ext hx15
            replace hB15 := hB15.ext hx15
            replace hB18 := hB18.ext hx15
            replace hE := hE.ext hx15
            refine R.move ?_
            refine R.extract rfl rfl ?_
            refine R.extract rfl rfl ?_
            refine R.storeA t24 hB15 rfl rfl rfl rfl (ones2 hY103.one' rfl) nofun ?_
            intro w101 hU101 hs101 hN101
            replace hY103 := hY103.upT hU101 hB15 (by decide)
            replace hS35 := hS35.upT hU101 hB15 (by decide)
            replace hQ39 := hQ39.upT hU101 hB15 (by decide)
            replace hB9 := hB9.up hU101 (fun h => ne9_15 h)
            replace hB18 := hB18.upT hU101 hB15 (by decide)
            replace hE := hE.own hU101 hb15
            replace hB15 : Blk _ b15 24 #[u103, .int .i64 H] := hN101
            replace hY : YK wb w101 u103 H _ := .inr hY103
            refine R.nil ?_
            refine E.regionP rfl ?_
            refine R.addN (n := 1) rfl rfl (by omega) ?_
            refine R.move ?_
            refine R.nil ?_
            exact ⟨ss.length - (i + 1), by omega, i + 1, nx, _, u103, rfl, by omega, hO1.good, by omega, hS1, hE, hY, hS35, hQ39, hB9, hB15, rfl, rfl, rfl, rfl, rfl, rfl, rfl, rfl, rfl, rfl, trivial⟩
        · replace hc57 := dF hc57
          refine E.exit ?_
          refine E.seq ?_
          refine E.regionP rfl ?_
          refine R.move ?_
          refine R.move ?_
          refine R.gT rfl rfl ?_
          refine R.loadA t24 hB9 rfl rfl rfl trivial ?_
          refine R.gT rfl rfl ?_
          refine R.move ?_
          refine R.gT rfl rfl ?_
          refine R.move ?_
          refine R.gT rfl rfl ?_
          refine R.callE3 ent42 (fewest_ (od.length - 0 + cnt ss) _ _ _ _ _ 0 (cnt ss) rfl (GoodJ.start hb) (Nat.zero_le _) (by omega) (hm.ext hE) hS35.row) rfl rfl rfl nofun ?_
          rintro v112 w16 hx16 ⟨m112, rfl, hF112⟩
          replace hY := hY.ext hx16
          replace hS35 := hS35.ext hx16
          replace hQ39 := hQ39.ext hx16
          replace hB9 := hB9.ext hx16
          replace hB15 := hB15.ext hx16
          replace hE := hE.ext hx16
          refine R.gT rfl rfl ?_
          refine R.move ?_
          refine R.gT rfl rfl ?_
          refine R.eql (b := true) rfl rfl (decide_eq_true (by rw [few_eq hF112 hmin])) ?_
          refine R.pickT rfl ?_
          refine R.assign ?_
          refine R.nil ?_
          refine E.ret ?_
          exact ret1 (.bool true) rfl rfl ⟨_, rfl, hE0.ext hE, rfl⟩
end Go.Proofs.Ytfdmndkoiheebaa
