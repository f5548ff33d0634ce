import Derived.Test.YtlplogplicgfiaaZ10P12
namespace Go.Proofs.Ytlplogplicgfiaa
open Go Go.RowKit
theorem rot2_bad {d : Dk} {p n : Nat} (hp : p < n) (hl : d.bad.length = 2 * n) : (rotD (rotD d p) (n + p)).bad.getD p true = true ∧ (rotD (rotD d p) (n + p)).bad.getD (n + p) true = true := by
  refine ⟨?_, ?_⟩
  · show ((d.bad.set p true).set (n + p) true).getD p true = true
    rw [List.getD_eq_getElem?_getD, List.getElem?_set_ne (by omega), List.getElem?_set_self (by omega)]; rfl
  · show ((d.bad.set p true).set (n + p) true).getD (n + p) true = true
    rw [List.getD_eq_getElem?_getD, List.getElem?_set_self (by rw [List.length_set]; omega)]; rfl
set_option maxHeartbeats 1600000 in
theorem journalRot (w : World) {pl wh : Nat} {v : Value} {l : List Stp} (hr : Row w 5 v l.length (stpsC l)) (hl : ∀ x ∈ l, okS x) (hpl : pl < 256) (hll : l.length ≤ 9223372036854775807) (hwh : wh < 256) :
    Calls Try.prog 10 #[.int .u8 (pl : Nat), v, .int .u8 (wh : Nat)] w (Ret fun r w' => Ext w w' ∧ r = .bool true) := by
  refine calls_E (args := [.int .u8 ((pl : Nat) : Int), v, .int .u8 ((wh : Nat) : Int)]) 235 Try.func10 rfl rfl (by simp) ?_
  have hE : Ext w w := Upd.refl w
  refine E.seq ?_
  refine E.regionP rfl ?_
  refine R.assign ?_
  refine R.nil ?_
  refine E.seq ?_
  refine E.regionP rfl ?_
  refine R.move ?_
  refine R.move ?_
  refine R.callE2 ent33 (kept_ _ (fun i s j => i ≤ 1000 → ∃ I, KA s j I 1 ∧ KC s j I) (hr.ext hE) hl hpl hll (fun _ => ⟨[], KA.new, KC.new (by omega) (by omega)⟩) (fun i s j rec s' j' g hK hQ hg1 hg2 hl hb hr hi => by
    obtain ⟨I, q1, q2⟩ := hQ (by omega)
    have hI := hK.inv
    rw [← hK.dn] at hI
    obtain ⟨I', r1, r2, _⟩ := q1.app (by rw [hK.dn]; omega) hI hg1 hg2 (by omega) hb (by have := hK.num; omega) (by decide) hr
    exact ⟨I', r1, r2 q2⟩)) rfl rfl nofun ?_
  rintro v24 w1 hx1 ⟨b902, s, j, ii, hi30, rfl, hG, hK, hQ⟩
  have hsz0 := hE.size
  replace hE := hE.ext hx1
  obtain ⟨b900, vb, vd, b901, vl, us, hS, hJ, hb902, hb901, hge0⟩ := hG
  obtain ⟨⟨vL, uL, vp, hB902, hV, hP⟩, hD⟩ := hS
  have hge : ∀ x, AB b901 b900 vb vd x → w.heap.size ≤ x := by
    rintro x (rfl | h)
    · exact Nat.le_trans hsz0 hb901
    · exact Nat.le_trans hsz0 (hge0 x h)
  have hI := hK.inv
  have hdn := hK.dn
  have hpw1 := hK.pw
  have hH := hI.h
  have hlen := hH.len
  have hlst := hH.lst
  have hfst := hH.fst
  have hf1 := hH.ok.fst
  have hnum := hK.num
  have hbn := Dk.n_pos (d := s.d) (by omega)
  have hTS := totalL_S hI
  have hfr0 := hI.free
  unfold freeI at hfr0
  have hat : ∀ i, i < j.live.length → (j.live.getD i Rc0).at_ ≤ 1000000 := fun i hi => by have := hI.at_ i hi; omega
  replace hb902 := Nat.le_trans hsz0 hb902
  replace hb901 := Nat.le_trans hsz0 hb901
  obtain ⟨I, hka, hkc⟩ := hQ (by omega)
  refine R.move ?_
  refine R.extract rfl rfl ?_
  refine R.extract rfl rfl ?_
  refine R.assign ?_
  refine R.assign ?_
  refine R.nil ?_
  refine E.seq ?_
  refine E.seq ?_
  refine E.regionP rfl ?_
  refine R.move ?_
  refine R.not rfl ?_
  refine R.nil ?_
  refine E.condF rfl ?_
  refine E.skip ?_
  refine E.seq ?_
  refine E.regionP rfl ?_
  refine R.move ?_
  refine R.nilCheck rfl ?_
  refine R.fld fa69_0 rfl ?_
  refine R.loadB t32 hB902 rfl rfl rfl trivial ?_
  refine R.nilCheck rfl ?_
  refine R.fld fa25_1 rfl ?_
  refine R.loadB t23 hD.blk rfl rfl rfl trivial ?_
  refine R.len Try.underlying23 hD.bds.row rfl ?_
  refine R.quoN (m := s.d.bad.length) (n := 2) rfl rfl (by omega) (by omega) ?_
  rw [show s.d.bad.length / 2 = s.d.n by omega]
  refine R.assign ?_
  refine R.nil ?_
  refine E.seq ?_
  refine E.forget [(2, .int .u8 ((wh : Nat) : Int)), (7, .pointer (some ⟨b902, 0, none⟩)), (9, .int .i64 ((s.d.n : Nat) : Int))] ⟨rfl, rfl, rfl, trivial⟩ (fun e => ?_)
  refine E.regionP rfl ?_
  refine R.assign ?_
  refine R.nil ?_
  refine E.seq ?_
  refine E.seq ?_
  refine E.regionP rfl ?_
  refine R.move ?_
  refine R.nilCheck rfl ?_
  refine R.fld fa69_2 rfl ?_
  refine R.loadB t67 hB902 rfl rfl rfl trivial ?_
  refine R.len Try.underlying67 hV.sl.row rfl ?_
  refine R.move ?_
  refine R.nil ?_
  refine E.block ?_
  refine E.loop (fun n e wr => ∃ (q : Nat), n = s.live.length - q ∧ q ≤ s.live.length ∧ DM wr b900 vb vd s.d ∧ JM wr b901 b900 vl us j ∧ LvM wr vL uL s.live ∧ SU8s wr vp s.pend ∧ Blk wr b902 69 #[.pointer (some ⟨b900, 0, none⟩), .pointer (some ⟨b901, 0, none⟩), vL, .int .i64 ((s.first : Nat) : Int), vp, .bool (s.waits), .int .i64 ((s.frm : Nat) : Int), .int .i64 ((s.cnt : Nat) : Int)] ∧ Ext w wr ∧ Has e [(2, .int .u8 ((wh : Nat) : Int)), (7, .pointer (some ⟨b902, 0, none⟩)), (9, .int .i64 ((s.d.n : Nat) : Int)), (10, .int .i64 (((cntS (s.live.take q)) : Nat) : Int)), (41, vL), (42, .int .i64 ((s.live.length : Nat) : Int)), (43, .int .i64 ((q : Nat) : Int))]) (s.live.length) ?_ ?_
  · exact ⟨0, rfl, by omega, hD, hJ, hV, hP, hB902, hE, rfl, rfl, rfl, rfl, rfl, rfl, rfl, trivial⟩
  · rintro n e wr ⟨q, rfl, hi, hD, hJ, hV, hP, hB902, hE, hH⟩
    obtain ⟨e, rfl⟩ := hH.ex
    clear hH
    refine E.seq ?_
    refine E.regionP rfl ?_
    refine R.lss (b := decide ((((q : Nat) : Int)) < (((s.live.length : Nat) : Int)))) rfl rfl rfl ?_
    refine R.nil ?_
    refine E.seq ?_
    refine E.cond (b := decide ((((q : Nat) : Int)) < (((s.live.length : Nat) : Int)))) rfl (fun hc44 => ?_) (fun hc44 => ?_)
    · replace hc44 := dT hc44
      have hct := cntS_take (l := s.live) (i := q) (by omega)
      have hcl := cntS_le hI q
      unfold cntL at hct
      have hbl := hH.b q (by omega)
      rw [hH.dat q (by omega)] at hbl
      refine E.skip ?_
      refine E.seq ?_
      refine E.block ?_
      refine E.seq ?_
      refine E.regionP rfl ?_
      refine R.ix (m := q) Try.underlying67 t55 (by decide) hV.sl.row rfl rfl (by omega) ?_
      refine R.load (u := (uL.getD q undef)) t55 hV.sl.row rfl (hV.cell (by omega)) rfl (fun _ _ => trivial) ?_
      refine R.assign ?_
      refine R.nil ?_
      refine E.regionP rfl ?_
      refine R.move ?_
      refine R.move ?_
      refine R.len Try.underlying55 (hV.rows.rows q (by omega)).row rfl ?_
      refine R.addN (m := (((s.live.getD q [])).length)) (n := 47) rfl rfl (by omega) ?_
      refine R.quoN (m := ((((s.live.getD q [])).length) + 47)) (n := 48) rfl rfl (by omega) (by omega) ?_
      refine R.maxN (m := 1) (n := (((((s.live.getD q [])).length) + 47) / 48)) rfl rfl ?_
      refine R.addV (m := (((cntS (s.live.take q)) : Nat) : Int)) (n := ((max 1 (((((s.live.getD q [])).length) + 47) / 48) : Nat) : Int)) (v := (((cntS (s.live.take (q + 1))) : Nat) : Int)) rfl rfl (by omega) (by omega) (by omega) ?_
      refine R.assign ?_
      refine R.nil ?_
      refine E.forget [(2, .int .u8 ((wh : Nat) : Int)), (7, .pointer (some ⟨b902, 0, none⟩)), (9, .int .i64 ((s.d.n : Nat) : Int)), (10, .int .i64 (((cntS (s.live.take (q + 1))) : Nat) : Int)), (41, vL), (42, .int .i64 ((s.live.length : Nat) : Int)), (43, .int .i64 ((q : Nat) : Int))] ⟨rfl, rfl, rfl, rfl, rfl, rfl, rfl, trivial⟩ (fun e => ?_)
      refine E.regionP rfl ?_
      refine R.addN (m := q) (n := 1) rfl rfl (by omega) ?_
      refine R.move ?_
      refine R.nil ?_
      exact ⟨s.live.length - (q + 1), by omega, q + 1, rfl, by omega, hD, hJ, hV, hP, hB902, hE, rfl, rfl, rfl, rfl, rfl, rfl, rfl, trivial⟩
    · replace hc44 := dF hc44
      have hie : cntS (s.live.take q) = cntS s.live := by rw [List.take_of_length_le (by omega)]
      refine E.exit ?_
      refine E.seq ?_
      refine E.seq ?_
      rw [hie]
      refine E.regionP rfl ?_
      refine R.move ?_
      refine R.nilCheck rfl ?_
      refine R.fld fa69_2 rfl ?_
      refine R.loadB t67 hB902 rfl rfl rfl trivial ?_
      refine R.len Try.underlying67 hV.sl.row rfl ?_
      refine R.lss (b := decide ((((s.live.length : Nat) : Int)) < (((2 : Nat) : Int)))) rfl rfl rfl ?_
      refine R.nil ?_
      refine E.cond (b := decide ((((s.live.length : Nat) : Int)) < (((2 : Nat) : Int)))) rfl (fun hc60 => ?_) (fun hc60 => ?_)
      · replace hc60 := dT hc60
        refine E.seq ?_
        refine E.forget [] trivial (fun e => ?_)
        refine E.regionP rfl ?_
        refine R.callE0 ent13 (awake_ _)  nofun ?_
        rintro v61 w2 hx2 rfl
        replace hD := hD.ext hx2
        replace hJ := hJ.ext hx2
        replace hV := hV.ext hx2
        replace hP := hP.ext hx2
        replace hB902 := hB902.ext hx2
        replace hE := hE.ext hx2
        refine R.assign ?_
        refine R.nil ?_
        refine E.ret ?_
        refine ret1 (.bool (true)) rfl rfl ⟨_, rfl, ?_⟩
        exact ⟨hE, rfl⟩
      · replace hc60 := dF hc60
        obtain ⟨a, ha⟩ : ∃ a, a = (j.live.getD (j.live.length - 1) Rc0).at_ := ⟨_, rfl⟩
        have han : a < s.d.n := by have := hI.at_ (j.live.length - 1) (by omega); omega
        have hlast : max 1 (((s.live.getD (s.live.length - 1) []).length + 47) / 48) = (j.live.getD (j.live.length - 1) Rc0).h.total := by
          rw [hI.tot _ (by omega), hlen, hH.dat _ (by omega)]; rfl
        have hTl := totalL_take (l := j.live) (i := j.live.length - 1) (by omega)
        rw [show j.live.length - 1 + 1 = j.live.length by omega, List.take_of_length_le (Nat.le_refl _), hTS, ← hlast] at hTl
        have hTg : j.live.length - 1 ≤ totalL (j.live.take (j.live.length - 1)) := by
          have := totalL_ge (l := j.live.take (j.live.length - 1)) (fun i hi => by
            rw [List.length_take] at hi
            have e : (j.live.take (j.live.length - 1)).getD i Rc0 = j.live.getD i Rc0 := by
              simp only [List.getD_eq_getElem?_getD, List.getElem?_take]
              rw [if_pos (by omega)]
            rw [e, hI.tot i (by omega)]; exact cntL_pos _)
          rw [List.length_take] at this; omega
        have hcl := cntS_le hI s.live.length
        rw [List.take_of_length_le (Nat.le_refl _)] at hcl
        have hwm := Nat.mod_lt wh (show 0 < cntS s.live - max 1 (((s.live.getD (s.live.length - 1) []).length + 47) / 48) by omega)
        have hbl := hH.b (j.live.length - 1) (by omega)
        rw [hlen, hH.dat _ (by omega)] at hbl
        refine E.skip ?_
        refine E.seq ?_
        refine E.regionW allS [] mixed rfl (by kernel_rfl) ?_
        intro w3 hx3 hh3
        replace hD := hD.ext hx3
        replace hJ := hJ.ext hx3
        replace hV := hV.ext hx3
        replace hP := hP.ext hx3
        replace hB902 := hB902.ext hx3
        replace hE := hE.ext hx3
        refine R.move ?_
        refine R.nilCheck rfl ?_
        refine R.fld fa69_2 rfl ?_
        refine R.loadB t67 hB902 rfl rfl rfl trivial ?_
        refine R.move ?_
        refine R.nilCheck rfl ?_
        refine R.fld fa69_2 rfl ?_
        refine R.loadB t67 hB902 rfl rfl rfl trivial ?_
        refine R.len Try.underlying67 hV.sl.row rfl ?_
        refine R.subN (m := s.live.length) (n := 1) rfl rfl (by omega) (by omega) ?_
        refine R.ix (m := (s.live.length - 1)) Try.underlying67 t55 (by decide) hV.sl.row rfl rfl (by omega) ?_
        refine R.load (u := (uL.getD (s.live.length - 1) undef)) t55 hV.sl.row rfl (hV.cell (by omega)) rfl (fun _ _ => trivial) ?_
        refine R.len Try.underlying55 (hV.rows.rows (s.live.length - 1) (by omega)).row rfl ?_
        refine R.addN (m := (((s.live.getD (s.live.length - 1) [])).length)) (n := 47) rfl rfl (by omega) ?_
        refine R.quoN (m := ((((s.live.getD (s.live.length - 1) [])).length) + 47)) (n := 48) rfl rfl (by omega) (by omega) ?_
        refine R.maxN (m := 1) (n := (((((s.live.getD (s.live.length - 1) [])).length) + 47) / 48)) rfl rfl ?_
        refine R.assign ?_
        refine R.nil ?_
        refine E.seq ?_
        refine E.forget [(2, .int .u8 ((wh : Nat) : Int)), (7, .pointer (some ⟨b902, 0, none⟩)), (9, .int .i64 ((s.d.n : Nat) : Int)), (10, .int .i64 (((cntS s.live) : Nat) : Int)), (13, .int .i64 ((max 1 (((((s.live.getD (s.live.length - 1) [])).length) + 47) / 48) : Nat) : Int))] ⟨rfl, rfl, rfl, rfl, rfl, trivial⟩ (fun e => ?_)
        refine E.regionP rfl ?_
        refine R.assign ?_
        refine R.nil ?_
        refine E.seq ?_
        refine E.seq ?_
        refine E.regionP rfl ?_
        refine R.move ?_
        refine R.move ?_
        refine R.nil ?_
        refine E.block ?_
        refine E.loop (fun n e wr => ∃ (i : Nat), n = s.d.n - i ∧ i ≤ s.d.n ∧ DM wr b900 vb vd s.d ∧ JM wr b901 b900 vl us j ∧ LvM wr vL uL s.live ∧ SU8s wr vp s.pend ∧ Blk wr b902 69 #[.pointer (some ⟨b900, 0, none⟩), .pointer (some ⟨b901, 0, none⟩), vL, .int .i64 ((s.first : Nat) : Int), vp, .bool (s.waits), .int .i64 ((s.frm : Nat) : Int), .int .i64 ((s.cnt : Nat) : Int)] ∧ Ext w wr ∧ Has e [(2, .int .u8 ((wh : Nat) : Int)), (7, .pointer (some ⟨b902, 0, none⟩)), (9, .int .i64 ((s.d.n : Nat) : Int)), (10, .int .i64 (((cntS s.live) : Nat) : Int)), (13, .int .i64 ((max 1 (((((s.live.getD (s.live.length - 1) [])).length) + 47) / 48) : Nat) : Int)), (14, .int .i64 ((if a < i then ((a : Nat) : Int) else -1))), (78, .int .i64 ((s.d.n : Nat) : Int)), (79, .int .i64 ((i : Nat) : Int))]) (s.d.n) ?_ ?_
        · exact ⟨0, rfl, by omega, hD, hJ, hV, hP, hB902, hE, rfl, rfl, rfl, rfl, rfl, (congrArg (Value.int .i64) (show (-1 : Int) = (if a < 0 then ((a : Nat) : Int) else -1) from by rw [if_neg (by omega)])), rfl, rfl, trivial⟩
        · rintro n e wr ⟨i, rfl, hi, hD, hJ, hV, hP, hB902, hE, hH⟩
          obtain ⟨e, rfl⟩ := hH.ex
          clear hH
          refine E.seq ?_
          refine E.regionP rfl ?_
          refine R.lss (b := decide ((((i : Nat) : Int)) < (((s.d.n : Nat) : Int)))) rfl rfl rfl ?_
          refine R.nil ?_
          refine E.seq ?_
          refine E.cond (b := decide ((((i : Nat) : Int)) < (((s.d.n : Nat) : Int)))) rfl (fun hc80 => ?_) (fun hc80 => ?_)
          · replace hc80 := dT hc80
            have hpl := hkc.place hka (by omega) (by omega) (i := i) (by omega)
            rw [← ha] at hpl
            have hpb : ∀ k, (blkO (s.d.read (((i : Nat) : Int)))).getD k 0 < 256 := fun k => getD_lt (Dk.okO hD.ok).2 k
            have hp4 := hpb 4
            have hp5 := hpb 5
            have hp6 := hpb 6
            have hp7 := hpb 7
            have hwl : wordL ((blkO (s.d.read (((i : Nat) : Int)))).drop 4) = (blkO (s.d.read (((i : Nat) : Int)))).getD 4 0 * 16777216 + (blkO (s.d.read (((i : Nat) : Int)))).getD 5 0 * 65536 + (blkO (s.d.read (((i : Nat) : Int)))).getD 6 0 * 256 + (blkO (s.d.read (((i : Nat) : Int)))).getD 7 0 := by
              unfold wordL; rw [getD_dropA, getD_dropA, getD_dropA, getD_dropA]
            refine E.skip ?_
            refine E.seq ?_
            refine E.block ?_
            refine E.seq ?_
            refine E.regionP rfl ?_
            refine R.move ?_
            refine R.assign ?_
            refine R.nil ?_
            refine E.seq ?_
            refine E.regionP rfl ?_
            refine R.move ?_
            refine R.nilCheck rfl ?_
            refine R.fld fa69_0 rfl ?_
            refine R.loadB t32 hB902 rfl rfl rfl trivial ?_
            refine R.move ?_
            refine R.callE2 ent15 (read_ _ hD) rfl rfl nofun ?_
            rintro v88 w4 hx4 rfl
            have hp88 : BlockP (blkO (s.d.read ((i : Nat) : Int))) := Dk.okO hD.ok
            replace hD := hD.ext hx4
            replace hJ := hJ.ext hx4
            replace hV := hV.ext hx4
            replace hP := hP.ext hx4
            replace hB902 := hB902.ext hx4
            replace hE := hE.ext hx4
            refine R.move ?_
            refine R.extract rfl rfl ?_
            refine R.extract rfl rfl ?_
            refine R.alloc t27 nofun ?_
            intro b16 w5 hb16 hx5 hB16
            have hn_hD_16 := hD.new hb16
            replace hb16 := Nat.le_trans hE.size hb16
            replace hD := hD.ext hx5
            replace hJ := hJ.ext hx5
            replace hV := hV.ext hx5
            replace hP := hP.ext hx5
            replace hB902 := hB902.ext hx5
            replace hE := hE.ext hx5
            replace hB16 : Blk _ b16 27 (Array.replicate 64 (.int .u8 0)) := hB16
            rw [← zeroV] at hB16
            refine R.storeA t27 hB16 rfl rfl (blkV_size zeroB_ok.1) (blkV_size hp88.1) blkV_ones nofun ?_
            intro w6 hU6 hs6 hN6
            replace hD := hD.upN hU6 hn_hD_16
            replace hJ := hJ.upT hU6 hB16 (by decide)
            replace hV := hV.upT hU6 hB16 (by decide)
            replace hP := hP.upT hU6 hB16 (by decide)
            replace hB902 := hB902.upT hU6 hB16 (by decide)
            replace hE := hE.own hU6 hb16
            replace hB16 : Blk _ b16 27 (blkV ((blkO (s.d.read ((i : Nat) : Int))))) := hN6
            refine R.assign ?_
            refine R.nil ?_
            refine E.seq ?_
            refine E.forget [(2, .int .u8 ((wh : Nat) : Int)), (7, .pointer (some ⟨b902, 0, none⟩)), (9, .int .i64 ((s.d.n : Nat) : Int)), (10, .int .i64 (((cntS s.live) : Nat) : Int)), (13, .int .i64 ((max 1 (((((s.live.getD (s.live.length - 1) [])).length) + 47) / 48) : Nat) : Int)), (14, .int .i64 ((if a < i then ((a : Nat) : Int) else -1))), (15, .int .i64 ((i : Nat) : Int)), (16, .pointer (some ⟨b16, 0, none⟩)), (17, .bool ((s.d.read ((i : Nat) : Int)).isSome)), (78, .int .i64 ((s.d.n : Nat) : Int)), (79, .int .i64 ((i : Nat) : Int))] ⟨rfl, rfl, rfl, rfl, rfl, rfl, rfl, rfl, rfl, rfl, rfl, trivial⟩ (fun e => ?_)
            refine E.regionW (fun c x => x < w6.heap.size ∧ (c = false → True)) []  mixed rfl (by kernel_rfl) ?_
            intro w7 hx7 hh7
            replace hD := hD.ext hx7
            replace hJ := hJ.ext hx7
            replace hV := hV.ext hx7
            replace hP := hP.ext hx7
            replace hB902 := hB902.ext hx7
            replace hB16 := hB16.ext hx7
            replace hE := hE.ext hx7
            have hEs : Ext w7 w7 := Upd.refl _
            have hS0 := hx7.size
            have hSB : ∀ b, b < w7.heap.size → b < w6.heap.size ∧ (true = false → (fun x => True) b) := fun b hb => ⟨by rw [hh7] at hb; exact hb, nofun⟩
            have hSA : ∀ b, b < w7.heap.size → (fun x => True) b → b < w6.heap.size ∧ (false = false → (fun x => True) b) := fun b hb h => ⟨by rw [hh7] at hb; exact hb, fun _ => h⟩
            have hSO : ∀ b, b < w.heap.size → b < w6.heap.size ∧ (false = false → (fun x => True) b) := fun b hb => hSA b (Nat.lt_of_lt_of_le hb hE.size) (trivial)
            have hDs := hD
            have hJs := hJ
            have hVs := hV
            have hPs := hP
            have hB902s := hB902
            have hB16s := hB16
            refine R.move ?_
            refine R.move ?_
            have hg92 := Bool.eq_false_or_eq_true ((s.d.read ((i : Nat) : Int)).isSome)
            rcases hg92 with hg92 | hg92
            · have hg92q := hg92
              refine R.gT rfl (congrArg Value.bool hg92q) ?_
              refine R.ixA (m := 0) Try.underlying27 t5 rfl rfl (by first | omega | decide) ?_
              refine R.gT rfl (congrArg Value.bool hg92q) ?_
              refine R.loadB (i := 0 + 0) (u := .int .u8 (((((blkO (s.d.read ((i : Nat) : Int)))).getD 0 0) : Nat) : Int)) t5 hB16 rfl (arr_getD (hp88).1 (by first | omega | decide)) rfl (hSA b16 hB16s.lt (trivial)) ?_
              refine R.gT rfl (congrArg Value.bool hg92q) ?_
              refine R.eql (b := decide (((((((blkO (s.d.read ((i : Nat) : Int)))).getD 0 0) : Nat) : Int)) = (((1 : Nat) : Int)))) rfl rfl rfl ?_
              refine R.pickT (congrArg Value.bool hg92q) ?_
              refine R.move ?_
              have hg97 := Bool.eq_false_or_eq_true (decide (((((((blkO (s.d.read ((i : Nat) : Int)))).getD 0 0) : Nat) : Int)) = (((1 : Nat) : Int))))
              rcases hg97 with hg97 | hg97
              · have hg97q := hg97
                replace hg97 := dT hg97
                refine R.gT rfl (congrArg Value.bool hg97q) ?_
                refine R.ixA (m := 1) Try.underlying27 t5 rfl rfl (by first | omega | decide) ?_
                refine R.gT rfl (congrArg Value.bool hg97q) ?_
                refine R.loadB (i := 0 + 1) (u := .int .u8 (((((blkO (s.d.read ((i : Nat) : Int)))).getD 1 0) : Nat) : Int)) t5 hB16 rfl (arr_getD (hp88).1 (by first | omega | decide)) rfl (hSA b16 hB16s.lt (trivial)) ?_
                refine R.gT rfl (congrArg Value.bool hg97q) ?_
                refine R.eql (b := decide (((((((blkO (s.d.read ((i : Nat) : Int)))).getD 1 0) : Nat) : Int)) = (((0 : Nat) : Int)))) rfl rfl rfl ?_
                refine R.pickT (congrArg Value.bool hg97q) ?_
                refine R.move ?_
                have hg102 := Bool.eq_false_or_eq_true (decide (((((((blkO (s.d.read ((i : Nat) : Int)))).getD 1 0) : Nat) : Int)) = (((0 : Nat) : Int))))
                rcases hg102 with hg102 | hg102
                · have hg102q := hg102
                  replace hg102 := dT hg102
                  refine R.gT rfl (congrArg Value.bool hg102q) ?_
                  refine R.ixA (m := 4) Try.underlying27 t5 rfl rfl (by first | omega | decide) ?_
                  refine R.gT rfl (congrArg Value.bool hg102q) ?_
                  refine R.loadB (i := 0 + 4) (u := .int .u8 (((((blkO (s.d.read ((i : Nat) : Int)))).getD 4 0) : Nat) : Int)) t5 hB16 rfl (arr_getD (hp88).1 (by first | omega | decide)) rfl (hSA b16 hB16s.lt (trivial)) ?_
                  refine R.gT rfl (congrArg Value.bool hg102q) ?_
                  refine R.toI (n := (((blkO (s.d.read ((i : Nat) : Int)))).getD 4 0)) Try.underlying5 Try.underlying3 rfl (by omega) ?_
                  refine R.gT rfl (congrArg Value.bool hg102q) ?_
                  refine R.shlN (m := (blkO (s.d.read (((i : Nat) : Int)))).getD 4 0) (n := 24) rfl rfl (by decide) (by have := hpb 4; omega) ?_
                  refine R.gT rfl (congrArg Value.bool hg102q) ?_
                  refine R.ixA (m := 5) Try.underlying27 t5 rfl rfl (by first | omega | decide) ?_
                  refine R.gT rfl (congrArg Value.bool hg102q) ?_
                  refine R.loadB (i := 0 + 5) (u := .int .u8 (((((blkO (s.d.read ((i : Nat) : Int)))).getD 5 0) : Nat) : Int)) t5 hB16 rfl (arr_getD (hp88).1 (by first | omega | decide)) rfl (hSA b16 hB16s.lt (trivial)) ?_
                  refine R.gT rfl (congrArg Value.bool hg102q) ?_
                  refine R.toI (n := (((blkO (s.d.read ((i : Nat) : Int)))).getD 5 0)) Try.underlying5 Try.underlying3 rfl (by omega) ?_
                  refine R.gT rfl (congrArg Value.bool hg102q) ?_
                  refine R.shlN (m := (blkO (s.d.read (((i : Nat) : Int)))).getD 5 0) (n := 16) rfl rfl (by decide) (by have := hpb 5; omega) ?_
                  refine R.gT rfl (congrArg Value.bool hg102q) ?_
                  refine R.orN (m := ((blkO (s.d.read (((i : Nat) : Int)))).getD 4 0) * 2 ^ 24) (n := ((blkO (s.d.read (((i : Nat) : Int)))).getD 5 0) * 2 ^ 16) rfl rfl (by have := hpb 4; have := hpb 5; have := hpb 6; have := hpb 7; omega) (by have := hpb 4; have := hpb 5; have := hpb 6; have := hpb 7; omega) ?_
                  refine R.gT rfl (congrArg Value.bool hg102q) ?_
                  refine R.ixA (m := 6) Try.underlying27 t5 rfl rfl (by first | omega | decide) ?_
                  refine R.gT rfl (congrArg Value.bool hg102q) ?_
                  refine R.loadB (i := 0 + 6) (u := .int .u8 (((((blkO (s.d.read ((i : Nat) : Int)))).getD 6 0) : Nat) : Int)) t5 hB16 rfl (arr_getD (hp88).1 (by first | omega | decide)) rfl (hSA b16 hB16s.lt (trivial)) ?_
                  refine R.gT rfl (congrArg Value.bool hg102q) ?_
                  refine R.toI (n := (((blkO (s.d.read ((i : Nat) : Int)))).getD 6 0)) Try.underlying5 Try.underlying3 rfl (by omega) ?_
                  refine R.gT rfl (congrArg Value.bool hg102q) ?_
                  refine R.shlN (m := (blkO (s.d.read (((i : Nat) : Int)))).getD 6 0) (n := 8) rfl rfl (by decide) (by have := hpb 6; omega) ?_
                  refine R.gT rfl (congrArg Value.bool hg102q) ?_
                  refine R.orN (m := (((blkO (s.d.read (((i : Nat) : Int)))).getD 4 0) * 2 ^ 24) ||| (((blkO (s.d.read (((i : Nat) : Int)))).getD 5 0) * 2 ^ 16)) (n := ((blkO (s.d.read (((i : Nat) : Int)))).getD 6 0) * 2 ^ 8) rfl rfl (Nat.or_lt_two_pow (by have := hpb 4; have := hpb 5; have := hpb 6; have := hpb 7; omega) (by have := hpb 4; have := hpb 5; have := hpb 6; have := hpb 7; omega)) (by have := hpb 4; have := hpb 5; have := hpb 6; have := hpb 7; omega) ?_
                  refine R.gT rfl (congrArg Value.bool hg102q) ?_
                  refine R.ixA (m := 7) Try.underlying27 t5 rfl rfl (by first | omega | decide) ?_
                  refine R.gT rfl (congrArg Value.bool hg102q) ?_
                  refine R.loadB (i := 0 + 7) (u := .int .u8 (((((blkO (s.d.read ((i : Nat) : Int)))).getD 7 0) : Nat) : Int)) t5 hB16 rfl (arr_getD (hp88).1 (by first | omega | decide)) rfl (hSA b16 hB16s.lt (trivial)) ?_
                  refine R.gT rfl (congrArg Value.bool hg102q) ?_
                  refine R.toI (n := (((blkO (s.d.read ((i : Nat) : Int)))).getD 7 0)) Try.underlying5 Try.underlying3 rfl (by omega) ?_
                  refine R.gT rfl (congrArg Value.bool hg102q) ?_
                  refine R.orN (m := ((((blkO (s.d.read (((i : Nat) : Int)))).getD 4 0) * 2 ^ 24) ||| (((blkO (s.d.read (((i : Nat) : Int)))).getD 5 0) * 2 ^ 16)) ||| (((blkO (s.d.read (((i : Nat) : Int)))).getD 6 0) * 2 ^ 8)) (n := (blkO (s.d.read (((i : Nat) : Int)))).getD 7 0) rfl rfl (Nat.or_lt_two_pow (Nat.or_lt_two_pow (by have := hpb 4; have := hpb 5; have := hpb 6; have := hpb 7; omega) (by have := hpb 4; have := hpb 5; have := hpb 6; have := hpb 7; omega)) (by have := hpb 4; have := hpb 5; have := hpb 6; have := hpb 7; omega)) (by have := hpb 4; have := hpb 5; have := hpb 6; have := hpb 7; omega) ?_
                  refine R.gT rfl (congrArg Value.bool hg102q) ?_
                  refine R.move ?_
                  refine R.gT rfl (congrArg Value.bool hg102q) ?_
                  refine R.nilCheck rfl ?_
                  refine R.gT rfl (congrArg Value.bool hg102q) ?_
                  refine R.fld fa69_1 rfl ?_
                  refine R.gT rfl (congrArg Value.bool hg102q) ?_
                  refine R.loadB t66 hB902 rfl rfl rfl (hSA b902 hB902s.lt (trivial)) ?_
                  refine R.gT rfl (congrArg Value.bool hg102q) ?_
                  refine R.callE1 ent37 (lastN_ _ hJ hH.ok.len) rfl (fun _ _ hb => Nat.lt_of_lt_of_le hb.1 (Nat.le_trans hS0 hEs.size)) ?_
                  rintro v125 w8 hx8 rfl
                  replace hD := hD.ext hx8
                  replace hJ := hJ.ext hx8
                  replace hV := hV.ext hx8
                  replace hP := hP.ext hx8
                  replace hB902 := hB902.ext hx8
                  replace hB16 := hB16.ext hx8
                  replace hE := hE.ext hx8
                  replace hEs := hEs.ext hx8
                  refine R.gT rfl (congrArg Value.bool hg102q) ?_
                  refine R.eql (b := decide (((((((((blkO (s.d.read (((i : Nat) : Int)))).getD 4 0) * 2 ^ 24) ||| (((blkO (s.d.read (((i : Nat) : Int)))).getD 5 0) * 2 ^ 16)) ||| (((blkO (s.d.read (((i : Nat) : Int)))).getD 6 0) * 2 ^ 8)) ||| ((blkO (s.d.read (((i : Nat) : Int)))).getD 7 0) : Nat) : Int)) = ((((lastN j.live) : Nat) : Int)))) rfl rfl rfl ?_
                  refine R.pickT (congrArg Value.bool hg102q) ?_
                  refine R.nil ?_
                  refine E.cond (b := decide (((((((((blkO (s.d.read (((i : Nat) : Int)))).getD 4 0) * 2 ^ 24) ||| (((blkO (s.d.read (((i : Nat) : Int)))).getD 5 0) * 2 ^ 16)) ||| (((blkO (s.d.read (((i : Nat) : Int)))).getD 6 0) * 2 ^ 8)) ||| ((blkO (s.d.read (((i : Nat) : Int)))).getD 7 0) : Nat) : Int)) = ((((lastN j.live) : Nat) : Int)))) rfl (fun hc127 => ?_) (fun hc127 => ?_)
                  · replace hc127 := dT hc127
                    have hia : i = a := by
                      rw [word_or (hpb 5) (hpb 6) (hpb 7)] at hc127
                      exact hpl.1 ⟨hg92, by omega, by omega, by omega⟩
                    refine E.forget [(2, .int .u8 ((wh : Nat) : Int)), (7, .pointer (some ⟨b902, 0, none⟩)), (9, .int .i64 ((s.d.n : Nat) : Int)), (10, .int .i64 (((cntS s.live) : Nat) : Int)), (13, .int .i64 ((max 1 (((((s.live.getD (s.live.length - 1) [])).length) + 47) / 48) : Nat) : Int)), (15, .int .i64 ((i : Nat) : Int)), (78, .int .i64 ((s.d.n : Nat) : Int)), (79, .int .i64 ((i : Nat) : Int))] ⟨rfl, rfl, rfl, rfl, rfl, rfl, rfl, rfl, trivial⟩ (fun e => ?_)
                    refine E.regionP rfl ?_
                    refine R.move ?_
                    refine R.assign ?_
                    refine R.nil ?_
                    refine E.regionP rfl ?_
                    refine R.addN (m := i) (n := 1) rfl rfl (by omega) ?_
                    refine R.move ?_
                    refine R.nil ?_
                    exact ⟨s.d.n - (i + 1), by omega, i + 1, rfl, by omega, hD, hJ, hV, hP, hB902, hE, rfl, rfl, rfl, rfl, rfl, (congrArg (Value.int .i64) (show ((i : Nat) : Int) = (if a < (i + 1) then ((a : Nat) : Int) else -1) from by rw [if_pos (by omega), hia])), rfl, rfl, trivial⟩
                  · replace hc127 := dF hc127
                    have hia : i ≠ a := fun e => by
                      have h := hpl.2 e
                      have h4 := h.2.2.2
                      rw [word_or (hpb 5) (hpb 6) (hpb 7)] at hc127
                      omega
                    refine E.skip ?_
                    refine E.forget [(2, .int .u8 ((wh : Nat) : Int)), (7, .pointer (some ⟨b902, 0, none⟩)), (9, .int .i64 ((s.d.n : Nat) : Int)), (10, .int .i64 (((cntS s.live) : Nat) : Int)), (13, .int .i64 ((max 1 (((((s.live.getD (s.live.length - 1) [])).length) + 47) / 48) : Nat) : Int)), (14, .int .i64 ((if a < i then ((a : Nat) : Int) else -1))), (78, .int .i64 ((s.d.n : Nat) : Int)), (79, .int .i64 ((i : Nat) : Int))] ⟨rfl, rfl, rfl, rfl, rfl, rfl, rfl, rfl, trivial⟩ (fun e => ?_)
                    refine E.regionP rfl ?_
                    refine R.addN (m := i) (n := 1) rfl rfl (by omega) ?_
                    refine R.move ?_
                    refine R.nil ?_
                    exact ⟨s.d.n - (i + 1), by omega, i + 1, rfl, by omega, hD, hJ, hV, hP, hB902, hE, rfl, rfl, rfl, rfl, rfl, (congrArg (Value.int .i64) (show (if a < i then ((a : Nat) : Int) else -1) = (if a < (i + 1) then ((a : Nat) : Int) else -1) from by split <;> split <;> omega)), rfl, rfl, trivial⟩
                · have hg102q := hg102
                  replace hg102 := dF hg102
                  have hia : i ≠ a := fun e => by
                    have h := hpl.2 e
                    have := h.2.2.1; omega
                  refine R.gF rfl (congrArg Value.bool hg102q) rfl ?_
                  refine R.gF rfl (congrArg Value.bool hg102q) rfl ?_
                  refine R.gF rfl (congrArg Value.bool hg102q) rfl ?_
                  refine R.gF rfl (congrArg Value.bool hg102q) rfl ?_
                  refine R.gF rfl (congrArg Value.bool hg102q) rfl ?_
                  refine R.gF rfl (congrArg Value.bool hg102q) rfl ?_
                  refine R.gF rfl (congrArg Value.bool hg102q) rfl ?_
                  refine R.gF rfl (congrArg Value.bool hg102q) rfl ?_
                  refine R.gF rfl (congrArg Value.bool hg102q) rfl ?_
                  refine R.gF rfl (congrArg Value.bool hg102q) rfl ?_
                  refine R.gF rfl (congrArg Value.bool hg102q) rfl ?_
                  refine R.gF rfl (congrArg Value.bool hg102q) rfl ?_
                  refine R.gF rfl (congrArg Value.bool hg102q) rfl ?_
                  refine R.gF rfl (congrArg Value.bool hg102q) rfl ?_
                  refine R.gF rfl (congrArg Value.bool hg102q) rfl ?_
                  refine R.gF rfl (congrArg Value.bool hg102q) rfl ?_
                  refine R.gF rfl (congrArg Value.bool hg102q) rfl ?_
                  refine R.gF rfl (congrArg Value.bool hg102q) rfl ?_
                  refine R.gF rfl (congrArg Value.bool hg102q) rfl ?_
                  refine R.gF rfl (congrArg Value.bool hg102q) rfl ?_
                  refine R.gF rfl (congrArg Value.bool hg102q) rfl ?_
                  refine R.gF rfl (congrArg Value.bool hg102q) rfl ?_
                  refine R.gF rfl (congrArg Value.bool hg102q) rfl ?_
                  refine R.gF rfl (congrArg Value.bool hg102q) rfl ?_
                  refine R.pickF (congrArg Value.bool hg102q) ?_
                  refine R.nil ?_
                  refine E.condF rfl ?_
                  refine E.skip ?_
                  refine E.forget [(2, .int .u8 ((wh : Nat) : Int)), (7, .pointer (some ⟨b902, 0, none⟩)), (9, .int .i64 ((s.d.n : Nat) : Int)), (10, .int .i64 (((cntS s.live) : Nat) : Int)), (13, .int .i64 ((max 1 (((((s.live.getD (s.live.length - 1) [])).length) + 47) / 48) : Nat) : Int)), (14, .int .i64 ((if a < i then ((a : Nat) : Int) else -1))), (78, .int .i64 ((s.d.n : Nat) : Int)), (79, .int .i64 ((i : Nat) : Int))] ⟨rfl, rfl, rfl, rfl, rfl, rfl, rfl, rfl, trivial⟩ (fun e => ?_)
                  refine E.regionP rfl ?_
                  refine R.addN (m := i) (n := 1) rfl rfl (by omega) ?_
                  refine R.move ?_
                  refine R.nil ?_
                  exact ⟨s.d.n - (i + 1), by omega, i + 1, rfl, by omega, hD, hJ, hV, hP, hB902, hE, rfl, rfl, rfl, rfl, rfl, (congrArg (Value.int .i64) (show (if a < i then ((a : Nat) : Int) else -1) = (if a < (i + 1) then ((a : Nat) : Int) else -1) from by split <;> split <;> omega)), rfl, rfl, trivial⟩
              · have hg97q := hg97
                replace hg97 := dF hg97
                have hia : i ≠ a := fun e => by
                  have h := hpl.2 e
                  have := h.2.1; omega
                refine R.gF rfl (congrArg Value.bool hg97q) rfl ?_
                refine R.gF rfl (congrArg Value.bool hg97q) rfl ?_
                refine R.gF rfl (congrArg Value.bool hg97q) rfl ?_
                refine R.pickF (congrArg Value.bool hg97q) ?_
                refine R.move ?_
                refine R.gF rfl rfl rfl ?_
                refine R.gF rfl rfl rfl ?_
                refine R.gF rfl rfl rfl ?_
                refine R.gF rfl rfl rfl ?_
                refine R.gF rfl rfl rfl ?_
                refine R.gF rfl rfl rfl ?_
                refine R.gF rfl rfl rfl ?_
                refine R.gF rfl rfl rfl ?_
                refine R.gF rfl rfl rfl ?_
                refine R.gF rfl rfl rfl ?_
                refine R.gF rfl rfl rfl ?_
                refine R.gF rfl rfl rfl ?_
                refine R.gF rfl rfl rfl ?_
                refine R.gF rfl rfl rfl ?_
                refine R.gF rfl rfl rfl ?_
                refine R.gF rfl rfl rfl ?_
                refine R.gF rfl rfl rfl ?_
                refine R.gF rfl rfl rfl ?_
                refine R.gF rfl rfl rfl ?_
                refine R.gF rfl rfl rfl ?_
                refine R.gF rfl rfl rfl ?_
                refine R.gF rfl rfl rfl ?_
                refine R.gF rfl rfl rfl ?_
                refine R.gF rfl rfl rfl ?_
                refine R.pickF rfl ?_
                refine R.nil ?_
                refine E.condF rfl ?_
                refine E.skip ?_
                refine E.forget [(2, .int .u8 ((wh : Nat) : Int)), (7, .pointer (some ⟨b902, 0, none⟩)), (9, .int .i64 ((s.d.n : Nat) : Int)), (10, .int .i64 (((cntS s.live) : Nat) : Int)), (13, .int .i64 ((max 1 (((((s.live.getD (s.live.length - 1) [])).length) + 47) / 48) : Nat) : Int)), (14, .int .i64 ((if a < i then ((a : Nat) : Int) else -1))), (78, .int .i64 ((s.d.n : Nat) : Int)), (79, .int .i64 ((i : Nat) : Int))] ⟨rfl, rfl, rfl, rfl, rfl, rfl, rfl, rfl, trivial⟩ (fun e => ?_)
                refine E.regionP rfl ?_
                refine R.addN (m := i) (n := 1) rfl rfl (by omega) ?_
                refine R.move ?_
                refine R.nil ?_
                exact ⟨s.d.n - (i + 1), by omega, i + 1, rfl, by omega, hD, hJ, hV, hP, hB902, hE, rfl, rfl, rfl, rfl, rfl, (congrArg (Value.int .i64) (show (if a < i then ((a : Nat) : Int) else -1) = (if a < (i + 1) then ((a : Nat) : Int) else -1) from by split <;> split <;> omega)), rfl, rfl, trivial⟩
            · have hg92q := hg92
              have hia : i ≠ a := fun e => by
                have h := hpl.2 e
                rw [h.1] at hg92; exact absurd hg92 (by decide)
              refine R.gF rfl (congrArg Value.bool hg92q) rfl ?_
              refine R.gF rfl (congrArg Value.bool hg92q) rfl ?_
              refine R.gF rfl (congrArg Value.bool hg92q) rfl ?_
              refine R.pickF (congrArg Value.bool hg92q) ?_
              refine R.move ?_
              refine R.gF rfl rfl rfl ?_
              refine R.gF rfl rfl rfl ?_
              refine R.gF rfl rfl rfl ?_
              refine R.pickF rfl ?_
              refine R.move ?_
              refine R.gF rfl rfl rfl ?_
              refine R.gF rfl rfl rfl ?_
              refine R.gF rfl rfl rfl ?_
              refine R.gF rfl rfl rfl ?_
              refine R.gF rfl rfl rfl ?_
              refine R.gF rfl rfl rfl ?_
              refine R.gF rfl rfl rfl ?_
              refine R.gF rfl rfl rfl ?_
              refine R.gF rfl rfl rfl ?_
              refine R.gF rfl rfl rfl ?_
              refine R.gF rfl rfl rfl ?_
              refine R.gF rfl rfl rfl ?_
              refine R.gF rfl rfl rfl ?_
              refine R.gF rfl rfl rfl ?_
              refine R.gF rfl rfl rfl ?_
              refine R.gF rfl rfl rfl ?_
              refine R.gF rfl rfl rfl ?_
              refine R.gF rfl rfl rfl ?_
              refine R.gF rfl rfl rfl ?_
              refine R.gF rfl rfl rfl ?_
              refine R.gF rfl rfl rfl ?_
              refine R.gF rfl rfl rfl ?_
              refine R.gF rfl rfl rfl ?_
              refine R.gF rfl rfl rfl ?_
              refine R.pickF rfl ?_
              refine R.nil ?_
              refine E.condF rfl ?_
              refine E.skip ?_
              refine E.forget [(2, .int .u8 ((wh : Nat) : Int)), (7, .pointer (some ⟨b902, 0, none⟩)), (9, .int .i64 ((s.d.n : Nat) : Int)), (10, .int .i64 (((cntS s.live) : Nat) : Int)), (13, .int .i64 ((max 1 (((((s.live.getD (s.live.length - 1) [])).length) + 47) / 48) : Nat) : Int)), (14, .int .i64 ((if a < i then ((a : Nat) : Int) else -1))), (78, .int .i64 ((s.d.n : Nat) : Int)), (79, .int .i64 ((i : Nat) : Int))] ⟨rfl, rfl, rfl, rfl, rfl, rfl, rfl, rfl, trivial⟩ (fun e => ?_)
              refine E.regionP rfl ?_
              refine R.addN (m := i) (n := 1) rfl rfl (by omega) ?_
              refine R.move ?_
              refine R.nil ?_
              exact ⟨s.d.n - (i + 1), by omega, i + 1, rfl, by omega, hD, hJ, hV, hP, hB902, hE, rfl, rfl, rfl, rfl, rfl, (congrArg (Value.int .i64) (show (if a < i then ((a : Nat) : Int) else -1) = (if a < (i + 1) then ((a : Nat) : Int) else -1) from by split <;> split <;> omega)), rfl, rfl, trivial⟩
          · replace hc80 := dF hc80
            refine E.exit ?_
            refine E.seq ?_
            refine E.seq ?_
            rw [show (if a < i then ((a : Nat) : Int) else -1) = ((a : Nat) : Int) from if_pos (by omega)]
            refine E.regionP rfl ?_
            refine R.move ?_
            refine R.lss (b := false) rfl rfl (by simp) ?_
            refine R.nil ?_
            refine E.condF rfl ?_
            refine E.skip ?_
            refine E.seq ?_
            refine E.regionP rfl ?_
            refine R.move ?_
            refine R.move ?_
            refine R.addN (m := a) (n := s.d.n) rfl rfl (by omega) ?_
            refine R.subN (m := (a + s.d.n)) (n := 1) rfl rfl (by omega) (by omega) ?_
            refine R.move ?_
            refine R.toI (n := wh) Try.underlying5 Try.underlying3 rfl (by omega) ?_
            refine R.move ?_
            refine R.move ?_
            refine R.subN (m := ((cntS s.live))) (n := (max 1 (((((s.live.getD (s.live.length - 1) [])).length) + 47) / 48))) rfl rfl (by omega) (by omega) ?_
            refine R.remN (m := wh) (n := (((cntS s.live)) - (max 1 (((((s.live.getD (s.live.length - 1) [])).length) + 47) / 48)))) rfl rfl (by omega) ?_
            refine R.subN (m := ((a + s.d.n) - 1)) (n := (wh % (((cntS s.live)) - (max 1 (((((s.live.getD (s.live.length - 1) [])).length) + 47) / 48))))) rfl rfl (by omega) (by omega) ?_
            refine R.move ?_
            refine R.remN (m := (((a + s.d.n) - 1) - (wh % (((cntS s.live)) - (max 1 (((((s.live.getD (s.live.length - 1) [])).length) + 47) / 48)))))) (n := s.d.n) rfl rfl (by omega) ?_
            refine R.assign ?_
            refine R.nil ?_
            refine E.seq ?_
            refine E.forget [(7, .pointer (some ⟨b902, 0, none⟩)), (9, .int .i64 ((s.d.n : Nat) : Int)), (18, .int .i64 (((((a + s.d.n) - 1) - (wh % (((cntS s.live)) - (max 1 (((((s.live.getD (s.live.length - 1) [])).length) + 47) / 48))))) % s.d.n : Nat) : Int))] ⟨rfl, rfl, rfl, trivial⟩ (fun e => ?_)
            have hpn : ((a + s.d.n - 1 - wh % (cntS s.live - max 1 (((s.live.getD (s.live.length - 1) []).length + 47) / 48))) % s.d.n) < s.d.n := Nat.mod_lt _ (by omega)
            refine E.regionP rfl ?_
            refine R.move ?_
            refine R.nilCheck rfl ?_
            refine R.fld fa69_0 rfl ?_
            refine R.loadB t32 hB902 rfl rfl rfl trivial ?_
            refine R.nilCheck rfl ?_
            refine R.fld fa25_1 rfl ?_
            refine R.loadB t23 hD.blk rfl rfl rfl trivial ?_
            refine R.move ?_
            refine R.ix (m := ((((a + s.d.n) - 1) - (wh % (((cntS s.live)) - (max 1 (((((s.live.getD (s.live.length - 1) [])).length) + 47) / 48))))) % s.d.n)) Try.underlying23 t4 (by decide) hD.bds.row rfl rfl (by omega) ?_
            refine R.stBad (i := ((a + s.d.n - 1 - wh % (cntS s.live - max 1 (((s.live.getD (s.live.length - 1) []).length + 47) / 48))) % s.d.n)) (b := true) t4 hD rfl rfl (by omega) nofun ?_
            intro w9 hU9 hs9 hN9
            replace hJ := hJ.upS hU9 hD.bds (by decide)
            replace hV := hV.upS hU9 hD.bds (by decide)
            replace hP := hP.upS hU9 hD.bds (by decide)
            replace hB902 := hB902.upS hU9 hD.bds (by decide)
            replace hE := hE.trans hU9 (fun x hx h => absurd hx (Nat.not_lt.2 (hge x (.inr (.inr (.inr h))))))
            clear hD
            replace hD : DM _ b900 vb vd { s.d with bad := (s.d).bad.set ((a + s.d.n - 1 - wh % (cntS s.live - max 1 (((s.live.getD (s.live.length - 1) []).length + 47) / 48))) % s.d.n) true } := hN9
            refine R.nil ?_
            refine E.seq ?_
            refine E.seq ?_
            refine E.regionP rfl ?_
            refine R.move ?_
            obtain ⟨m, k, hmk1, hmk2, hpp⟩ := back_place (R := j.live) (n := s.d.n) (by omega) hka.ji.ci.con (by omega) (w := wh % (cntS s.live - max 1 (((s.live.getD (s.live.length - 1) []).length + 47) / 48))) (by rw [hTS, ← hlast]; exact hwm)
            rw [← ha] at hpp
            have hyl := mem_getD (R := j.live) (show m < j.live.length by omega)
            obtain ⟨hci, hcnt⟩ := hka.one (by omega) hyl hmk2
            have hpi : ix s.d (j.live.getD m Rc0) k 0 = ((a + s.d.n - 1 - wh % (cntS s.live - max 1 (((s.live.getD (s.live.length - 1) []).length + 47) / 48))) % s.d.n) := by unfold ix; rw [hpp, Nat.zero_mul, Nat.add_zero]
            rw [hpi] at hci hcnt
            obtain ⟨d2, life, ho2, hH2, hW2, hp2, _⟩ := CI.openW (m := 1) (s := s) (j := j) (d2 := rotD s.d ((a + s.d.n - 1 - wh % (cntS s.live - max 1 (((s.live.getD (s.live.length - 1) []).length + 47) / 48))) % s.d.n)) hI (by rw [rotD_n]; exact hdn) (by omega) hpw1 hci (fun r hr => Nat.le_trans (hka.ji.lam r hr) hka.l2) (by decide) (by rw [← hdn]; exact hcnt)
            
            refine R.call2 ent32 (openA_ _ (N := w.heap.size) (s := { s with d := rotD s.d ((a + s.d.n - 1 - wh % (cntS s.live - max 1 (((s.live.getD (s.live.length - 1) []).length + 47) / 48))) % s.d.n) }) (jo := some j) ⟨b900, vb, vd, _, ⟨⟨vL, uL, vp, hB902, hV, hP⟩, hD⟩, hb902, hge0, b901, vl, us, rfl, hJ, hb901⟩ ho2 hH2 hK.waits (by decide) (by show s.first ≤ _; omega) (by show s.live.length ≤ _; omega)) rfl rfl ?_
            rintro v155 w10 ⟨hU10, rfl, hX2⟩
            refine ⟨nofun, ?_⟩
            replace hE := hE.trans hU10 (fun x hx h => absurd hx (Nat.not_lt.2 h))
            clear hB902 hV hP hD hJ
            obtain ⟨s2, hs2⟩ : ∃ q : Sp, q = { s with d := d2, waits := false } := ⟨_, rfl⟩
            obtain ⟨j2, hj2⟩ : ∃ q : Jn, q = ⟨j.live, life, 1, false⟩ := ⟨_, rfl⟩
            replace hX2 : ShX _ w.heap.size b902 { s with d := d2, waits := false } _ := hX2
            replace hp2 : ({ s with d := d2, waits := false } : Sp).d.pw = -1 := hp2
            rw [← hs2, ← hj2] at hX2 hW2
            rw [← hs2] at hp2
            have hm2 : j2.mended = 1 := by rw [hj2]
            have hj2l : j2.live = j.live := by rw [hj2]
            obtain ⟨I2, hka2⟩ := hW2.ka
            have hs2n : s2.d.n = s.d.n := by rw [hW2.dn, hdn]
            have hbs2 := Dk.n_pos (d := s2.d) (by omega)
            clear hs2 hj2
            obtain ⟨b900, vb, vd, jp, hS, hN1, hN2, b901, vl, us, rfl, hJ, hN3⟩ := hX2
            obtain ⟨⟨vL, uL, vp, hB902, hV, hP⟩, hD⟩ := hS
            refine R.not rfl ?_
            refine R.move ?_
            refine R.gT rfl rfl ?_
            refine R.move ?_
            refine R.gT rfl rfl ?_
            refine R.nilCheck rfl ?_
            refine R.gT rfl rfl ?_
            refine R.fld fa69_1 rfl ?_
            refine R.gT rfl rfl ?_
            refine R.loadB t66 hB902 rfl rfl rfl trivial ?_
            refine R.gT rfl rfl ?_
            refine R.eqlNil (b := false) Try.underlying66 rfl rfl rfl ?_
            refine R.pickF rfl ?_
            refine R.move ?_
            refine R.gT rfl rfl ?_
            refine R.move ?_
            refine R.gT rfl rfl ?_
            refine R.nilCheck rfl ?_
            refine R.gT rfl rfl ?_
            refine R.fld fa69_1 rfl ?_
            refine R.gT rfl rfl ?_
            refine R.loadB t66 hB902 rfl rfl rfl trivial ?_
            refine R.gT rfl rfl ?_
            refine R.callE1 ent34 (mended_ _ hJ) rfl nofun ?_
            rintro v169 w11 hx11 rfl
            replace hD := hD.ext hx11
            replace hV := hV.ext hx11
            replace hP := hP.ext hx11
            replace hJ := hJ.ext hx11
            replace hB902 := hB902.ext hx11
            replace hE := hE.ext hx11
            refine R.gT rfl rfl ?_
            refine R.neq (b := false) rfl rfl (by rw [hm2]; decide) ?_
            refine R.pickF rfl ?_
            refine R.nil ?_
            refine E.condF rfl ?_
            refine E.skip ?_
            refine E.seq ?_
            refine E.forget [(7, .pointer (some ⟨b902, 0, none⟩)), (9, .int .i64 ((s.d.n : Nat) : Int)), (18, .int .i64 (((((a + s.d.n) - 1) - (wh % (((cntS s.live)) - (max 1 (((((s.live.getD (s.live.length - 1) [])).length) + 47) / 48))))) % s.d.n : Nat) : Int))] ⟨rfl, rfl, rfl, trivial⟩ (fun e => ?_)
            refine E.regionW (fun c x => x < w11.heap.size ∧ (c = false → ¬ vblk vd = some x)) []  mixed rfl (by kernel_rfl) ?_
            intro w12 hx12 hh12
            replace hD := hD.ext hx12
            replace hV := hV.ext hx12
            replace hP := hP.ext hx12
            replace hJ := hJ.ext hx12
            replace hB902 := hB902.ext hx12
            replace hE := hE.ext hx12
            have hEs : Ext w12 w12 := Upd.refl _
            have hS0 := hx12.size
            have hSB : ∀ b, b < w12.heap.size → b < w11.heap.size ∧ (true = false → (fun x => ¬ vblk vd = some x) b) := fun b hb => ⟨by rw [hh12] at hb; exact hb, nofun⟩
            have hSA : ∀ b, b < w12.heap.size → (fun x => ¬ vblk vd = some x) b → b < w11.heap.size ∧ (false = false → (fun x => ¬ vblk vd = some x) b) := fun b hb h => ⟨by rw [hh12] at hb; exact hb, fun _ => h⟩
            have hDs := hD
            have hVs := hV
            have hPs := hP
            have hJs := hJ
            have hB902s := hB902
            refine R.move ?_
            refine R.nilCheck rfl ?_
            refine R.fld fa69_0 rfl ?_
            refine R.loadB t32 hB902 rfl rfl rfl (hSA b902 hB902s.lt ((hB902s.ne_vblk hDs.bds (by decide)))) ?_
            refine R.nilCheck rfl ?_
            refine R.fld fa25_1 rfl ?_
            refine R.loadB t23 hD.blk rfl rfl rfl (hSA b900 hDs.blk.lt ((hDs.blk.ne_vblk hDs.bds (by decide)))) ?_
            refine R.move ?_
            refine R.move ?_
            refine R.nilCheck rfl ?_
            refine R.fld fa69_0 rfl ?_
            refine R.loadB t32 hB902 rfl rfl rfl (hSA b902 hB902s.lt ((hB902s.ne_vblk hDs.bds (by decide)))) ?_
            refine R.nilCheck rfl ?_
            refine R.fld fa25_1 rfl ?_
            refine R.loadB t23 hD.blk rfl rfl rfl (hSA b900 hDs.blk.lt ((hDs.blk.ne_vblk hDs.bds (by decide)))) ?_
            refine R.move ?_
            refine R.move ?_
            refine R.addN (m := s.d.n) (n := ((((a + s.d.n) - 1) - (wh % (((cntS s.live)) - (max 1 (((((s.live.getD (s.live.length - 1) [])).length) + 47) / 48))))) % s.d.n)) rfl rfl (by omega) ?_
            refine R.ix (m := ((((a + s.d.n) - 1) - (wh % (((cntS s.live)) - (max 1 (((((s.live.getD (s.live.length - 1) [])).length) + 47) / 48))))) % s.d.n)) Try.underlying23 t4 (by decide) hD.bds.row rfl rfl (by omega) ?_
            refine R.stBad (i := ((a + s.d.n - 1 - wh % (cntS s.live - max 1 (((s.live.getD (s.live.length - 1) []).length + 47) / 48))) % s.d.n)) (b := true) t4 hD rfl rfl (by omega) (fun _ b e h => h.2 rfl e) ?_
            intro w13 hU13 hs13 hN13
            replace hV := hV.upS hU13 hD.bds (by decide)
            replace hP := hP.upS hU13 hD.bds (by decide)
            replace hJ := hJ.upS hU13 hD.bds (by decide)
            replace hB902 := hB902.upS hU13 hD.bds (by decide)
            replace hE := hE.trans hU13 (fun x hx h => absurd hx (Nat.not_lt.2 (hN2 x (.inr (.inr h)))))
            clear hD
            replace hD : DM _ b900 vb vd { s2.d with bad := (s2.d).bad.set ((a + s.d.n - 1 - wh % (cntS s.live - max 1 (((s.live.getD (s.live.length - 1) []).length + 47) / 48))) % s.d.n) true } := hN13
            refine R.ix (m := (s.d.n + ((((a + s.d.n) - 1) - (wh % (((cntS s.live)) - (max 1 (((((s.live.getD (s.live.length - 1) [])).length) + 47) / 48))))) % s.d.n))) Try.underlying23 t4 (by decide) hD.bds.row rfl rfl (by show _ < (s2.d.bad.set _ true).length; rw [List.length_set]; omega) ?_
            refine R.stBad (i := (s.d.n + ((a + s.d.n - 1 - wh % (cntS s.live - max 1 (((s.live.getD (s.live.length - 1) []).length + 47) / 48))) % s.d.n))) (b := true) t4 hD rfl rfl (by rw [List.length_set]; omega) (fun _ b e h => h.2 rfl e) ?_
            intro w14 hU14 hs14 hN14
            replace hV := hV.upS hU14 hD.bds (by decide)
            replace hP := hP.upS hU14 hD.bds (by decide)
            replace hJ := hJ.upS hU14 hD.bds (by decide)
            replace hB902 := hB902.upS hU14 hD.bds (by decide)
            replace hE := hE.trans hU14 (fun x hx h => absurd hx (Nat.not_lt.2 (hN2 x (.inr (.inr h)))))
            clear hD
            obtain ⟨d3, hd3⟩ : ∃ d3, d3 = rotD (rotD s2.d ((a + s.d.n - 1 - wh % (cntS s.live - max 1 (((s.live.getD (s.live.length - 1) []).length + 47) / 48))) % s.d.n)) (s.d.n + ((a + s.d.n - 1 - wh % (cntS s.live - max 1 (((s.live.getD (s.live.length - 1) []).length + 47) / 48))) % s.d.n)) := ⟨_, rfl⟩
            have hd3n : d3.n = s.d.n := by rw [hd3, rotD_n, rotD_n]; exact hs2n
            replace hD : DM w14 b900 vb vd d3 := by rw [hd3]; exact hN14
            have hbd3 := Dk.n_pos (d := d3) (by omega)
            have hb01 := rot2_bad (d := s2.d) (p := ((a + s.d.n - 1 - wh % (cntS s.live - max 1 (((s.live.getD (s.live.length - 1) []).length + 47) / 48))) % s.d.n)) (n := s.d.n) hpn (by omega)
            rw [← hd3] at hb01
            obtain ⟨hb0, hb1⟩ := hb01
            refine R.nil ?_
            refine E.seq ?_
            refine E.forget [(7, .pointer (some ⟨b902, 0, none⟩)), (9, .int .i64 ((s.d.n : Nat) : Int)), (18, .int .i64 (((((a + s.d.n) - 1) - (wh % (((cntS s.live)) - (max 1 (((((s.live.getD (s.live.length - 1) [])).length) + 47) / 48))))) % s.d.n : Nat) : Int))] ⟨rfl, rfl, rfl, trivial⟩ (fun e => ?_)
            refine E.regionP rfl ?_
            refine R.move ?_
            refine R.nilCheck rfl ?_
            refine R.fld fa69_0 rfl ?_
            refine R.loadB t32 hB902 rfl rfl rfl trivial ?_
            have hrot : openL d3 = (d3, 421, none) := by
              rw [hd3, show s.d.n + ((a + s.d.n - 1 - wh % (cntS s.live - max 1 (((s.live.getD (s.live.length - 1) []).length + 47) / 48))) % s.d.n) = ((a + s.d.n - 1 - wh % (cntS s.live - max 1 (((s.live.getD (s.live.length - 1) []).length + 47) / 48))) % s.d.n) + 1 * s.d.n by omega, hpp]
              have := hka2.rot (by omega) (m := m) (k := k) (by rw [hj2l]; exact hmk1) (by rw [hj2l]; exact hmk2)
              rw [hj2l] at this
              unfold ix at this
              rw [hs2n, Nat.zero_mul, Nat.add_zero] at this
              exact this
            have hd3p : d3.pw = -1 := by rw [hd3]; exact hp2
            refine R.call1 ent39 (openP _ hD (by rw [hd3p]; decide) hrot) rfl ?_
            rintro v197 w15 ⟨hU15, hDn15, hR197⟩
            refine ⟨nofun, ?_⟩
            replace hV := hV.upD hU15 hD (by decide)
            replace hP := hP.upD hU15 hD (by decide)
            replace hJ := hJ.upD hU15 hD
            replace hB902 := hB902.upD hU15 hD (by decide)
            replace hE := hE.trans hU15 (fun x hx h => absurd hx (Nat.not_lt.2 (hN2 x h)))
            clear hD
            have hD := hDn15
            replace hR197 : _ = Value.tuple #[.pointer none, .int .i64 ((421 : Nat) : Int)] := hR197
            subst hR197
            refine R.move ?_
            refine R.extract rfl rfl ?_
            refine R.extract rfl rfl ?_
            refine R.assign ?_
            refine R.assign ?_
            refine R.nil ?_
            refine E.seq ?_
            refine E.regionP rfl ?_
            refine R.move ?_
            refine R.eql (b := true) rfl rfl (by decide) ?_
            refine R.move ?_
            refine R.gT rfl rfl ?_
            refine R.move ?_
            refine R.gT rfl rfl ?_
            refine R.eqlNil (b := true) Try.underlying66 rfl rfl rfl ?_
            refine R.pickT rfl ?_
            refine R.move ?_
            refine R.gT rfl rfl ?_
            refine R.move ?_
            refine R.gT rfl rfl ?_
            refine R.nilCheck rfl ?_
            refine R.gT rfl rfl ?_
            refine R.fld fa69_0 rfl ?_
            refine R.gT rfl rfl ?_
            refine R.loadB t32 hB902 rfl rfl rfl trivial ?_
            refine R.gT rfl rfl ?_
            refine R.nilCheck rfl ?_
            refine R.gT rfl rfl ?_
            refine R.fld fa25_1 rfl ?_
            refine R.gT rfl rfl ?_
            refine R.loadB t23 hD.blk rfl rfl rfl trivial ?_
            refine R.gT rfl rfl ?_
            refine R.move ?_
            refine R.gT rfl rfl ?_
            refine R.ix (m := ((((a + s.d.n) - 1) - (wh % (((cntS s.live)) - (max 1 (((((s.live.getD (s.live.length - 1) [])).length) + 47) / 48))))) % s.d.n)) Try.underlying23 t4 (by decide) hD.bds.row rfl rfl (by omega) ?_
            refine R.gT rfl rfl ?_
            refine R.load (u := .bool (d3.bad.getD ((((a + s.d.n) - 1) - (wh % (((cntS s.live)) - (max 1 (((((s.live.getD (s.live.length - 1) [])).length) + 47) / 48))))) % s.d.n) true)) t4 hD.bds.row rfl (bools_getD (i := (((a + s.d.n) - 1) - (wh % (((cntS s.live)) - (max 1 (((((s.live.getD (s.live.length - 1) [])).length) + 47) / 48))))) % s.d.n) (by first | omega | decide)) rfl (fun _ _ => trivial) ?_
            refine R.pickT rfl ?_
            refine R.move ?_
            have hg218 := Bool.eq_false_or_eq_true (d3.bad.getD ((((a + s.d.n) - 1) - (wh % (((cntS s.live)) - (max 1 (((((s.live.getD (s.live.length - 1) [])).length) + 47) / 48))))) % s.d.n) true)
            rcases hg218 with hg218 | hg218
            · have hg218q := hg218
              refine R.gT rfl (congrArg Value.bool hg218q) ?_
              refine R.move ?_
              refine R.gT rfl (congrArg Value.bool hg218q) ?_
              refine R.nilCheck rfl ?_
              refine R.gT rfl (congrArg Value.bool hg218q) ?_
              refine R.fld fa69_0 rfl ?_
              refine R.gT rfl (congrArg Value.bool hg218q) ?_
              refine R.loadB t32 hB902 rfl rfl rfl trivial ?_
              refine R.gT rfl (congrArg Value.bool hg218q) ?_
              refine R.nilCheck rfl ?_
              refine R.gT rfl (congrArg Value.bool hg218q) ?_
              refine R.fld fa25_1 rfl ?_
              refine R.gT rfl (congrArg Value.bool hg218q) ?_
              refine R.loadB t23 hD.blk rfl rfl rfl trivial ?_
              refine R.gT rfl (congrArg Value.bool hg218q) ?_
              refine R.move ?_
              refine R.gT rfl (congrArg Value.bool hg218q) ?_
              refine R.move ?_
              refine R.gT rfl (congrArg Value.bool hg218q) ?_
              refine R.addN (m := s.d.n) (n := ((((a + s.d.n) - 1) - (wh % (((cntS s.live)) - (max 1 (((((s.live.getD (s.live.length - 1) [])).length) + 47) / 48))))) % s.d.n)) rfl rfl (by omega) ?_
              refine R.gT rfl (congrArg Value.bool hg218q) ?_
              refine R.ix (m := (s.d.n + ((((a + s.d.n) - 1) - (wh % (((cntS s.live)) - (max 1 (((((s.live.getD (s.live.length - 1) [])).length) + 47) / 48))))) % s.d.n))) Try.underlying23 t4 (by decide) hD.bds.row rfl rfl (by omega) ?_
              refine R.gT rfl (congrArg Value.bool hg218q) ?_
              refine R.load (u := .bool (d3.bad.getD (s.d.n + ((((a + s.d.n) - 1) - (wh % (((cntS s.live)) - (max 1 (((((s.live.getD (s.live.length - 1) [])).length) + 47) / 48))))) % s.d.n)) true)) t4 hD.bds.row rfl (bools_getD (i := s.d.n + ((((a + s.d.n) - 1) - (wh % (((cntS s.live)) - (max 1 (((((s.live.getD (s.live.length - 1) [])).length) + 47) / 48))))) % s.d.n)) (by first | omega | decide)) rfl (fun _ _ => trivial) ?_
              refine R.pickT (congrArg Value.bool hg218q) ?_
              refine R.move ?_
              have hg232 := Bool.eq_false_or_eq_true (d3.bad.getD (s.d.n + ((((a + s.d.n) - 1) - (wh % (((cntS s.live)) - (max 1 (((((s.live.getD (s.live.length - 1) [])).length) + 47) / 48))))) % s.d.n)) true)
              rcases hg232 with hg232 | hg232
              · have hg232q := hg232
                refine R.gT rfl (congrArg Value.bool hg232q) ?_
                refine R.callE0 ent13 (awake_ _)  nofun ?_
                rintro v233 w16 hx16 rfl
                replace hD := hD.ext hx16
                replace hV := hV.ext hx16
                replace hP := hP.ext hx16
                replace hJ := hJ.ext hx16
                replace hB902 := hB902.ext hx16
                replace hE := hE.ext hx16
                refine R.pickT (congrArg Value.bool hg232q) ?_
                refine R.assign ?_
                refine R.nil ?_
                refine E.ret ?_
                refine ret1 (.bool (true)) rfl rfl ⟨_, rfl, ?_⟩
                exact ⟨hE, rfl⟩
              · have hg232q := hg232
                rw [hb1] at hg232
                exact absurd hg232 (by decide)
            · have hg218q := hg218
              rw [hb0] at hg218
              exact absurd hg218 (by decide)
end Go.Proofs.Ytlplogplicgfiaa
