import Derived.Test.YtlplogplicgfiaaZ8P12
import Derived.Test.YtlplogplicgfiaaZ8KE
import Derived.Test.YtlplogplicgfiaaZ8KN
namespace Go.Proofs.Ytlplogplicgfiaa
open Go Go.RowKit
def sdOf (b : Bool) : Nat := if b then 1 else 0
theorem sdOf_lt (b : Bool) : sdOf b < 2 := by cases b <;> decide
set_option maxHeartbeats 1600000 in
theorem journalTwins (w : World) {pl : Nat} {v : Value} {l : List Stp} {sm : Bool} (hr : Row w 5 v l.length (stpsC l)) (hl : ∀ x ∈ l, okS x) (hpl : pl < 256) (hll : l.length ≤ 9223372036854775807) :
    Calls Try.prog 8 #[.int .u8 (pl : Nat), v, .bool sm] w (Ret fun r w' => Ext w w' ∧ r = .bool true) := by
  refine calls_E (args := [.int .u8 ((pl : Nat) : Int), v, .bool (sm)]) 113 Try.func8 rfl rfl (by simp) ?_
  have hE : Ext w w := Upd.refl w
  refine E.seq ?_
  refine E.regionP rfl ?_
  refine R.assign ?_
  refine R.nil ?_
  refine E.seq ?_
  refine E.regionP rfl ?_
  refine R.move ?_
  refine R.move ?_
  refine R.callE2 ent33 (kept_ _ (fun i s j => i ≤ 1000 → ∃ I, KA s j I 1 ∧ KC s j I) (hr.ext hE) hl hpl hll (fun _ => ⟨[], KA.new, KC.new (by omega) (by omega)⟩) (fun i s j rec s' j' g hK hQ hg1 hg2 hl hb hr hi => by
    obtain ⟨I, q1, q2⟩ := hQ (by omega)
    have hI := hK.inv
    rw [← hK.dn] at hI
    obtain ⟨I', r1, r2, _⟩ := q1.app (by rw [hK.dn]; omega) hI hg1 hg2 (by omega) hb (by have := hK.num; omega) (by decide) hr
    exact ⟨I', r1, r2 q2⟩)) rfl rfl nofun ?_
  rintro v17 w1 hx1 ⟨b902, s, j, ii, hi30, rfl, hG, hK, hQ⟩
  have hsz0 := hE.size
  replace hE := hE.ext hx1
  obtain ⟨b900, vb, vd, b901, vl, us, hS, hJ, hb902, hb901, hge0⟩ := hG
  obtain ⟨⟨vL, uL, vp, hB902, hV, hP⟩, hD⟩ := hS
  have hge : ∀ x, AB b901 b900 vb vd x → w.heap.size ≤ x := by
    rintro x (rfl | h)
    · exact Nat.le_trans hsz0 hb901
    · exact Nat.le_trans hsz0 (hge0 x h)
  have hI := hK.inv
  have hdn := hK.dn
  have hpw1 := hK.pw
  have hH := hI.h
  have hlen := hH.len
  have hlst := hH.lst
  have hfst := hH.fst
  have hf1 := hH.ok.fst
  have hnum := hK.num
  have hbn := Dk.n_pos (d := s.d) (by omega)
  have hTS := totalL_S hI
  have hfr0 := hI.free
  unfold freeI at hfr0
  have hat : ∀ i, i < j.live.length → (j.live.getD i Rc0).at_ ≤ 1000000 := fun i hi => by have := hI.at_ i hi; omega
  replace hb902 := Nat.le_trans hsz0 hb902
  replace hb901 := Nat.le_trans hsz0 hb901
  obtain ⟨I, hka, hkc⟩ := hQ (by omega)
  refine R.move ?_
  refine R.extract rfl rfl ?_
  refine R.extract rfl rfl ?_
  refine R.assign ?_
  refine R.assign ?_
  refine R.nil ?_
  refine E.seq ?_
  refine E.seq ?_
  refine E.regionP rfl ?_
  refine R.move ?_
  refine R.not rfl ?_
  refine R.nil ?_
  refine E.condF rfl ?_
  refine E.skip ?_
  refine E.seq ?_
  refine E.regionP rfl ?_
  refine R.move ?_
  refine R.nilCheck rfl ?_
  refine R.fld fa69_0 rfl ?_
  refine R.loadB t32 hB902 rfl rfl rfl trivial ?_
  refine R.nilCheck rfl ?_
  refine R.fld fa25_1 rfl ?_
  refine R.loadB t23 hD.blk rfl rfl rfl trivial ?_
  refine R.len Try.underlying23 hD.bds.row rfl ?_
  refine R.quoN (m := s.d.bad.length) (n := 2) rfl rfl (by omega) (by omega) ?_
  rw [show s.d.bad.length / 2 = s.d.n by omega]
  refine R.assign ?_
  refine R.nil ?_
  refine E.seq ?_
  refine E.seq ?_
  refine E.forget [(2, .bool (sm)), (7, .pointer (some ⟨b902, 0, none⟩)), (9, .int .i64 ((s.d.n : Nat) : Int))] ⟨rfl, rfl, rfl, trivial⟩ (fun e => ?_)
  refine E.regionP rfl ?_
  refine R.move ?_
  refine R.move ?_
  refine R.nil ?_
  refine E.block ?_
  refine E.loop (fun n e wr => ∃ (i : Nat), n = s.d.n - i ∧ i ≤ s.d.n ∧ DM wr b900 vb vd (rotK s.d s.d.n (sdOf sm) i) ∧ JM wr b901 b900 vl us j ∧ LvM wr vL uL s.live ∧ SU8s wr vp s.pend ∧ Blk wr b902 69 #[.pointer (some ⟨b900, 0, none⟩), .pointer (some ⟨b901, 0, none⟩), vL, .int .i64 ((s.first : Nat) : Int), vp, .bool (s.waits), .int .i64 ((s.frm : Nat) : Int), .int .i64 ((s.cnt : Nat) : Int)] ∧ Ext w wr ∧ Has e [(2, .bool (sm)), (7, .pointer (some ⟨b902, 0, none⟩)), (9, .int .i64 ((s.d.n : Nat) : Int)), (31, .int .i64 ((s.d.n : Nat) : Int)), (32, .int .i64 ((i : Nat) : Int))]) (s.d.n) ?_ ?_
  · exact ⟨0, rfl, by omega, hD, hJ, hV, hP, hB902, hE, rfl, rfl, rfl, rfl, rfl, trivial⟩
  · rintro n e wr ⟨i, rfl, hi, hD, hJ, hV, hP, hB902, hE, hH⟩
    obtain ⟨e, rfl⟩ := hH.ex
    clear hH
    refine E.seq ?_
    refine E.regionP rfl ?_
    refine R.lss (b := decide ((((i : Nat) : Int)) < (((s.d.n : Nat) : Int)))) rfl rfl rfl ?_
    refine R.nil ?_
    refine E.seq ?_
    refine E.cond (b := decide ((((i : Nat) : Int)) < (((s.d.n : Nat) : Int)))) rfl (fun hc33 => ?_) (fun hc33 => ?_)
    · replace hc33 := dT hc33
      have hrn := rotK_n (d := s.d) (n := s.d.n) (t := sdOf sm) i
      have hbk := Dk.n_pos (d := rotK s.d s.d.n (sdOf sm) i) (by omega)
      refine E.skip ?_
      refine E.seq ?_
      refine E.block ?_
      refine E.seq ?_
      refine E.regionP rfl ?_
      refine R.move ?_
      refine R.assign ?_
      refine R.nil ?_
      refine E.seq ?_
      refine E.regionP rfl ?_
      refine R.move ?_
      refine R.nil ?_
      refine E.cond (b := sm) rfl (fun hc35 => ?_) (fun hc35 => ?_)
      · refine E.regionP rfl ?_
        refine R.move ?_
        refine R.nilCheck rfl ?_
        refine R.fld fa69_0 rfl ?_
        refine R.loadB t32 hB902 rfl rfl rfl trivial ?_
        refine R.nilCheck rfl ?_
        refine R.fld fa25_1 rfl ?_
        refine R.loadB t23 hD.blk rfl rfl rfl trivial ?_
        refine R.move ?_
        refine R.move ?_
        refine R.addN (m := s.d.n) (n := i) rfl rfl (by omega) ?_
        refine R.ix (m := (s.d.n + i)) Try.underlying23 t4 (by decide) hD.bds.row rfl rfl (by omega) ?_
        refine R.stBad (i := (s.d.n + i)) (b := true) t4 hD rfl rfl (by omega) nofun ?_
        intro w2 hU2 hs2 hN2
        replace hJ := hJ.upS hU2 hD.bds (by decide)
        replace hV := hV.upS hU2 hD.bds (by decide)
        replace hP := hP.upS hU2 hD.bds (by decide)
        replace hB902 := hB902.upS hU2 hD.bds (by decide)
        replace hE := hE.trans hU2 (fun x hx h => absurd hx (Nat.not_lt.2 (hge x (.inr (.inr (.inr h))))))
        clear hD
        replace hD : DM w2 b900 vb vd (rotK s.d s.d.n (sdOf sm) (i + 1)) := by
          have e : (rotK s.d s.d.n (sdOf sm) (i + 1)) = { (rotK s.d s.d.n (sdOf sm) i) with bad := ((rotK s.d s.d.n (sdOf sm) i)).bad.set (s.d.n + i) true } := by
            show rotD (rotK s.d s.d.n (sdOf sm) i) (i + sdOf sm * s.d.n) = _
            rw [show i + sdOf sm * s.d.n = (s.d.n + i) by rw [hc35]; show i + 1 * s.d.n = _; omega]; rfl
          rw [e]; exact hN2
        refine R.nil ?_
        refine E.forget [(2, .bool (sm)), (7, .pointer (some ⟨b902, 0, none⟩)), (9, .int .i64 ((s.d.n : Nat) : Int)), (31, .int .i64 ((s.d.n : Nat) : Int)), (32, .int .i64 ((i : Nat) : Int))] ⟨rfl, rfl, rfl, rfl, rfl, trivial⟩ (fun e => ?_)
        refine E.regionP rfl ?_
        refine R.addN (m := i) (n := 1) rfl rfl (by omega) ?_
        refine R.move ?_
        refine R.nil ?_
        exact ⟨s.d.n - (i + 1), by omega, i + 1, rfl, by omega, hD, hJ, hV, hP, hB902, hE, rfl, rfl, rfl, rfl, rfl, trivial⟩
      · refine E.regionP rfl ?_
        refine R.move ?_
        refine R.nilCheck rfl ?_
        refine R.fld fa69_0 rfl ?_
        refine R.loadB t32 hB902 rfl rfl rfl trivial ?_
        refine R.nilCheck rfl ?_
        refine R.fld fa25_1 rfl ?_
        refine R.loadB t23 hD.blk rfl rfl rfl trivial ?_
        refine R.move ?_
        refine R.ix (m := i) Try.underlying23 t4 (by decide) hD.bds.row rfl rfl (by omega) ?_
        refine R.stBad (i := i) (b := true) t4 hD rfl rfl (by omega) nofun ?_
        intro w3 hU3 hs3 hN3
        replace hJ := hJ.upS hU3 hD.bds (by decide)
        replace hV := hV.upS hU3 hD.bds (by decide)
        replace hP := hP.upS hU3 hD.bds (by decide)
        replace hB902 := hB902.upS hU3 hD.bds (by decide)
        replace hE := hE.trans hU3 (fun x hx h => absurd hx (Nat.not_lt.2 (hge x (.inr (.inr (.inr h))))))
        clear hD
        replace hD : DM w3 b900 vb vd (rotK s.d s.d.n (sdOf sm) (i + 1)) := by
          have e : (rotK s.d s.d.n (sdOf sm) (i + 1)) = { (rotK s.d s.d.n (sdOf sm) i) with bad := ((rotK s.d s.d.n (sdOf sm) i)).bad.set i true } := by
            show rotD (rotK s.d s.d.n (sdOf sm) i) (i + sdOf sm * s.d.n) = _
            rw [show i + sdOf sm * s.d.n = i by rw [hc35]; show i + 0 * s.d.n = _; omega]; rfl
          rw [e]; exact hN3
        refine R.nil ?_
        refine E.forget [(2, .bool (sm)), (7, .pointer (some ⟨b902, 0, none⟩)), (9, .int .i64 ((s.d.n : Nat) : Int)), (31, .int .i64 ((s.d.n : Nat) : Int)), (32, .int .i64 ((i : Nat) : Int))] ⟨rfl, rfl, rfl, rfl, rfl, trivial⟩ (fun e => ?_)
        refine E.regionP rfl ?_
        refine R.addN (m := i) (n := 1) rfl rfl (by omega) ?_
        refine R.move ?_
        refine R.nil ?_
        exact ⟨s.d.n - (i + 1), by omega, i + 1, rfl, by omega, hD, hJ, hV, hP, hB902, hE, rfl, rfl, rfl, rfl, rfl, trivial⟩
    · replace hc33 := dF hc33
      have hin : i = s.d.n := by omega
      subst hin
      refine E.exit ?_
      refine E.seq ?_
      refine E.regionP rfl ?_
      refine R.assign ?_
      refine R.nil ?_
      refine E.seq ?_
      refine E.seq ?_
      refine E.regionP rfl ?_
      refine R.move ?_
      refine R.nilCheck rfl ?_
      refine R.fld fa69_2 rfl ?_
      refine R.loadB t67 hB902 rfl rfl rfl trivial ?_
      refine R.len Try.underlying67 hV.sl.row rfl ?_
      refine R.move ?_
      refine R.nil ?_
      refine E.block ?_
      refine E.loop (fun n e wr => ∃ (i : Nat), n = s.live.length - i ∧ i ≤ s.live.length ∧ DM wr b900 vb vd (rotK s.d s.d.n (sdOf sm) s.d.n) ∧ JM wr b901 b900 vl us j ∧ LvM wr vL uL s.live ∧ SU8s wr vp s.pend ∧ Blk wr b902 69 #[.pointer (some ⟨b900, 0, none⟩), .pointer (some ⟨b901, 0, none⟩), vL, .int .i64 ((s.first : Nat) : Int), vp, .bool (s.waits), .int .i64 ((s.frm : Nat) : Int), .int .i64 ((s.cnt : Nat) : Int)] ∧ Ext w wr ∧ Has e [(7, .pointer (some ⟨b902, 0, none⟩)), (11, .int .i64 (((cntS (s.live.take i)) : Nat) : Int)), (60, vL), (61, .int .i64 ((s.live.length : Nat) : Int)), (62, .int .i64 ((i : Nat) : Int))]) (s.live.length) ?_ ?_
      · exact ⟨0, rfl, by omega, hD, hJ, hV, hP, hB902, hE, rfl, rfl, rfl, rfl, rfl, trivial⟩
      · rintro n e wr ⟨i, rfl, hi, hD, hJ, hV, hP, hB902, hE, hH⟩
        obtain ⟨e, rfl⟩ := hH.ex
        clear hH
        refine E.seq ?_
        refine E.regionP rfl ?_
        refine R.lss (b := decide ((((i : Nat) : Int)) < (((s.live.length : Nat) : Int)))) rfl rfl rfl ?_
        refine R.nil ?_
        refine E.seq ?_
        refine E.cond (b := decide ((((i : Nat) : Int)) < (((s.live.length : Nat) : Int)))) rfl (fun hc63 => ?_) (fun hc63 => ?_)
        · replace hc63 := dT hc63
          have hct := cntS_take (l := s.live) (i := i) (by omega)
          have hcl := cntS_le hI i
          unfold cntL at hct
          have hbl := hH.b i (by omega)
          rw [hH.dat i (by omega)] at hbl
          refine E.skip ?_
          refine E.seq ?_
          refine E.block ?_
          refine E.seq ?_
          refine E.regionP rfl ?_
          refine R.ix (m := i) Try.underlying67 t55 (by decide) hV.sl.row rfl rfl (by omega) ?_
          refine R.load (u := (uL.getD i undef)) t55 hV.sl.row rfl (hV.cell (by omega)) rfl (fun _ _ => trivial) ?_
          refine R.assign ?_
          refine R.nil ?_
          refine E.regionP rfl ?_
          refine R.move ?_
          refine R.move ?_
          refine R.len Try.underlying55 (hV.rows.rows i (by omega)).row rfl ?_
          refine R.addN (m := (((s.live.getD i [])).length)) (n := 47) rfl rfl (by omega) ?_
          refine R.quoN (m := ((((s.live.getD i [])).length) + 47)) (n := 48) rfl rfl (by omega) (by omega) ?_
          refine R.maxN (m := 1) (n := (((((s.live.getD i [])).length) + 47) / 48)) rfl rfl ?_
          refine R.addV (m := (((cntS (s.live.take i)) : Nat) : Int)) (n := ((max 1 (((((s.live.getD i [])).length) + 47) / 48) : Nat) : Int)) (v := (((cntS (s.live.take (i + 1))) : Nat) : Int)) rfl rfl (by omega) (by omega) (by omega) ?_
          refine R.assign ?_
          refine R.nil ?_
          refine E.forget [(7, .pointer (some ⟨b902, 0, none⟩)), (11, .int .i64 (((cntS (s.live.take (i + 1))) : Nat) : Int)), (60, vL), (61, .int .i64 ((s.live.length : Nat) : Int)), (62, .int .i64 ((i : Nat) : Int))] ⟨rfl, rfl, rfl, rfl, rfl, trivial⟩ (fun e => ?_)
          refine E.regionP rfl ?_
          refine R.addN (m := i) (n := 1) rfl rfl (by omega) ?_
          refine R.move ?_
          refine R.nil ?_
          exact ⟨s.live.length - (i + 1), by omega, i + 1, rfl, by omega, hD, hJ, hV, hP, hB902, hE, rfl, rfl, rfl, rfl, rfl, trivial⟩
        · replace hc63 := dF hc63
          have hie : cntS (s.live.take i) = cntS s.live := by rw [List.take_of_length_le (by omega)]
          refine E.exit ?_
          refine E.seq ?_
          refine E.seq ?_
          refine E.regionP rfl ?_
          refine R.move ?_
          have hrn := rotK_n (d := s.d) (n := s.d.n) (t := sdOf sm) s.d.n
          obtain ⟨hci, hcnt⟩ := hka.twins (by omega) (sdOf_lt sm)
          obtain ⟨d2, life, ho2, hH2, hW2, hp2, _⟩ := CI.openW (m := totalL j.live) (s := s) (j := j) (d2 := rotK s.d s.d.n (sdOf sm) s.d.n) hI (by rw [hrn]; exact hdn) (by omega) (by rw [rotK_pw]; exact hpw1) hci (fun r hr => Nat.le_trans (hka.ji.lam r hr) hka.l2) (by decide) (by rw [← hdn]; exact hcnt)
          
          refine R.call2 ent32 (openA_ _ (N := w.heap.size) (s := { s with d := (rotK s.d s.d.n (sdOf sm) s.d.n) }) (jo := some j) ⟨b900, vb, vd, _, ⟨⟨vL, uL, vp, hB902, hV, hP⟩, hD⟩, hb902, hge0, b901, vl, us, rfl, hJ, hb901⟩ ho2 hH2 hK.waits (by decide) (by show s.first ≤ _; omega) (by show s.live.length ≤ _; omega)) rfl rfl ?_
          rintro v75 w4 ⟨hU4, rfl, hX2⟩
          refine ⟨nofun, ?_⟩
          replace hE := hE.trans hU4 (fun x hx h => absurd hx (Nat.not_lt.2 h))
          clear hB902 hV hP hD hJ
          obtain ⟨s2, hs2⟩ : ∃ q : Sp, q = { s with d := d2, waits := false } := ⟨_, rfl⟩
          obtain ⟨j2, hj2⟩ : ∃ q : Jn, q = ⟨j.live, life, totalL j.live, false⟩ := ⟨_, rfl⟩
          replace hX2 : ShX _ w.heap.size b902 { s with d := d2, waits := false } _ := hX2
          rw [← hs2, ← hj2] at hX2 hW2
          have hm2 : j2.mended = cntS s.live := by rw [hj2]; exact hTS
          have hf2 : s2.first = s.first := by rw [hs2]
          have hl2 : s2.live = s.live := by rw [hs2]
          clear hs2 hj2
          obtain ⟨b900, vb, vd, jp, hS, hN1, hN2, b901, vl, us, rfl, hJ, hN3⟩ := hX2
          obtain ⟨⟨vL, uL, vp, hB902, hV, hP⟩, hD⟩ := hS
          refine R.not rfl ?_
          refine R.move ?_
          refine R.gT rfl rfl ?_
          refine R.move ?_
          refine R.gT rfl rfl ?_
          refine R.nilCheck rfl ?_
          refine R.gT rfl rfl ?_
          refine R.fld fa69_1 rfl ?_
          refine R.gT rfl rfl ?_
          refine R.loadB t66 hB902 rfl rfl rfl trivial ?_
          refine R.gT rfl rfl ?_
          refine R.eqlNil (b := false) Try.underlying66 rfl rfl rfl ?_
          refine R.pickF rfl ?_
          refine R.move ?_
          refine R.gT rfl rfl ?_
          refine R.move ?_
          refine R.gT rfl rfl ?_
          refine R.nilCheck rfl ?_
          refine R.gT rfl rfl ?_
          refine R.fld fa69_1 rfl ?_
          refine R.gT rfl rfl ?_
          refine R.loadB t66 hB902 rfl rfl rfl trivial ?_
          refine R.gT rfl rfl ?_
          refine R.callE1 ent34 (mended_ _ hJ) rfl nofun ?_
          rintro v89 w5 hx5 rfl
          replace hD := hD.ext hx5
          replace hV := hV.ext hx5
          replace hP := hP.ext hx5
          replace hJ := hJ.ext hx5
          replace hB902 := hB902.ext hx5
          replace hE := hE.ext hx5
          refine R.gT rfl rfl ?_
          refine R.move ?_
          refine R.gT rfl rfl ?_
          refine R.neq (b := false) rfl rfl (by rw [hm2, hie]; simp) ?_
          refine R.pickF rfl ?_
          refine R.nil ?_
          refine E.condF rfl ?_
          refine E.skip ?_
          refine E.seq ?_
          refine E.forget [(7, .pointer (some ⟨b902, 0, none⟩))] ⟨rfl, trivial⟩ (fun e => ?_)
          refine E.regionP rfl ?_
          refine R.move ?_
          obtain ⟨life3, ho3, hH3, hW3⟩ := hW2.openP (by omega) (by decide) 0
          refine R.call2 ent32 (openA_ _ (N := w.heap.size) (jo := some j2) ⟨b900, vb, vd, _, ⟨⟨vL, uL, vp, hB902, hV, hP⟩, hD⟩, hN1, hN2, b901, vl, us, rfl, hJ, hN3⟩ ho3 hH3 hW2.waits (by decide) (by omega) (by rw [hl2]; omega)) rfl rfl ?_
          rintro v94 w6 ⟨hU6, rfl, hX2⟩
          refine ⟨nofun, ?_⟩
          replace hE := hE.trans hU6 (fun x hx h => absurd hx (Nat.not_lt.2 h))
          clear hB902 hV hP hD hJ
          obtain ⟨s3, hs3⟩ : ∃ q : Sp, q = { s2 with d := s2.d.setPw 0, waits := false } := ⟨_, rfl⟩
          obtain ⟨j3, hj3⟩ : ∃ q : Jn, q = ⟨j2.live, life3, 0, false⟩ := ⟨_, rfl⟩
          rw [← hs3, ← hj3] at hX2
          have hm3 : j3.mended = 0 := by rw [hj3]
          clear hs3 hj3
          obtain ⟨b900, vb, vd, jp, hS, hN1, hN2, b901, vl, us, rfl, hJ, hN3⟩ := hX2
          obtain ⟨⟨vL, uL, vp, hB902, hV, hP⟩, hD⟩ := hS
          refine R.move ?_
          refine R.gT rfl rfl ?_
          refine R.move ?_
          refine R.gT rfl rfl ?_
          refine R.nilCheck rfl ?_
          refine R.gT rfl rfl ?_
          refine R.fld fa69_1 rfl ?_
          refine R.gT rfl rfl ?_
          refine R.loadB t66 hB902 rfl rfl rfl trivial ?_
          refine R.gT rfl rfl ?_
          refine R.neqNil (b := true) Try.underlying66 rfl rfl rfl ?_
          refine R.pickT rfl ?_
          refine R.move ?_
          refine R.gT rfl rfl ?_
          refine R.move ?_
          refine R.gT rfl rfl ?_
          refine R.nilCheck rfl ?_
          refine R.gT rfl rfl ?_
          refine R.fld fa69_1 rfl ?_
          refine R.gT rfl rfl ?_
          refine R.loadB t66 hB902 rfl rfl rfl trivial ?_
          refine R.gT rfl rfl ?_
          refine R.callE1 ent34 (mended_ _ hJ) rfl nofun ?_
          rintro v107 w7 hx7 rfl
          replace hD := hD.ext hx7
          replace hV := hV.ext hx7
          replace hP := hP.ext hx7
          replace hJ := hJ.ext hx7
          replace hB902 := hB902.ext hx7
          replace hE := hE.ext hx7
          refine R.gT rfl rfl ?_
          refine R.eql (b := true) rfl rfl (by rw [hm3]; decide) ?_
          refine R.pickT rfl ?_
          refine R.move ?_
          refine R.gT rfl rfl ?_
          refine R.callE0 ent13 (awake_ _)  nofun ?_
          rintro v111 w8 hx8 rfl
          replace hD := hD.ext hx8
          replace hV := hV.ext hx8
          replace hP := hP.ext hx8
          replace hJ := hJ.ext hx8
          replace hB902 := hB902.ext hx8
          replace hE := hE.ext hx8
          refine R.pickT rfl ?_
          refine R.assign ?_
          refine R.nil ?_
          refine E.ret ?_
          refine ret1 (.bool (true)) rfl rfl ⟨_, rfl, ?_⟩
          exact ⟨hE, rfl⟩
end Go.Proofs.Ytlplogplicgfiaa

namespace Go.Proofs.Ytlplogplicgfiaa
open Go Go.RowKit Go.ChangeShapes Go.WideShapes Go.ChangeAt Go.Joins Go.Deep
section
variable {H : Type} {enc : TypeId × Value → H}
instance : Inhabited Stp := ⟨Stp0⟩
set_option maxRecDepth 100000 in
theorem open_steps {W : World} {b0 : Nat} {v : Value} {d : DataW H} {p : List MemPlace} (hv : Value.okWide Try.prog W .any b0 59 v) (h : DataW.Trod enc Try.prog W 0 (fun _ => true) true 59 v d p) :
    ∃ ss : List Stp, Row W 5 v ss.length (stpsC ss) ∧ (∀ x ∈ ss, okS x) ∧ ss.length ≤ 9223372036854775807 := by
  obtain ⟨a0, len0, cap0, rfl⟩ := okWide_slice Try.underlying59 hv
  obtain ⟨fuel, hf⟩ := h
  rcases open_slice Try.underlying59 hf with ⟨h1, _⟩ | ⟨a, len, cap, m, n, Dd, Pl, h1, _, hl, hm, hmm, _, hc⟩
  · simp [Value.cells] at h1
    obtain ⟨rfl, rfl, rfl⟩ := h1
    exact ⟨[], Row.nil _ _, by simp, by simp⟩
  · simp [Value.cells] at h1
    obtain ⟨rfl, rfl, rfl⟩ := h1
    rw [maxLen_eq] at hm
    simp only [if_true] at hmm
    subst hmm
    have ce : Try.prog.cellsOf 65 = 5 := by kernel_rfl
    have each : ∀ i, i < m → ∃ s : Stp, okS s ∧ ∀ k, k < 5 → W.cell? (a.add (i * 5 + k)) = (stpC s)[k]? := fun i hi => by
      obtain ⟨cs', g1, g2⟩ := hc i hi
      rw [ce] at g1
      obtain ⟨_, hlen, hcell⟩ := World.cells?_some g1
      obtain ⟨xs, k, hk, hxy, _, hxl, hfx⟩ := DataW.trod_struct Try.underlying65 g2
      have c5 : Try.prog.cellsOf 5 = 1 := by kernel_rfl
      have c63 : Try.prog.cellsOf 63 = 1 := by kernel_rfl
      match xs, hxl, cs', hlen with
      | [y0, y1, y2, y3, y4], _, [v0, v1, v2, v3, v4], _ =>
        have k0 := hfx 0 _ rfl
        have k1 := hfx 1 _ rfl
        have k2 := hfx 2 _ rfl
        have k3 := hfx 3 _ rfl
        have k4 := hfx 4 _ rfl
        simp [c5, c63] at k0 k1 k2 k3 k4
        obtain ⟨x0, e0, _, w0⟩ := DataW.trod_int Try.underlying5 k0
        obtain ⟨x1, e1, _, w1⟩ := DataW.trod_int Try.underlying5 k1
        obtain ⟨x2, e2, _, w2⟩ := DataW.trod_int Try.underlying5 k2
        obtain ⟨x3, e3, _, w3⟩ := DataW.trod_int Try.underlying5 k3
        obtain ⟨x4, e4, _, w4⟩ := DataW.trod_int Try.underlying63 k4
        simp at e0 e1 e2 e3 e4
        replace w0 : 0 ≤ x0 ∧ x0 ≤ 255 := by simpa [Lit.wf, IntKind.min, IntKind.max, IntKind.signed, IntKind.bits] using w0
        replace w1 : 0 ≤ x1 ∧ x1 ≤ 255 := by simpa [Lit.wf, IntKind.min, IntKind.max, IntKind.signed, IntKind.bits] using w1
        replace w2 : 0 ≤ x2 ∧ x2 ≤ 255 := by simpa [Lit.wf, IntKind.min, IntKind.max, IntKind.signed, IntKind.bits] using w2
        replace w3 : 0 ≤ x3 ∧ x3 ≤ 255 := by simpa [Lit.wf, IntKind.min, IntKind.max, IntKind.signed, IntKind.bits] using w3
        replace w4 : 0 ≤ x4 ∧ x4 ≤ 65535 := by simpa [Lit.wf, IntKind.min, IntKind.max, IntKind.signed, IntKind.bits] using w4
        obtain ⟨z0, rfl⟩ : ∃ z : Nat, x0 = (z : Int) := ⟨x0.toNat, by omega⟩
        obtain ⟨z1, rfl⟩ : ∃ z : Nat, x1 = (z : Int) := ⟨x1.toNat, by omega⟩
        obtain ⟨z2, rfl⟩ : ∃ z : Nat, x2 = (z : Int) := ⟨x2.toNat, by omega⟩
        obtain ⟨z3, rfl⟩ : ∃ z : Nat, x3 = (z : Int) := ⟨x3.toNat, by omega⟩
        obtain ⟨z4, rfl⟩ : ∃ z : Nat, x4 = (z : Int) := ⟨x4.toNat, by omega⟩
        subst e0 e1 e2 e3 e4
        refine ⟨⟨z0, z1, z2, z3, z4⟩, ⟨by show z0 < 256; omega, by show z1 < 256; omega, by show z2 < 256; omega, by show z3 < 256; omega, by show z4 < 65536; omega⟩, fun k hk => ?_⟩
        rw [← Deep.add_add, hcell k (by omega)]
        rfl
    obtain ⟨q, hq⟩ := choose_lt each
    refine ⟨(List.range len0).map q, ⟨some a, m, by simp, by simpa using hl, by rw [stpsC_len], fun j hj => ⟨a, rfl, ?_⟩⟩, fun x hx => ?_, by simp; omega⟩
    · rw [stpsC_len, List.length_map, List.length_range] at hj
      have hi : j / 5 < len0 := by omega
      have h1 := stps_at (l := (List.range len0).map q) (i := j / 5) (by simpa using hi)
      have h2 := congrArg (fun l => l[j % 5]?) h1
      simp only [List.getElem?_take, List.getElem?_drop, if_pos (Nat.mod_lt j (show 0 < 5 by decide))] at h2
      rw [show j / 5 * 5 + j % 5 = j by omega] at h2
      rw [h2, show ((List.range len0).map q).getD (j / 5) Stp0 = q (j / 5) by simp [hi], ← (hq (j / 5) (by omega)).2 (j % 5) (Nat.mod_lt _ (by decide)), show j / 5 * 5 + j % 5 = j by omega]
    · obtain ⟨i, hi, rfl⟩ := List.mem_map.1 hx
      exact (hq i (by have := List.mem_range.1 hi; omega)).1
end
end Go.Proofs.Ytlplogplicgfiaa
