import Derived.Test.YtlplogplicgfiaaZ9KN
namespace Go.Proofs.Ytlplogplicgfiaa
open Go Go.RowKit
def cntS (l : List (List Nat)) : Nat := (l.map (fun x => cntL x.length)).sum
theorem cntS_take {l : List (List Nat)} {i : Nat} (h : i < l.length) : cntS (l.take (i + 1)) = cntS (l.take i) + cntL (l.getD i []).length := by
  unfold cntS
  rw [List.take_add_one, List.map_append, List.sum_append, List.getD_eq_getElem?_getD, List.getElem?_eq_getElem h]
  simp
theorem totalL_takeS {n : Nat} {j : Jn} {l : List (List Nat)} {f : Nat} (h : JInv n j l f) : ∀ {i : Nat}, i ≤ l.length → totalL (j.live.take i) = cntS (l.take i)
  | 0, _ => rfl
  | i + 1, hi => by
    have hl := h.h.len
    rw [totalL_take (by omega), cntS_take (by omega), totalL_takeS h (by omega), h.tot i (by omega), h.h.dat i (by omega)]
theorem totalL_S {n : Nat} {j : Jn} {l : List (List Nat)} {f : Nat} (h : JInv n j l f) : totalL j.live = cntS l := by
  have h1 := totalL_takeS h (Nat.le_refl l.length)
  have hl := h.h.len
  rw [List.take_of_length_le (by omega), List.take_of_length_le (by omega)] at h1
  exact h1
theorem cntS_le {n : Nat} {j : Jn} {l : List (List Nat)} {f : Nat} (h : JInv n j l f) (i : Nat) : cntS (l.take i) ≤ n := by
  have h1 := totalL_S h
  have h2 := h.free
  have h3 : cntS (l.take i) + cntS (l.drop i) = cntS l := by
    unfold cntS
    rw [← List.sum_append, ← List.map_append, List.take_append_drop]
  unfold freeI at h2
  omega
theorem append_full {d : Dk} {j : Jn} {l : List (List Nat)} {f g : Nat} {rec : List Nat} (h : JInv d.n j l f) (hg : f ≤ g) (hg2 : g ≤ f + l.length) (hrec : rec.length ≤ 4032) (hfr : freeI d.n j.live < (cntL rec.length : Int)) : appendL d j rec ((g : Nat) : Int) = (d, j, 0, 4) := by
  have hfst := h.h.fst
  have hlst := h.h.lst
  unfold appendL
  rw [if_neg (by rw [h.down]; simp), if_neg (by omega), if_neg (by omega), if_pos (.inl hfr)]
set_option maxHeartbeats 1600000 in
theorem journalRooms (w : World) {pl : Nat} {v : Value} {l : List Stp} {sm : Bool} (hr : Row w 5 v l.length (stpsC l)) (hl : ∀ x ∈ l, okS x) (hpl : pl < 256) (hll : l.length ≤ 9223372036854775807) :
    Calls Try.prog 9 #[.int .u8 (pl : Nat), v, .bool sm] w (Ret fun r w' => Ext w w' ∧ r = .bool true) := by
  refine calls_E (args := [.int .u8 ((pl : Nat) : Int), v, .bool (sm)]) 161 Try.func9 rfl rfl (by simp) ?_
  have hE : Ext w w := Upd.refl w
  refine E.seq ?_
  refine E.regionP rfl ?_
  refine R.assign ?_
  refine R.nil ?_
  refine E.seq ?_
  refine E.regionP rfl ?_
  refine R.move ?_
  refine R.move ?_
  refine R.callE2 ent33 (kept_ _ (fun _ _ _ => True) (hr.ext hE) hl hpl hll trivial (fun _ _ _ _ _ _ _ _ _ _ _ _ _ _ => trivial)) rfl rfl nofun ?_
  rintro v21 w1 hx1 ⟨b902, s, j, ii, hi30, rfl, hG, hK, _⟩
  have hsz0 := hE.size
  replace hE := hE.ext hx1
  obtain ⟨b900, vb, vd, b901, vl, us, hS, hJ, hb902, hb901, hge0⟩ := hG
  obtain ⟨⟨vL, uL, vp, hB902, hV, hP⟩, hD⟩ := hS
  have hge : ∀ x, AB b901 b900 vb vd x → w.heap.size ≤ x := by
    rintro x (rfl | h)
    · exact Nat.le_trans hsz0 hb901
    · exact Nat.le_trans hsz0 (hge0 x h)
  have hI := hK.inv
  have hdn := hK.dn
  have hpw1 := hK.pw
  have hH := hI.h
  have hlen := hH.len
  have hlst := hH.lst
  have hfst := hH.fst
  have hf1 := hH.ok.fst
  have hnum := hK.num
  have hbn := Dk.n_pos (d := s.d) (by omega)
  have hTS := totalL_S hI
  have hfr0 := hI.free
  unfold freeI at hfr0
  have hat : ∀ i, i < j.live.length → (j.live.getD i Rc0).at_ ≤ 1000000 := fun i hi => by have := hI.at_ i hi; omega
  replace hb902 := Nat.le_trans hsz0 hb902
  replace hb901 := Nat.le_trans hsz0 hb901
  refine R.move ?_
  refine R.extract rfl rfl ?_
  refine R.extract rfl rfl ?_
  refine R.assign ?_
  refine R.assign ?_
  refine R.nil ?_
  refine E.seq ?_
  refine E.seq ?_
  refine E.regionP rfl ?_
  refine R.move ?_
  refine R.not rfl ?_
  refine R.nil ?_
  refine E.condF rfl ?_
  refine E.skip ?_
  refine E.seq ?_
  refine E.regionP rfl ?_
  refine R.move ?_
  refine R.nilCheck rfl ?_
  refine R.fld fa69_0 rfl ?_
  refine R.loadB t32 hB902 rfl rfl rfl trivial ?_
  refine R.nilCheck rfl ?_
  refine R.fld fa25_1 rfl ?_
  refine R.loadB t23 hD.blk rfl rfl rfl trivial ?_
  refine R.len Try.underlying23 hD.bds.row rfl ?_
  refine R.quoN (m := s.d.bad.length) (n := 2) rfl rfl (by omega) (by omega) ?_
  rw [show s.d.bad.length / 2 = s.d.n by omega]
  refine R.assign ?_
  refine R.nil ?_
  refine E.seq ?_
  refine E.seq ?_
  refine E.forget [(2, .bool (sm)), (7, .pointer (some ⟨b902, 0, none⟩)), (9, .int .i64 ((s.d.n : Nat) : Int))] ⟨rfl, rfl, rfl, trivial⟩ (fun e => ?_)
  refine E.regionP rfl ?_
  refine R.move ?_
  refine R.nilCheck rfl ?_
  refine R.fld fa69_2 rfl ?_
  refine R.loadB t67 hB902 rfl rfl rfl trivial ?_
  refine R.len Try.underlying67 hV.sl.row rfl ?_
  refine R.move ?_
  refine R.nil ?_
  refine E.block ?_
  refine E.loop (fun n e wr => ∃ (i : Nat), n = s.live.length - i ∧ i ≤ s.live.length ∧ DM wr b900 vb vd s.d ∧ JM wr b901 b900 vl us j ∧ LvM wr vL uL s.live ∧ SU8s wr vp s.pend ∧ Blk wr b902 69 #[.pointer (some ⟨b900, 0, none⟩), .pointer (some ⟨b901, 0, none⟩), vL, .int .i64 ((s.first : Nat) : Int), vp, .bool (s.waits), .int .i64 ((s.frm : Nat) : Int), .int .i64 ((s.cnt : Nat) : Int)] ∧ Ext w wr ∧ Has e [(2, .bool (sm)), (7, .pointer (some ⟨b902, 0, none⟩)), (9, .int .i64 ((((s.d.n : Nat) : Int) - ((cntS (s.live.take i) : Nat) : Int)))), (38, vL), (39, .int .i64 ((s.live.length : Nat) : Int)), (40, .int .i64 ((i : Nat) : Int))]) (s.live.length) ?_ ?_
  · exact ⟨0, rfl, by omega, hD, hJ, hV, hP, hB902, hE, rfl, rfl, rfl, rfl, rfl, rfl, trivial⟩
  · rintro n e wr ⟨i, rfl, hi, hD, hJ, hV, hP, hB902, hE, hH⟩
    obtain ⟨e, rfl⟩ := hH.ex
    clear hH
    refine E.seq ?_
    refine E.regionP rfl ?_
    refine R.lss (b := decide ((((i : Nat) : Int)) < (((s.live.length : Nat) : Int)))) rfl rfl rfl ?_
    refine R.nil ?_
    refine E.seq ?_
    refine E.cond (b := decide ((((i : Nat) : Int)) < (((s.live.length : Nat) : Int)))) rfl (fun hc41 => ?_) (fun hc41 => ?_)
    · replace hc41 := dT hc41
      have hct := cntS_take (l := s.live) (i := i) (by omega)
      have hcl := cntS_le hI i
      unfold cntL at hct
      have hbl := hH.b i (by omega)
      rw [hH.dat i (by omega)] at hbl
      refine E.skip ?_
      refine E.seq ?_
      refine E.block ?_
      refine E.seq ?_
      refine E.regionP rfl ?_
      refine R.ix (m := i) Try.underlying67 t55 (by decide) hV.sl.row rfl rfl (by omega) ?_
      refine R.load (u := (uL.getD i undef)) t55 hV.sl.row rfl (hV.cell (by omega)) rfl (fun _ _ => trivial) ?_
      refine R.assign ?_
      refine R.nil ?_
      refine E.regionP rfl ?_
      refine R.move ?_
      refine R.move ?_
      refine R.len Try.underlying55 (hV.rows.rows i (by omega)).row rfl ?_
      refine R.addN (m := (((s.live.getD i [])).length)) (n := 47) rfl rfl (by omega) ?_
      refine R.quoN (m := ((((s.live.getD i [])).length) + 47)) (n := 48) rfl rfl (by omega) (by omega) ?_
      refine R.maxN (m := 1) (n := (((((s.live.getD i [])).length) + 47) / 48)) rfl rfl ?_
      refine R.subV (m := (((s.d.n : Nat) : Int) - ((cntS (s.live.take i) : Nat) : Int))) (n := ((max 1 (((((s.live.getD i [])).length) + 47) / 48) : Nat) : Int)) (v := (((s.d.n : Nat) : Int) - ((cntS (s.live.take (i + 1)) : Nat) : Int))) rfl rfl (by omega) (by omega) (by omega) ?_
      refine R.assign ?_
      refine R.nil ?_
      refine E.forget [(2, .bool (sm)), (7, .pointer (some ⟨b902, 0, none⟩)), (9, .int .i64 ((((s.d.n : Nat) : Int) - ((cntS (s.live.take (i + 1)) : Nat) : Int)))), (38, vL), (39, .int .i64 ((s.live.length : Nat) : Int)), (40, .int .i64 ((i : Nat) : Int))] ⟨rfl, rfl, rfl, rfl, rfl, rfl, trivial⟩ (fun e => ?_)
      refine E.regionP rfl ?_
      refine R.addN (m := i) (n := 1) rfl rfl (by omega) ?_
      refine R.move ?_
      refine R.nil ?_
      exact ⟨s.live.length - (i + 1), by omega, i + 1, rfl, by omega, hD, hJ, hV, hP, hB902, hE, rfl, rfl, rfl, rfl, rfl, rfl, trivial⟩
    · replace hc41 := dF hc41
      have hie : cntS (s.live.take i) = cntS s.live := by rw [List.take_of_length_le (by omega)]
      refine E.exit ?_
      refine E.seq ?_
      refine E.regionP rfl ?_
      refine R.move ?_
      refine R.nilCheck rfl ?_
      refine R.fld fa69_1 rfl ?_
      refine R.loadB t66 hB902 rfl rfl rfl trivial ?_
      refine R.callE1 ent35 (room_ _ hD hJ hH.ok) rfl nofun ?_
      rintro v56 w2 hx2 hrm0
      replace hD := hD.ext hx2
      replace hJ := hJ.ext hx2
      replace hV := hV.ext hx2
      replace hP := hP.ext hx2
      replace hB902 := hB902.ext hx2
      replace hE := hE.ext hx2
      subst hrm0
      obtain ⟨rm, hrm⟩ : ∃ rm, rm = roomI s.d.n j.live := ⟨_, rfl⟩
      rw [← hrm]
      have hct0 : cntS (s.live.take s.live.length) = cntS s.live := by rw [List.take_of_length_le (Nat.le_refl _)]
      unfold roomI freeI at hrm
      refine R.assign ?_
      refine R.nil ?_
      refine E.seq ?_
      refine E.seq ?_
      refine E.regionP rfl ?_
      refine R.move ?_
      refine R.lss (b := decide (((((s.d.n : Nat) : Int) - ((cntS (s.live.take i) : Nat) : Int))) < (((1 : Nat) : Int)))) rfl rfl rfl ?_
      refine R.nil ?_
      refine E.cond (b := decide (((((s.d.n : Nat) : Int) - ((cntS (s.live.take i) : Nat) : Int))) < (((1 : Nat) : Int)))) rfl (fun hc58 => ?_) (fun hc58 => ?_)
      · replace hc58 := dT hc58
        have hfr1 : (s.d.n : Int) - (cntS s.live : Int) < 1 := by omega
        refine E.seq ?_
        refine E.forget [(7, .pointer (some ⟨b902, 0, none⟩)), (12, .int .i64 (rm))] ⟨rfl, rfl, trivial⟩ (fun e => ?_)
        refine E.regionW (fun c x => x < w2.heap.size ∧ (c = false → ¬ AB b901 b900 vb vd x)) []  mixed rfl (by kernel_rfl) ?_
        intro w3 hx3 hh3
        replace hD := hD.ext hx3
        replace hJ := hJ.ext hx3
        replace hV := hV.ext hx3
        replace hP := hP.ext hx3
        replace hB902 := hB902.ext hx3
        replace hE := hE.ext hx3
        have hEs : Ext w3 w3 := Upd.refl _
        have hS0 := hx3.size
        have hSB : ∀ b, b < w3.heap.size → b < w2.heap.size ∧ (true = false → (fun x => ¬ AB b901 b900 vb vd x) b) := fun b hb => ⟨by rw [hh3] at hb; exact hb, nofun⟩
        have hSA : ∀ b, b < w3.heap.size → (fun x => ¬ AB b901 b900 vb vd x) b → b < w2.heap.size ∧ (false = false → (fun x => ¬ AB b901 b900 vb vd x) b) := fun b hb h => ⟨by rw [hh3] at hb; exact hb, fun _ => h⟩
        have hDs := hD
        have hJs := hJ
        have hVs := hV
        have hPs := hP
        have hB902s := hB902
        refine R.move ?_
        refine R.nilCheck rfl ?_
        refine R.fld fa69_1 rfl ?_
        refine R.loadB t66 hB902 rfl rfl rfl (hSA b902 hB902s.lt ((fun e => e.elim (fun e => hJs.blk.ne hB902s (by decide) e.symm) (fun e => hDs.notDB hB902s (by decide) e)))) ?_
        refine R.move ?_
        refine R.nilCheck rfl ?_
        refine R.fld fa69_1 rfl ?_
        refine R.loadB t66 hB902 rfl rfl rfl (hSA b902 hB902s.lt ((fun e => e.elim (fun e => hJs.blk.ne hB902s (by decide) e.symm) (fun e => hDs.notDB hB902s (by decide) e)))) ?_
        refine R.callE1 ent37 (lastN_ _ hJ hH.ok.len) rfl (fun _ _ hb => Nat.lt_of_lt_of_le hb.1 (Nat.le_trans hS0 hEs.size)) ?_
        rintro v68 w4 hx4 rfl
        replace hD := hD.ext hx4
        replace hJ := hJ.ext hx4
        replace hV := hV.ext hx4
        replace hP := hP.ext hx4
        replace hB902 := hB902.ext hx4
        replace hE := hE.ext hx4
        replace hEs := hEs.ext hx4
        refine R.addN (m := ((lastN j.live))) (n := 1) rfl rfl (by omega) ?_
        refine R.call3 ent36 (appendP _ hD hJ (RU8.of (show SU8s _ (.slice none 0 0) [] from Sl.nil _ _ _)) (fun _ h => absurd h (List.not_mem_nil)) hH.ok hat (by first | decide | (simp; omega)) (by omega) (by omega) (append_full (g := lastN j.live + 1) (by rw [hdn]; exact hI) (by omega) (by omega) (by decide) (by unfold freeI cntL; simp; omega))) rfl rfl rfl ?_
        rintro v70 w5 ⟨hU5, hDn5, vl5, us5, hJn70, rfl⟩
        refine ⟨fun _ => hU5.agree (fun x hx => ⟨Nat.lt_of_lt_of_le hx.1 (Nat.le_trans hS0 hEs.size), hx.2 rfl⟩), ?_⟩
        replace hV := hV.upA hU5 hD hJ (by decide)
        replace hP := hP.upA hU5 hD hJ (by decide)
        replace hB902 := hB902.upA hU5 hD hJ (by decide)
        replace hE := hE.trans hU5 (fun x hx h => absurd hx (Nat.not_lt.2 (hge x h)))
        clear hD hJ
        have hD := hDn5
        have hJ := hJn70
        refine R.move ?_
        refine R.extract rfl rfl ?_
        refine R.extract rfl rfl ?_
        refine R.assign ?_
        refine R.assign ?_
        refine R.nil ?_
        refine E.seq ?_
        refine E.forget [(7, .pointer (some ⟨b902, 0, none⟩)), (12, .int .i64 (rm)), (13, .int .i64 ((0 : Nat) : Int)), (14, .int .i64 ((4 : Nat) : Int))] ⟨rfl, rfl, rfl, rfl, trivial⟩ (fun e => ?_)
        refine E.regionP rfl ?_
        refine R.move ?_
        refine R.eql (b := decide ((rm) = (-1))) rfl rfl rfl ?_
        refine R.move ?_
        have hg75 := Bool.eq_false_or_eq_true (decide ((rm) = (-1)))
        rcases hg75 with hg75 | hg75
        · have hg75q := hg75
          replace hg75 := dT hg75
          refine R.gT rfl (congrArg Value.bool hg75q) ?_
          refine R.move ?_
          refine R.gT rfl (congrArg Value.bool hg75q) ?_
          refine R.eql (b := true) rfl rfl (by decide) ?_
          refine R.pickT (congrArg Value.bool hg75q) ?_
          refine R.move ?_
          refine R.gT rfl rfl ?_
          refine R.move ?_
          refine R.gT rfl rfl ?_
          refine R.eql (b := true) rfl rfl (by decide) ?_
          refine R.pickT rfl ?_
          refine R.move ?_
          refine R.gT rfl rfl ?_
          refine R.move ?_
          refine R.gT rfl rfl ?_
          refine R.callE1 ent38 (holds_ _ hB902 hJ hV hH) rfl nofun ?_
          rintro v85 w6 hx6 rfl
          replace hD := hD.ext hx6
          replace hJ := hJ.ext hx6
          replace hV := hV.ext hx6
          replace hP := hP.ext hx6
          replace hB902 := hB902.ext hx6
          replace hE := hE.ext hx6
          refine R.pickT rfl ?_
          refine R.move ?_
          refine R.gT rfl rfl ?_
          refine R.callE0 ent13 (awake_ _)  nofun ?_
          rintro v88 w7 hx7 rfl
          replace hD := hD.ext hx7
          replace hJ := hJ.ext hx7
          replace hV := hV.ext hx7
          replace hP := hP.ext hx7
          replace hB902 := hB902.ext hx7
          replace hE := hE.ext hx7
          refine R.pickT rfl ?_
          refine R.assign ?_
          refine R.nil ?_
          refine E.ret ?_
          refine ret1 (.bool (true)) rfl rfl ⟨_, rfl, ?_⟩
          exact ⟨hE, rfl⟩
        · have hg75q := hg75
          replace hg75 := dF hg75
          exact absurd hg75 (by omega)
      · replace hc58 := dF hc58
        have hfr1 : ¬ (s.d.n : Int) - (cntS s.live : Int) < 1 := by omega
        rw [if_neg (by omega)] at hrm
        refine E.skip ?_
        refine E.seq ?_
        refine E.seq ?_
        refine E.forget [(2, .bool (sm)), (7, .pointer (some ⟨b902, 0, none⟩)), (9, .int .i64 ((((s.d.n : Nat) : Int) - ((cntS (s.live.take i) : Nat) : Int)))), (12, .int .i64 (rm))] ⟨rfl, rfl, rfl, rfl, trivial⟩ (fun e => ?_)
        refine E.regionP rfl ?_
        refine R.move ?_
        refine R.move ?_
        refine R.mul (m := ((48 : Nat) : Int)) (n := (((s.d.n : Nat) : Int) - ((cntS (s.live.take i) : Nat) : Int))) rfl rfl (by omega) (by omega) ?_
        refine R.neq (b := !decide ((rm) = ((((48 : Nat) : Int)) * ((((s.d.n : Nat) : Int) - ((cntS (s.live.take i) : Nat) : Int)))))) rfl rfl rfl ?_
        refine R.nil ?_
        refine E.cond (b := !decide ((rm) = ((((48 : Nat) : Int)) * ((((s.d.n : Nat) : Int) - ((cntS (s.live.take i) : Nat) : Int)))))) rfl (fun hc93 => ?_) (fun hc93 => ?_)
        · replace hc93 := nT hc93
          exact absurd hc93 (by omega)
        · replace hc93 := nF hc93
          refine E.skip ?_
          refine E.seq ?_
          refine E.seq ?_
          obtain ⟨q, rfl⟩ : ∃ q : Nat, rm = (q : Int) := ⟨rm.toNat, by omega⟩
          refine E.regionW (fun c x => x < w2.heap.size ∧ (c = false → ¬ AB b901 b900 vb vd x)) []  mixed rfl (by kernel_rfl) ?_
          intro w8 hx8 hh8
          replace hD := hD.ext hx8
          replace hJ := hJ.ext hx8
          replace hV := hV.ext hx8
          replace hP := hP.ext hx8
          replace hB902 := hB902.ext hx8
          replace hE := hE.ext hx8
          have hEs : Ext w8 w8 := Upd.refl _
          have hS0 := hx8.size
          have hSB : ∀ b, b < w8.heap.size → b < w2.heap.size ∧ (true = false → (fun x => ¬ AB b901 b900 vb vd x) b) := fun b hb => ⟨by rw [hh8] at hb; exact hb, nofun⟩
          have hSA : ∀ b, b < w8.heap.size → (fun x => ¬ AB b901 b900 vb vd x) b → b < w2.heap.size ∧ (false = false → (fun x => ¬ AB b901 b900 vb vd x) b) := fun b hb h => ⟨by rw [hh8] at hb; exact hb, fun _ => h⟩
          have hDs := hD
          have hJs := hJ
          have hVs := hV
          have hPs := hP
          have hB902s := hB902
          refine R.move ?_
          refine R.nilCheck rfl ?_
          refine R.fld fa69_1 rfl ?_
          refine R.loadB t66 hB902 rfl rfl rfl (hSA b902 hB902s.lt ((fun e => e.elim (fun e => hJs.blk.ne hB902s (by decide) e.symm) (fun e => hDs.notDB hB902s (by decide) e)))) ?_
          refine R.move ?_
          refine R.addN (m := q) (n := 1) rfl rfl (by omega) ?_
          refine R.makeK (n := q + 1) (c := q + 1) Try.underlying55 t5 (by decide) z5 rfl rfl (Nat.le_refl _) (by omega) (by omega) (fun _ _ _ hb => Nat.lt_of_lt_of_le hb.1 (Nat.le_trans hS0 hEs.size)) ?_
          intro b101 w9 hb101 hx9 hS101
          have hn_hJ_101 := hJ.new hb101
          have hn_hV_101 := hV.new hb101
          replace hb101 := Nat.le_trans hE.size hb101
          replace hD := hD.ext hx9
          replace hJ := hJ.ext hx9
          replace hV := hV.ext hx9
          replace hP := hP.ext hx9
          replace hB902 := hB902.ext hx9
          replace hE := hE.ext hx9
          replace hEs := hEs.ext hx9
          replace hS101 : SU8s _ (.slice (some ⟨b101, 0, none⟩) (q + 1) (q + 1)) (List.replicate (q + 1) 0) := SU8s.made hS101
          refine R.move ?_
          refine R.nilCheck rfl ?_
          refine R.fld fa69_3 rfl ?_
          refine R.loadB t3 hB902 rfl rfl rfl (hSA b902 hB902s.lt ((fun e => e.elim (fun e => hJs.blk.ne hB902s (by decide) e.symm) (fun e => hDs.notDB hB902s (by decide) e)))) ?_
          refine R.call3 ent36 (appendP _ hD hJ (RU8.of hS101) (fun x hx => by rw [List.eq_of_mem_replicate hx]; decide) hH.ok hat (by first | decide | (simp; omega)) (by omega) (by omega) (append_full (g := s.first) (by rw [hdn]; exact hI) (by omega) (by omega) (by simp; omega) (by unfold freeI cntL; simp; omega))) rfl rfl rfl ?_
          rintro v106 w10 ⟨hU10, hDn10, vl5, us5, hJn106, rfl⟩
          refine ⟨fun _ => hU10.agree (fun x hx => ⟨Nat.lt_of_lt_of_le hx.1 (Nat.le_trans hS0 hEs.size), hx.2 rfl⟩), ?_⟩
          replace hV := hV.upA hU10 hD hJ (by decide)
          replace hP := hP.upA hU10 hD hJ (by decide)
          replace hS101 := hS101.upA hU10 hD hJ (by decide)
          replace hB902 := hB902.upA hU10 hD hJ (by decide)
          replace hE := hE.trans hU10 (fun x hx h => absurd hx (Nat.not_lt.2 (hge x h)))
          clear hD hJ
          have hD := hDn10
          have hJ := hJn106
          refine R.move ?_
          refine R.extract rfl rfl ?_
          refine R.extract rfl rfl ?_
          refine R.assign ?_
          refine R.assign ?_
          refine R.nil ?_
          refine E.seq ?_
          refine E.forget [(2, .bool (sm)), (7, .pointer (some ⟨b902, 0, none⟩)), (12, .int .i64 ((q : Nat) : Int)), (15, .int .i64 ((0 : Nat) : Int)), (16, .int .i64 ((4 : Nat) : Int))] ⟨rfl, rfl, rfl, rfl, rfl, trivial⟩ (fun e => ?_)
          refine E.regionP rfl ?_
          refine R.move ?_
          refine R.neq (b := false) rfl rfl (by decide) ?_
          refine R.move ?_
          refine R.gT rfl rfl ?_
          refine R.move ?_
          refine R.gT rfl rfl ?_
          refine R.neq (b := false) rfl rfl (by decide) ?_
          refine R.pickF rfl ?_
          refine R.nil ?_
          refine E.condF rfl ?_
          refine E.skip ?_
          refine E.seq ?_
          refine E.regionP rfl ?_
          refine R.move ?_
          refine R.assign ?_
          refine R.nil ?_
          refine E.seq ?_
          refine E.seq ?_
          refine E.regionP rfl ?_
          refine R.move ?_
          refine R.nil ?_
          refine E.cond (b := sm) rfl (fun hc116 => ?_) (fun hc116 => ?_)
          · refine E.forget [(7, .pointer (some ⟨b902, 0, none⟩))] ⟨rfl, trivial⟩ (fun e => ?_)
            refine E.regionP rfl ?_
            refine R.assign ?_
            refine R.nil ?_
            refine E.seq ?_
            refine E.seq ?_
            refine E.regionP rfl ?_
            refine R.move ?_
            refine R.move ?_
            refine R.move ?_
            refine R.nilCheck rfl ?_
            refine R.fld fa69_2 rfl ?_
            refine R.loadB t67 hB902 rfl rfl rfl trivial ?_
            refine R.len Try.underlying67 hV.sl.row rfl ?_
            refine R.call4 ent30 (gappend_ _ (m := 0) (p := s.live.length) (N := w.heap.size) ⟨b900, vb, vd, b901, _, _, ⟨⟨vL, uL, vp, hB902, hV, hP⟩, hD⟩, hJ, hb902, hb901, hge0⟩ (by rw [hdn]; exact hI) (by omega) hpw1 (by omega) (by omega) (by have := hK.cnt; omega) (by omega)) rfl rfl rfl rfl ?_
            rintro v124 w11 ⟨hU11, rfl, rec, s2, j2, hl2, hb2, hr2, hG2⟩
            refine ⟨nofun, ?_⟩
            replace hE := hE.trans hU11 (fun x hx h => absurd hx (Nat.not_lt.2 h))
            clear hB902 hV hP hD hJ
            rw [show s.first + s.live.length % (s.live.length + 1) = s.first + s.live.length by rw [Nat.mod_eq_of_lt (by omega)]] at hr2
            have hIr : JInv s.d.n j s.live s.first := by rw [hdn]; exact hI
            have hK2 := KInv.app (by omega) hK (by omega) (by omega) (show rec.length ≤ 4032 by omega) hb2 (by omega) hr2
            obtain ⟨d2, hap, rfl⟩ : ∃ d', appendL s.d j rec ((s.first + s.live.length : Nat) : Int) = (d', j2, s.first + s.live.length, 0) ∧ s2 = { s with d := d', live := s.live.drop (s.first + s.live.length - s.first) ++ [rec], first := s.first + s.live.length, cnt := s.cnt + 1 } := by
              rcases hr2 with ⟨h1, _, _⟩ | h1
              · have hc := appC (power := -1) (by omega) hIr (show s.first ≤ s.first + s.live.length by omega) (by omega) (show rec.length ≤ 4032 by omega) hb2 (by omega) (by decide)
                rw [setPw_same hpw1] at hc
                have hro := (room_iff (n := s.d.n) (l := j.live) (m := rec.length) (by omega)).2 (by unfold freeI cntL; omega)
                rcases hc with ⟨_, c2⟩ | ⟨_, _, c1, _⟩ | ⟨_, _, c1, _⟩
                · omega
                · rw [h1] at c1; simp at c1
                · rw [h1] at c1; simp at c1
              · exact h1
            obtain ⟨_, _, _, hI2, hdn2, _⟩ := append_inv (by omega) hIr (show s.first ≤ s.first + s.live.length by omega) (by omega) (show rec.length ≤ 4032 by omega) hb2 (by omega) hap
            obtain ⟨c900, wb, wd, c901, vl3, us3, hS3, hJ, hc902, hc901, hge3⟩ := hG2
            obtain ⟨⟨vL, uL, vp, hB902, hV, hP⟩, hD⟩ := hS3
            have hll2 : (s.live.drop (s.first + s.live.length - s.first) ++ [rec]).length = 1 := by simp
            have hTS2 := totalL_S hI2
            have hcs2 : cntS (s.live.drop (s.first + s.live.length - s.first) ++ [rec]) = cntL rec.length := by
              rw [Nat.add_sub_cancel_left, List.drop_of_length_le (Nat.le_refl _)]; simp [cntS]
            rw [hcs2] at hTS2
            have hH2 := hI2.h
            have hbn2 := Dk.n_pos (d := d2) (by omega)
            have hfr2 := hI2.free
            unfold freeI at hfr2
            rw [hTS2] at hfr2
            unfold cntL at hfr2
            refine R.not rfl ?_
            refine R.move ?_
            refine R.gT rfl rfl ?_
            refine R.move ?_
            refine R.gT rfl rfl ?_
            refine R.nilCheck rfl ?_
            refine R.gT rfl rfl ?_
            refine R.fld fa69_2 rfl ?_
            refine R.gT rfl rfl ?_
            refine R.loadB t67 hB902 rfl rfl rfl trivial ?_
            refine R.gT rfl rfl ?_
            refine R.len Try.underlying67 hV.sl.row rfl ?_
            refine R.gT rfl rfl ?_
            refine R.neq (b := !decide ((((((s.live.drop (s.first + s.live.length - s.first) ++ [rec])).length : Nat) : Int)) = (((1 : Nat) : Int)))) rfl rfl rfl ?_
            refine R.pickF rfl ?_
            refine R.nil ?_
            refine E.cond (b := !decide ((((((s.live.drop (s.first + s.live.length - s.first) ++ [rec])).length : Nat) : Int)) = (((1 : Nat) : Int)))) rfl (fun hc133 => ?_) (fun hc133 => ?_)
            · replace hc133 := nT hc133
              exact absurd hc133 (by omega)
            · replace hc133 := nF hc133
              refine E.skip ?_
              refine E.seq ?_
              refine E.seq ?_
              refine E.forget [(7, .pointer (some ⟨b902, 0, none⟩)), (17, .int .i64 ((0 : Nat) : Int))] ⟨rfl, rfl, trivial⟩ (fun e => ?_)
              refine E.regionP rfl ?_
              refine R.move ?_
              refine R.nilCheck rfl ?_
              refine R.fld fa69_0 rfl ?_
              refine R.loadB t32 hB902 rfl rfl rfl trivial ?_
              refine R.nilCheck rfl ?_
              refine R.fld fa25_1 rfl ?_
              refine R.loadB t23 hD.blk rfl rfl rfl trivial ?_
              refine R.len Try.underlying23 hD.bds.row rfl ?_
              refine R.quoN (m := d2.bad.length) (n := 2) rfl rfl (by omega) (by omega) ?_
              rw [show d2.bad.length / 2 = d2.n by omega]
              refine R.move ?_
              refine R.addN (m := 0) (n := 47) rfl rfl (by omega) ?_
              refine R.quoN (m := (0 + 47)) (n := 48) rfl rfl (by omega) (by omega) ?_
              refine R.maxN (m := 1) (n := ((0 + 47) / 48)) rfl rfl ?_
              refine R.subN (m := d2.n) (n := (max 1 ((0 + 47) / 48))) rfl rfl (by omega) (by omega) ?_
              refine R.mulN (m := 48) (n := (d2.n - (max 1 ((0 + 47) / 48)))) rfl rfl (by omega) ?_
              refine R.assign ?_
              refine R.nil ?_
              refine E.seq ?_
              refine E.forget [(7, .pointer (some ⟨b902, 0, none⟩)), (12, .int .i64 ((48 * (d2.n - (max 1 ((0 + 47) / 48))) : Nat) : Int))] ⟨rfl, rfl, trivial⟩ (fun e => ?_)
              refine E.regionP rfl ?_
              refine R.move ?_
              refine R.eql (b := decide ((((48 * (d2.n - (max 1 ((0 + 47) / 48))) : Nat) : Int)) = (((0 : Nat) : Int)))) rfl rfl rfl ?_
              refine R.nil ?_
              refine E.cond (b := decide ((((48 * (d2.n - (max 1 ((0 + 47) / 48))) : Nat) : Int)) = (((0 : Nat) : Int)))) rfl (fun hc150 => ?_) (fun hc150 => ?_)
              · replace hc150 := dT hc150
                refine E.regionP rfl ?_
                refine R.assign ?_
                refine R.nil ?_
                refine E.seq ?_
                refine E.regionP rfl ?_
                refine R.move ?_
                refine R.nilCheck rfl ?_
                refine R.fld fa69_1 rfl ?_
                refine R.loadB t66 hB902 rfl rfl rfl trivial ?_
                refine R.callE1 ent35 (room_ _ hD hJ hH2.ok) rfl nofun ?_
                rintro v155 w12 hx12 hrm2
                replace hD := hD.ext hx12
                replace hJ := hJ.ext hx12
                replace hV := hV.ext hx12
                replace hP := hP.ext hx12
                replace hB902 := hB902.ext hx12
                replace hE := hE.ext hx12
                subst hrm2
                have hrq : roomI d2.n j2.live = -1 := by rw [hdn2]; unfold roomI freeI; rw [hTS2]; unfold cntL; split <;> omega
                rw [hrq]
                refine R.move ?_
                refine R.eql (b := decide ((-1) = (-1))) rfl rfl rfl ?_
                refine R.move ?_
                have hg158 := Bool.eq_false_or_eq_true (decide ((-1) = (-1)))
                rcases hg158 with hg158 | hg158
                · have hg158q := hg158
                  replace hg158 := dT hg158
                  refine R.gT rfl (congrArg Value.bool hg158q) ?_
                  refine R.callE0 ent13 (awake_ _)  nofun ?_
                  rintro v159 w13 hx13 rfl
                  replace hD := hD.ext hx13
                  replace hJ := hJ.ext hx13
                  replace hV := hV.ext hx13
                  replace hP := hP.ext hx13
                  replace hB902 := hB902.ext hx13
                  replace hE := hE.ext hx13
                  refine R.pickT (congrArg Value.bool hg158q) ?_
                  refine R.assign ?_
                  refine R.nil ?_
                  refine E.ret ?_
                  refine ret1 (.bool (true)) rfl rfl ⟨_, rfl, ?_⟩
                  exact ⟨hE, rfl⟩
                · have hg158q := hg158
                  replace hg158 := dF hg158
                  exact absurd hg158 (by omega)
              · replace hc150 := dF hc150
                refine E.skip ?_
                refine E.seq ?_
                refine E.regionP rfl ?_
                refine R.move ?_
                refine R.nilCheck rfl ?_
                refine R.fld fa69_1 rfl ?_
                refine R.loadB t66 hB902 rfl rfl rfl trivial ?_
                refine R.callE1 ent35 (room_ _ hD hJ hH2.ok) rfl nofun ?_
                rintro v155 w14 hx14 hrm2
                replace hD := hD.ext hx14
                replace hJ := hJ.ext hx14
                replace hV := hV.ext hx14
                replace hP := hP.ext hx14
                replace hB902 := hB902.ext hx14
                replace hE := hE.ext hx14
                subst hrm2
                have hrq : roomI d2.n j2.live = ((48 * (d2.n - (max 1 ((0 + 47) / 48))) : Nat) : Int) := by rw [hdn2]; unfold roomI freeI; rw [hTS2]; unfold cntL; split <;> omega
                rw [hrq]
                refine R.move ?_
                refine R.eql (b := decide ((((48 * (d2.n - (max 1 ((0 + 47) / 48))) : Nat) : Int)) = (((48 * (d2.n - (max 1 ((0 + 47) / 48))) : Nat) : Int)))) rfl rfl rfl ?_
                refine R.move ?_
                have hg158 := Bool.eq_false_or_eq_true (decide ((((48 * (d2.n - (max 1 ((0 + 47) / 48))) : Nat) : Int)) = (((48 * (d2.n - (max 1 ((0 + 47) / 48))) : Nat) : Int))))
                rcases hg158 with hg158 | hg158
                · have hg158q := hg158
                  replace hg158 := dT hg158
                  refine R.gT rfl (congrArg Value.bool hg158q) ?_
                  refine R.callE0 ent13 (awake_ _)  nofun ?_
                  rintro v159 w15 hx15 rfl
                  replace hD := hD.ext hx15
                  replace hJ := hJ.ext hx15
                  replace hV := hV.ext hx15
                  replace hP := hP.ext hx15
                  replace hB902 := hB902.ext hx15
                  replace hE := hE.ext hx15
                  refine R.pickT (congrArg Value.bool hg158q) ?_
                  refine R.assign ?_
                  refine R.nil ?_
                  refine E.ret ?_
                  refine ret1 (.bool (true)) rfl rfl ⟨_, rfl, ?_⟩
                  exact ⟨hE, rfl⟩
                · have hg158q := hg158
                  replace hg158 := dF hg158
                  exact absurd hg158 (by omega)
          · refine E.skip ?_
            refine E.seq ?_
            refine E.seq ?_
            refine E.forget [(7, .pointer (some ⟨b902, 0, none⟩)), (17, .int .i64 ((q : Nat) : Int))] ⟨rfl, rfl, trivial⟩ (fun e => ?_)
            refine E.regionP rfl ?_
            refine R.move ?_
            refine R.move ?_
            refine R.move ?_
            refine R.nilCheck rfl ?_
            refine R.fld fa69_2 rfl ?_
            refine R.loadB t67 hB902 rfl rfl rfl trivial ?_
            refine R.len Try.underlying67 hV.sl.row rfl ?_
            refine R.call4 ent30 (gappend_ _ (m := q) (p := s.live.length) (N := w.heap.size) ⟨b900, vb, vd, b901, _, _, ⟨⟨vL, uL, vp, hB902, hV, hP⟩, hD⟩, hJ, hb902, hb901, hge0⟩ (by rw [hdn]; exact hI) (by omega) hpw1 (by omega) (by omega) (by have := hK.cnt; omega) (by omega)) rfl rfl rfl rfl ?_
            rintro v124 w16 ⟨hU16, rfl, rec, s2, j2, hl2, hb2, hr2, hG2⟩
            refine ⟨nofun, ?_⟩
            replace hE := hE.trans hU16 (fun x hx h => absurd hx (Nat.not_lt.2 h))
            clear hB902 hV hP hD hJ
            rw [show s.first + s.live.length % (s.live.length + 1) = s.first + s.live.length by rw [Nat.mod_eq_of_lt (by omega)]] at hr2
            have hIr : JInv s.d.n j s.live s.first := by rw [hdn]; exact hI
            have hK2 := KInv.app (by omega) hK (by omega) (by omega) (show rec.length ≤ 4032 by omega) hb2 (by omega) hr2
            obtain ⟨d2, hap, rfl⟩ : ∃ d', appendL s.d j rec ((s.first + s.live.length : Nat) : Int) = (d', j2, s.first + s.live.length, 0) ∧ s2 = { s with d := d', live := s.live.drop (s.first + s.live.length - s.first) ++ [rec], first := s.first + s.live.length, cnt := s.cnt + 1 } := by
              rcases hr2 with ⟨h1, _, _⟩ | h1
              · have hc := appC (power := -1) (by omega) hIr (show s.first ≤ s.first + s.live.length by omega) (by omega) (show rec.length ≤ 4032 by omega) hb2 (by omega) (by decide)
                rw [setPw_same hpw1] at hc
                have hro := (room_iff (n := s.d.n) (l := j.live) (m := rec.length) (by omega)).2 (by unfold freeI cntL; omega)
                rcases hc with ⟨_, c2⟩ | ⟨_, _, c1, _⟩ | ⟨_, _, c1, _⟩
                · omega
                · rw [h1] at c1; simp at c1
                · rw [h1] at c1; simp at c1
              · exact h1
            obtain ⟨_, _, _, hI2, hdn2, _⟩ := append_inv (by omega) hIr (show s.first ≤ s.first + s.live.length by omega) (by omega) (show rec.length ≤ 4032 by omega) hb2 (by omega) hap
            obtain ⟨c900, wb, wd, c901, vl3, us3, hS3, hJ, hc902, hc901, hge3⟩ := hG2
            obtain ⟨⟨vL, uL, vp, hB902, hV, hP⟩, hD⟩ := hS3
            have hll2 : (s.live.drop (s.first + s.live.length - s.first) ++ [rec]).length = 1 := by simp
            have hTS2 := totalL_S hI2
            have hcs2 : cntS (s.live.drop (s.first + s.live.length - s.first) ++ [rec]) = cntL rec.length := by
              rw [Nat.add_sub_cancel_left, List.drop_of_length_le (Nat.le_refl _)]; simp [cntS]
            rw [hcs2] at hTS2
            have hH2 := hI2.h
            have hbn2 := Dk.n_pos (d := d2) (by omega)
            have hfr2 := hI2.free
            unfold freeI at hfr2
            rw [hTS2] at hfr2
            unfold cntL at hfr2
            refine R.not rfl ?_
            refine R.move ?_
            refine R.gT rfl rfl ?_
            refine R.move ?_
            refine R.gT rfl rfl ?_
            refine R.nilCheck rfl ?_
            refine R.gT rfl rfl ?_
            refine R.fld fa69_2 rfl ?_
            refine R.gT rfl rfl ?_
            refine R.loadB t67 hB902 rfl rfl rfl trivial ?_
            refine R.gT rfl rfl ?_
            refine R.len Try.underlying67 hV.sl.row rfl ?_
            refine R.gT rfl rfl ?_
            refine R.neq (b := !decide ((((((s.live.drop (s.first + s.live.length - s.first) ++ [rec])).length : Nat) : Int)) = (((1 : Nat) : Int)))) rfl rfl rfl ?_
            refine R.pickF rfl ?_
            refine R.nil ?_
            refine E.cond (b := !decide ((((((s.live.drop (s.first + s.live.length - s.first) ++ [rec])).length : Nat) : Int)) = (((1 : Nat) : Int)))) rfl (fun hc133 => ?_) (fun hc133 => ?_)
            · replace hc133 := nT hc133
              exact absurd hc133 (by omega)
            · replace hc133 := nF hc133
              refine E.skip ?_
              refine E.seq ?_
              refine E.seq ?_
              refine E.forget [(7, .pointer (some ⟨b902, 0, none⟩)), (17, .int .i64 ((q : Nat) : Int))] ⟨rfl, rfl, trivial⟩ (fun e => ?_)
              refine E.regionP rfl ?_
              refine R.move ?_
              refine R.nilCheck rfl ?_
              refine R.fld fa69_0 rfl ?_
              refine R.loadB t32 hB902 rfl rfl rfl trivial ?_
              refine R.nilCheck rfl ?_
              refine R.fld fa25_1 rfl ?_
              refine R.loadB t23 hD.blk rfl rfl rfl trivial ?_
              refine R.len Try.underlying23 hD.bds.row rfl ?_
              refine R.quoN (m := d2.bad.length) (n := 2) rfl rfl (by omega) (by omega) ?_
              rw [show d2.bad.length / 2 = d2.n by omega]
              refine R.move ?_
              refine R.addN (m := q) (n := 47) rfl rfl (by omega) ?_
              refine R.quoN (m := (q + 47)) (n := 48) rfl rfl (by omega) (by omega) ?_
              refine R.maxN (m := 1) (n := ((q + 47) / 48)) rfl rfl ?_
              refine R.subN (m := d2.n) (n := (max 1 ((q + 47) / 48))) rfl rfl (by omega) (by omega) ?_
              refine R.mulN (m := 48) (n := (d2.n - (max 1 ((q + 47) / 48)))) rfl rfl (by omega) ?_
              refine R.assign ?_
              refine R.nil ?_
              refine E.seq ?_
              refine E.forget [(7, .pointer (some ⟨b902, 0, none⟩)), (12, .int .i64 ((48 * (d2.n - (max 1 ((q + 47) / 48))) : Nat) : Int))] ⟨rfl, rfl, trivial⟩ (fun e => ?_)
              refine E.regionP rfl ?_
              refine R.move ?_
              refine R.eql (b := decide ((((48 * (d2.n - (max 1 ((q + 47) / 48))) : Nat) : Int)) = (((0 : Nat) : Int)))) rfl rfl rfl ?_
              refine R.nil ?_
              refine E.cond (b := decide ((((48 * (d2.n - (max 1 ((q + 47) / 48))) : Nat) : Int)) = (((0 : Nat) : Int)))) rfl (fun hc150 => ?_) (fun hc150 => ?_)
              · replace hc150 := dT hc150
                refine E.regionP rfl ?_
                refine R.assign ?_
                refine R.nil ?_
                refine E.seq ?_
                refine E.regionP rfl ?_
                refine R.move ?_
                refine R.nilCheck rfl ?_
                refine R.fld fa69_1 rfl ?_
                refine R.loadB t66 hB902 rfl rfl rfl trivial ?_
                refine R.callE1 ent35 (room_ _ hD hJ hH2.ok) rfl nofun ?_
                rintro v155 w17 hx17 hrm2
                replace hD := hD.ext hx17
                replace hJ := hJ.ext hx17
                replace hV := hV.ext hx17
                replace hP := hP.ext hx17
                replace hB902 := hB902.ext hx17
                replace hE := hE.ext hx17
                subst hrm2
                have hrq : roomI d2.n j2.live = -1 := by rw [hdn2]; unfold roomI freeI; rw [hTS2]; unfold cntL; split <;> omega
                rw [hrq]
                refine R.move ?_
                refine R.eql (b := decide ((-1) = (-1))) rfl rfl rfl ?_
                refine R.move ?_
                have hg158 := Bool.eq_false_or_eq_true (decide ((-1) = (-1)))
                rcases hg158 with hg158 | hg158
                · have hg158q := hg158
                  replace hg158 := dT hg158
                  refine R.gT rfl (congrArg Value.bool hg158q) ?_
                  refine R.callE0 ent13 (awake_ _)  nofun ?_
                  rintro v159 w18 hx18 rfl
                  replace hD := hD.ext hx18
                  replace hJ := hJ.ext hx18
                  replace hV := hV.ext hx18
                  replace hP := hP.ext hx18
                  replace hB902 := hB902.ext hx18
                  replace hE := hE.ext hx18
                  refine R.pickT (congrArg Value.bool hg158q) ?_
                  refine R.assign ?_
                  refine R.nil ?_
                  refine E.ret ?_
                  refine ret1 (.bool (true)) rfl rfl ⟨_, rfl, ?_⟩
                  exact ⟨hE, rfl⟩
                · have hg158q := hg158
                  replace hg158 := dF hg158
                  exact absurd hg158 (by omega)
              · replace hc150 := dF hc150
                refine E.skip ?_
                refine E.seq ?_
                refine E.regionP rfl ?_
                refine R.move ?_
                refine R.nilCheck rfl ?_
                refine R.fld fa69_1 rfl ?_
                refine R.loadB t66 hB902 rfl rfl rfl trivial ?_
                refine R.callE1 ent35 (room_ _ hD hJ hH2.ok) rfl nofun ?_
                rintro v155 w19 hx19 hrm2
                replace hD := hD.ext hx19
                replace hJ := hJ.ext hx19
                replace hV := hV.ext hx19
                replace hP := hP.ext hx19
                replace hB902 := hB902.ext hx19
                replace hE := hE.ext hx19
                subst hrm2
                have hrq : roomI d2.n j2.live = ((48 * (d2.n - (max 1 ((q + 47) / 48))) : Nat) : Int) := by rw [hdn2]; unfold roomI freeI; rw [hTS2]; unfold cntL; split <;> omega
                rw [hrq]
                refine R.move ?_
                refine R.eql (b := decide ((((48 * (d2.n - (max 1 ((q + 47) / 48))) : Nat) : Int)) = (((48 * (d2.n - (max 1 ((q + 47) / 48))) : Nat) : Int)))) rfl rfl rfl ?_
                refine R.move ?_
                have hg158 := Bool.eq_false_or_eq_true (decide ((((48 * (d2.n - (max 1 ((q + 47) / 48))) : Nat) : Int)) = (((48 * (d2.n - (max 1 ((q + 47) / 48))) : Nat) : Int))))
                rcases hg158 with hg158 | hg158
                · have hg158q := hg158
                  replace hg158 := dT hg158
                  refine R.gT rfl (congrArg Value.bool hg158q) ?_
                  refine R.callE0 ent13 (awake_ _)  nofun ?_
                  rintro v159 w20 hx20 rfl
                  replace hD := hD.ext hx20
                  replace hJ := hJ.ext hx20
                  replace hV := hV.ext hx20
                  replace hP := hP.ext hx20
                  replace hB902 := hB902.ext hx20
                  replace hE := hE.ext hx20
                  refine R.pickT (congrArg Value.bool hg158q) ?_
                  refine R.assign ?_
                  refine R.nil ?_
                  refine E.ret ?_
                  refine ret1 (.bool (true)) rfl rfl ⟨_, rfl, ?_⟩
                  exact ⟨hE, rfl⟩
                · have hg158q := hg158
                  replace hg158 := dF hg158
                  exact absurd hg158 (by omega)
end Go.Proofs.Ytlplogplicgfiaa
