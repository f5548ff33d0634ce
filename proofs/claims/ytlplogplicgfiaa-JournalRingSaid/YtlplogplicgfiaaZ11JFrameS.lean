import Derived.Test.YtlplogplicgfiaaZ11P10
import Derived.Test.YtlplogplicgfiaaZ11KE
import Derived.Test.YtlplogplicgfiaaZ11KN
namespace Go.Proofs.Ytlplogplicgfiaa
open Go Go.RowKit
theorem ShX.g {w : World} {N p : Nat} {s : Sp} {j : Jn} (h : ShX w N p s (some j)) : ShG w N p s j := by
  obtain ⟨pd, vb, vd, jp, h1, h3, h5, pj, vl, us, rfl, h2, h4⟩ := h
  exact ⟨pd, vb, vd, pj, vl, us, h1, h2, h3, h4, h5⟩
theorem openA_ (w : World) {N b902 : Nat} {s : Sp} {jo : Option Jn} {power : Int} {d' : Dk} {j' : Jn} (hX : ShX w N b902 s jo) (ho : openL (s.d.setPw power) = (d', 0, some j')) (hH : HoldP j' s.live s.first) (hwt : s.waits = false) (hpw : power ≤ 9223372036854775807) (hfr : s.first ≤ 9000000000) (hln : s.live.length ≤ 100000) :
    Calls Try.prog 32 #[.pointer (some ⟨b902, 0, none⟩), .int .i64 power] w (Ret fun r w' => Upd (fun x => N ≤ x) w w' ∧ r = .bool true ∧ ShX w' N b902 { s with d := d', waits := false } (some j')) := by
  obtain ⟨pd, vb, vd, jp, h1, h3, h5, _⟩ := hX
  have hsz : N ≤ w.heap.size := by obtain ⟨_, _, _, hB, _⟩ := h1.ex; have := hB.lt; omega
  refine (sopen_ w h1 hpw hfr hln (.inr (.inl ⟨d', j', ho, hH⟩))).mono ?_
  rintro e w' ⟨v, hv, hU, hr, hS⟩
  refine ⟨v, hv, hU.mono (fun x _ hx => ?_), hr, ?_⟩
  · rcases hx with rfl | hx
    · exact h3
    · exact h5 x hx
  · rcases hS with ⟨d2, q1, _⟩ | ⟨d2, j2, pj, vl, us, q1, q2, q3, q4, q5⟩ | ⟨d2, j2, pj, vl, us, q1, q2, _⟩
    · rw [ho] at q1; simp at q1
    · rw [ho] at q1
      simp only [Prod.mk.injEq, true_and, Option.some.injEq] at q1
      obtain ⟨rfl, rfl⟩ := q1
      exact ⟨pd, vb, vd, _, q5, h3, h5, pj, vl, us, rfl, q3, by omega⟩
    · rw [hwt] at q2; exact absurd q2 (by decide)
structure WI (n : Nat) (s : Sp) (j : Jn) (c : Nat) : Prop where
  dn : s.d.n = n
  inv : JInv n j s.live s.first
  waits : s.waits = false
  ka : ∃ I, KA s j I c
theorem WI.openP {n c : Nat} {s : Sp} {j : Jn} (h : WI n s j c) (hn : 0 < n) (hc : c < 4294967295) (power : Int) : ∃ life, openL (s.d.setPw power) = (s.d.setPw power, 0, some ⟨j.live, life, 0, false⟩) ∧ HoldP ⟨j.live, life, 0, false⟩ s.live s.first ∧ WI n { s with d := s.d.setPw power, waits := false } ⟨j.live, life, 0, false⟩ (c + 1) := by
  have hd := h.dn
  obtain ⟨I, hk⟩ := h.ka
  have hl2 := hk.l2
  have hci := hk.ji.ci.same (by omega) (setPw_chg s.d power)
  have hag : ∀ q ∈ j.live, AG (s.d.setPw power) q := fun q hq => hk.ag q hq
  have hn' : (s.d.setPw power).n = n := hd
  have hlam : ∀ r ∈ I, r.h.life ≤ c := fun r hr => Nat.le_trans (hk.ji.lam r hr) hl2
  have hll : (lastL (s.d.setPw power) (s.d.setPw power).n).2 ≤ c := hci.life hlam
  have ho := hci.open_ag (by omega) (fun r hr => by have := hlam r hr; omega) hag
  obtain ⟨I0, hji, _⟩ := hci.open_ag2 (by omega)
  have hJ := h.inv.re (life := (lastL (s.d.setPw power) (s.d.setPw power).n).2 + 1) (m := 0) (by omega)
  exact ⟨_, ho, hJ.h, hn', hJ, rfl, I0, hji, hag, by show 1 ≤ _ + 1; omega, by show _ + 1 ≤ c + 1; omega⟩
structure RI (n i c : Nat) (s : Sp) (j : Jn) : Prop where
  w : WI n s j c
  pw : s.d.pw = -1
  cnt : s.cnt ≤ i
  num : s.first + s.live.length = 1 + i
  tot : totalL j.live ≤ 2
theorem RI.new {n : Nat} (h : 4 ≤ n) (h2 : n ≤ 1000) : RI n 0 1 { sp0 n with d := (newDk n).setPw (-1) } ⟨[], 1, 0, false⟩ := ⟨⟨newDk_n h h2, jinv_new, rfl, [], KA.new⟩, rfl, Nat.le_refl _, rfl, Nat.zero_le _⟩
theorem totalL_one (r : Rc) : totalL [r] = r.h.total := by simp [totalL]
theorem RI.app {n i c : Nat} {s s' : Sp} {j j' : Jn} {rec : List Nat} (h : RI n i c s j) (hn : 4 ≤ n) (hi : i ≤ 1000) (hc : c ≤ 1000) (hrec : rec.length < 96) (hb : ∀ x ∈ rec, x < 256) (hr : GRec s s' j j' (s.first + s.live.length) rec) :
    RI n (i + 1) c s' j' ∧ s'.live.length = 1 ∧ firstN j'.live = i + 1 ∧ lastN j'.live = i + 1 := by
  have hd := h.w.dn
  have hnum := h.num
  have hcnt := h.cnt
  have htot := h.tot
  obtain ⟨I, hk⟩ := h.w.ka
  have hJ : JInv s.d.n j s.live s.first := by rw [hd]; exact h.w.inv
  have hlst := hJ.h.lst
  have hfst := hJ.h.fst
  have hlen := hJ.h.len
  obtain ⟨I', k1, _, _⟩ := hk.app (by omega) hJ (Nat.le_add_right _ _) (Nat.le_refl _) (by omega) hb (by omega) (by omega) hr
  rcases hr with ⟨q, _, _⟩ | ⟨d', q1, rfl⟩
  · exfalso
    unfold appendL at q
    rw [if_neg (by rw [hJ.down]; simp), if_neg (by omega), if_neg (by omega), if_neg (by unfold freeI cntL; omega)] at q
    cases hw : writeL (ajobs s.d.n (newR s.d.n j rec ((s.first + s.live.length : Nat) : Int).toNat)) s.d with
    | mk d2 b =>
      rw [hw] at q
      cases b <;> simp at q
  · obtain ⟨a1, a2, a3, a4, a5, a6⟩ := append_inv (by omega) hJ (Nat.le_add_right _ _) (Nat.le_refl _) (by omega) hb (by omega) q1
    have hl1 : (s.live.drop (s.first + s.live.length - s.first) ++ [rec]).length = 1 := by simp
    have hf2 := a4.h.fst
    have hlst2 := a4.h.lst
    have hlv : j'.live = [newR s.d.n j rec (s.first + s.live.length)] := by
      rw [a3]
      show j.live.drop (s.first + s.live.length - firstN j.live) ++ _ = _
      rw [← hfst, Nat.add_sub_cancel_left, List.drop_of_length_le (by omega)]; rfl
    refine ⟨⟨⟨a5.trans hd, by rw [← hd]; exact a4, h.w.waits, I', k1⟩, (a6 (by rw [h.pw]; decide)).trans h.pw, by show s.cnt + 1 ≤ _; omega, ?_, ?_⟩, hl1, by omega, by rw [hl1] at hlst2; omega⟩
    · show s.first + s.live.length + (s.live.drop (s.first + s.live.length - s.first) ++ [rec]).length = _
      rw [hl1]; omega
    · rw [hlv, totalL_one]
      show cntL rec.length ≤ 2
      unfold cntL; omega
theorem RI.open {n i c : Nat} {s : Sp} {j : Jn} (h : RI n i c s j) (hn : 0 < n) (hc : c < 4294967295) : ∃ life, openL (s.d.setPw (-1)) = (s.d.setPw (-1), 0, some ⟨j.live, life, 0, false⟩) ∧ HoldP ⟨j.live, life, 0, false⟩ s.live s.first ∧ RI n i (c + 1) { s with d := s.d.setPw (-1), waits := false } ⟨j.live, life, 0, false⟩ := by
  obtain ⟨life, h1, h2, h3⟩ := h.w.openP hn hc (-1)
  exact ⟨life, h1, h2, h3, rfl, h.cnt, h.num, h.tot⟩
end Go.Proofs.Ytlplogplicgfiaa

namespace Go.Proofs.Ytlplogplicgfiaa
open Go Go.RowKit
set_option maxHeartbeats 1600000 in
theorem journalRing (w : World) {pl : Nat} {v : Value} {l : List Nat} (hr : Row w 1 v l.length (u8s l)) (hpl : pl < 256) (hll : l.length ≤ 9223372036854775807) (hlb : ∀ x ∈ l, x < 256) :
    Calls Try.prog 11 #[.int .u8 (pl : Nat), v] w (Ret fun r w' => Ext w w' ∧ r = .bool true) := by
  refine calls_E (args := [.int .u8 ((pl : Nat) : Int), v]) 91 Try.func11 rfl rfl (by simp) ?_
  have hE : Ext w w := Upd.refl w
  refine E.seq ?_
  refine E.regionP rfl ?_
  refine R.assign ?_
  refine R.nil ?_
  refine E.seq ?_
  refine E.regionP rfl ?_
  refine R.move ?_
  refine R.toI (n := pl) Try.underlying5 Try.underlying3 rfl (by omega) ?_
  refine R.remN (m := pl) (n := 8) rfl rfl (by omega) ?_
  refine R.addN (m := 4) (n := (pl % 8)) rfl rfl (by omega) ?_
  refine R.callE1 ent29 (begin_ _ (by omega) (by omega)) rfl nofun ?_
  rintro v14 w1 hx1 ⟨b902, rfl, hG0⟩
  have hsz0 := hE.size
  replace hE := hE.ext hx1
  have hX : ∃ s j c, ShX w1 w.heap.size b902 s (some j) ∧ c ≤ 2 * 0 + 1 ∧ RI (4 + pl % 8) 0 c s j := ⟨_, _, 1, by obtain ⟨pd, vb, vd, pj, vl, us, h1, h2, h3, h4, h5⟩ := hG0; exact ShG.x ⟨pd, vb, vd, pj, vl, us, h1, h2, Nat.le_trans hsz0 h3, Nat.le_trans hsz0 h4, fun x hx => Nat.le_trans hsz0 (h5 x hx)⟩, by decide, RI.new (by omega) (by omega)⟩
  obtain ⟨s, j, c, hX, hc, hK⟩ := hX
  refine R.move ?_
  refine R.extract rfl rfl ?_
  refine R.extract rfl rfl ?_
  refine R.assign ?_
  refine R.assign ?_
  refine R.nil ?_
  refine E.seq ?_
  refine E.seq ?_
  refine E.regionP rfl ?_
  refine R.move ?_
  refine R.not rfl ?_
  refine R.nil ?_
  refine E.condF rfl ?_
  refine E.skip ?_
  refine E.seq ?_
  refine E.seq ?_
  refine E.forget [(1, v), (5, .pointer (some ⟨b902, 0, none⟩))] ⟨rfl, rfl, trivial⟩ (fun e => ?_)
  refine E.regionP rfl ?_
  refine R.move ?_
  refine R.move ?_
  refine R.len Try.underlying55 hr rfl ?_
  refine R.minN (m := l.length) (n := 60) rfl rfl ?_
  have hsl9 := (hr.ext hE)
  obtain ⟨ar, cr, hvr, hcr, _, hcase⟩ := hsl9
  refine R.slc (l := 0) (r := min l.length 60) Try.underlying55 t5 rfl hvr rfl ⟨_, rfl⟩ (by omega) (by omega) ?_
  have hr2 : Row w 1 (Ytlplogplicgfiaa.cut 1 v 0 (min l.length 60)) (l.take (min l.length 60)).length (u8s (l.take (min l.length 60))) := by
    have h1 := hr.cut (l := 0) (r := min l.length 60) (by omega) (by omega)
    rw [Nat.zero_mul, List.drop_zero, Nat.sub_zero, Nat.mul_one, ← List.map_take] at h1
    rw [List.length_take, show min (min l.length 60) l.length = min l.length 60 by omega]; exact h1
  refine R.len Try.underlying55 hr2 rfl ?_
  refine R.move ?_
  refine R.nil ?_
  refine E.block ?_
  refine E.loop (fun n e wr => ∃ (i : Nat) (s : Sp) (j : Jn) (c : Nat), n = (l.take (min l.length 60)).length - i ∧ i ≤ (l.take (min l.length 60)).length ∧ c ≤ 2 * i + 1 ∧ RI (4 + pl % 8) i c s j ∧ ShX wr w.heap.size b902 s (some j) ∧ Ext w wr ∧ Has e [(5, .pointer (some ⟨b902, 0, none⟩)), (23, (Ytlplogplicgfiaa.cut 1 v 0 (min l.length 60))), (24, .int .i64 (((l.take (min l.length 60)).length : Nat) : Int)), (25, .int .i64 ((i : Nat) : Int))]) ((l.take (min l.length 60)).length) ?_ ?_
  · exact ⟨0, s, j, c, rfl, by omega, by omega, hK, hX, hE, rfl, rfl, rfl, rfl, trivial⟩
  · rintro n e wr ⟨i, s, j, c, rfl, hi, hc, hK, hX, hE, hH⟩
    obtain ⟨e, rfl⟩ := hH.ex
    clear hH
    refine E.seq ?_
    refine E.regionP rfl ?_
    refine R.lss (b := decide ((((i : Nat) : Int)) < ((((l.take (min l.length 60)).length : Nat) : Int)))) rfl rfl rfl ?_
    refine R.nil ?_
    refine E.seq ?_
    refine E.cond (b := decide ((((i : Nat) : Int)) < ((((l.take (min l.length 60)).length : Nat) : Int)))) rfl (fun hc26 => ?_) (fun hc26 => ?_)
    · replace hc26 := dT hc26
      have hx : ((l.take (min l.length 60)).getD i 0) < 256 := hlb _ (by rw [List.getD_eq_getElem?_getD, List.getElem?_eq_getElem (by omega)]; exact List.mem_of_mem_take (List.getElem_mem _))
      have hi60 : i < 60 := by have := List.length_take_le (min l.length 60) l; omega
      refine E.skip ?_
      refine E.seq ?_
      refine E.block ?_
      refine E.seq ?_
      obtain ⟨b900, vb, vd, jp, hS, hN1, hN2, b901, vl, us, rfl, hJ, hN3⟩ := hX
      obtain ⟨⟨vL, uL, vp, hB902, hV, hP⟩, hD⟩ := hS
      have hdn := hK.w.dn
      have hI := hK.w.inv
      have hnum := hK.num
      have hcnt := hK.cnt
      refine E.regionP rfl ?_
      refine R.move ?_
      refine R.ix (m := i) Try.underlying55 t5 (by decide) hr2 rfl rfl (by omega) ?_
      refine R.load (u := .int .u8 ((((l.take (min l.length 60)).getD i 0) : Nat) : Int)) t5 (hr2.ext hE) rfl (u8_getD (i := i) (by first | omega | decide)) rfl (fun _ _ => trivial) ?_
      refine R.assign ?_
      refine R.assign ?_
      refine R.nil ?_
      refine E.seq ?_
      refine E.seq ?_
      refine E.regionP rfl ?_
      refine R.move ?_
      refine R.move ?_
      refine R.toI (n := ((l.take (min l.length 60)).getD i 0)) Try.underlying5 Try.underlying3 rfl (by omega) ?_
      refine R.remN (m := (((l.take (min l.length 60)).getD i 0))) (n := 96) rfl rfl (by omega) ?_
      refine R.move ?_
      refine R.nilCheck rfl ?_
      refine R.fld fa69_2 rfl ?_
      refine R.loadB t67 hB902 rfl rfl rfl trivial ?_
      refine R.len Try.underlying67 hV.sl.row rfl ?_
      refine R.call4 ent30 (gappend_ _ (m := (((l.take (min l.length 60)).getD i 0)) % 96) (p := s.live.length) (N := w.heap.size) (ShX.g ⟨b900, vb, vd, _, ⟨⟨vL, uL, vp, hB902, hV, hP⟩, hD⟩, hN1, hN2, b901, vl, us, rfl, hJ, hN3⟩) (by rw [hdn]; exact hI) (by omega) hK.pw (by omega) (by omega) (by omega) (by omega)) rfl rfl rfl rfl ?_
      rintro v39 w2 ⟨hU2, rfl, rec, s2, j2, hl2, hb2, hr2, hG2⟩
      refine ⟨nofun, ?_⟩
      replace hE := hE.trans hU2 (fun x hx h => absurd hx (Nat.not_lt.2 h))
      clear hB902 hV hP hD hJ hN1 hN2 hN3
      rw [show s.first + s.live.length % (s.live.length + 1) = s.first + s.live.length by rw [Nat.mod_eq_of_lt (by omega)]] at hr2
      obtain ⟨hK2, hl21, hf2, hla2⟩ := hK.app (by omega) (by omega) (by omega) (by omega) hb2 hr2
      have hI2 := hK2.w.inv
      have hnum2 := hK2.num
      have hX2 := hG2.x
      obtain ⟨b900, vb, vd, jp, hS, hN1, hN2, b901, vl, us, rfl, hJ, hN3⟩ := hX2
      obtain ⟨⟨vL, uL, vp, hB902, hV, hP⟩, hD⟩ := hS
      refine R.not rfl ?_
      refine R.move ?_
      refine R.gT rfl rfl ?_
      refine R.move ?_
      refine R.gT rfl rfl ?_
      refine R.nilCheck rfl ?_
      refine R.gT rfl rfl ?_
      refine R.fld fa69_2 rfl ?_
      refine R.gT rfl rfl ?_
      refine R.loadB t67 hB902 rfl rfl rfl trivial ?_
      refine R.gT rfl rfl ?_
      refine R.len Try.underlying67 hV.sl.row rfl ?_
      refine R.gT rfl rfl ?_
      refine R.neq (b := !decide ((((s2.live.length : Nat) : Int)) = (((1 : Nat) : Int)))) rfl rfl rfl ?_
      refine R.pickF rfl ?_
      refine R.move ?_
      have hg49 := Bool.eq_false_or_eq_true (!decide ((((s2.live.length : Nat) : Int)) = (((1 : Nat) : Int))))
      rcases hg49 with hg49 | hg49
      · have hg49q := hg49
        replace hg49 := nT hg49
        exact absurd hg49 (by omega)
      · have hg49q := hg49
        replace hg49 := nF hg49
        refine R.gT rfl (congrArg Value.bool hg49q) ?_
        refine R.move ?_
        refine R.gT rfl (congrArg Value.bool hg49q) ?_
        refine R.nilCheck rfl ?_
        refine R.gT rfl (congrArg Value.bool hg49q) ?_
        refine R.fld fa69_1 rfl ?_
        refine R.gT rfl (congrArg Value.bool hg49q) ?_
        refine R.loadB t66 hB902 rfl rfl rfl trivial ?_
        refine R.gT rfl (congrArg Value.bool hg49q) ?_
        refine R.callE1 ent37 (lastN_ _ hJ hI2.h.ok.len) rfl nofun ?_
        rintro v54 w3 hx3 rfl
        replace hD := hD.ext hx3
        replace hV := hV.ext hx3
        replace hP := hP.ext hx3
        replace hJ := hJ.ext hx3
        replace hB902 := hB902.ext hx3
        replace hE := hE.ext hx3
        refine R.gT rfl (congrArg Value.bool hg49q) ?_
        refine R.move ?_
        refine R.gT rfl (congrArg Value.bool hg49q) ?_
        refine R.addN (m := i) (n := 1) rfl rfl (by omega) ?_
        refine R.gT rfl (congrArg Value.bool hg49q) ?_
        refine R.neq (b := !decide (((((lastN j2.live) : Nat) : Int)) = (((i + 1 : Nat) : Int)))) rfl rfl rfl ?_
        refine R.pickF (congrArg Value.bool hg49q) ?_
        refine R.move ?_
        have hg59 := Bool.eq_false_or_eq_true (!decide (((((lastN j2.live) : Nat) : Int)) = (((i + 1 : Nat) : Int))))
        rcases hg59 with hg59 | hg59
        · have hg59q := hg59
          replace hg59 := nT hg59
          exact absurd hg59 (by omega)
        · have hg59q := hg59
          replace hg59 := nF hg59
          refine R.gT rfl (congrArg Value.bool hg59q) ?_
          refine R.move ?_
          refine R.gT rfl (congrArg Value.bool hg59q) ?_
          refine R.nilCheck rfl ?_
          refine R.gT rfl (congrArg Value.bool hg59q) ?_
          refine R.fld fa69_1 rfl ?_
          refine R.gT rfl (congrArg Value.bool hg59q) ?_
          refine R.loadB t66 hB902 rfl rfl rfl trivial ?_
          refine R.gT rfl (congrArg Value.bool hg59q) ?_
          refine R.callE1 ent40 (first_ _ hJ hI2.h.ok.len) rfl nofun ?_
          rintro v64 w4 hx4 rfl
          replace hD := hD.ext hx4
          replace hV := hV.ext hx4
          replace hP := hP.ext hx4
          replace hJ := hJ.ext hx4
          replace hB902 := hB902.ext hx4
          replace hE := hE.ext hx4
          refine R.gT rfl (congrArg Value.bool hg59q) ?_
          refine R.move ?_
          refine R.gT rfl (congrArg Value.bool hg59q) ?_
          refine R.addN (m := i) (n := 1) rfl rfl (by omega) ?_
          refine R.gT rfl (congrArg Value.bool hg59q) ?_
          refine R.neq (b := !decide (((((firstN j2.live) : Nat) : Int)) = (((i + 1 : Nat) : Int)))) rfl rfl rfl ?_
          refine R.pickF (congrArg Value.bool hg59q) ?_
          refine R.nil ?_
          refine E.cond (b := !decide (((((firstN j2.live) : Nat) : Int)) = (((i + 1 : Nat) : Int)))) rfl (fun hc68 => ?_) (fun hc68 => ?_)
          · replace hc68 := nT hc68
            exact absurd hc68 (by omega)
          · replace hc68 := nF hc68
            refine E.skip ?_
            refine E.seq ?_
            refine E.forget [(5, .pointer (some ⟨b902, 0, none⟩)), (7, .int .i64 ((i : Nat) : Int)), (23, (Ytlplogplicgfiaa.cut 1 v 0 (min l.length 60))), (24, .int .i64 (((l.take (min l.length 60)).length : Nat) : Int)), (25, .int .i64 ((i : Nat) : Int))] ⟨rfl, rfl, rfl, rfl, rfl, trivial⟩ (fun e => ?_)
            refine E.regionP rfl ?_
            refine R.move ?_
            refine R.remN (m := i) (n := 7) rfl rfl (by omega) ?_
            refine R.eql (b := decide ((((i % 7 : Nat) : Int)) = (((0 : Nat) : Int)))) rfl rfl rfl ?_
            refine R.move ?_
            have hg72 := Bool.eq_false_or_eq_true (decide ((((i % 7 : Nat) : Int)) = (((0 : Nat) : Int))))
            rcases hg72 with hg72 | hg72
            · have hg72q := hg72
              replace hg72 := dT hg72
              refine R.gT rfl (congrArg Value.bool hg72q) ?_
              refine R.move ?_
              refine R.gT rfl (congrArg Value.bool hg72q) ?_
              obtain ⟨life, ho3, hH3, hK3⟩ := hK2.open (by omega) (by omega)
              refine R.call2 ent32 (openA_ _ (N := w.heap.size) (jo := some j2) ⟨b900, vb, vd, _, ⟨⟨vL, uL, vp, hB902, hV, hP⟩, hD⟩, hN1, hN2, b901, vl, us, rfl, hJ, hN3⟩ ho3 hH3 hK2.w.waits (by decide) (by omega) (by omega)) rfl rfl ?_
              rintro v74 w5 ⟨hU5, rfl, hX2⟩
              refine ⟨nofun, ?_⟩
              replace hE := hE.trans hU5 (fun x hx h => absurd hx (Nat.not_lt.2 h))
              clear hB902 hV hP hD hJ hN1 hN2 hN3
              obtain ⟨s3, hs3⟩ : ∃ q : Sp, q = { s2 with d := s2.d.setPw (-1), waits := false } := ⟨_, rfl⟩
              obtain ⟨j3, hj3⟩ : ∃ q : Jn, q = ⟨j2.live, life, 0, false⟩ := ⟨_, rfl⟩
              rw [← hs3, ← hj3] at hX2 hK3
              have hm3 : j3.mended = 0 := by rw [hj3]
              clear hs3 hj3
              obtain ⟨b900, vb, vd, jp, hS, hN1, hN2, b901, vl, us, rfl, hJ, hN3⟩ := hX2
              obtain ⟨⟨vL, uL, vp, hB902, hV, hP⟩, hD⟩ := hS
              refine R.gT rfl (congrArg Value.bool hg72q) ?_
              refine R.not rfl ?_
              refine R.gT rfl (congrArg Value.bool hg72q) ?_
              refine R.move ?_
              refine R.gT rfl rfl ?_
              refine R.move ?_
              refine R.gT rfl rfl ?_
              refine R.nilCheck rfl ?_
              refine R.gT rfl rfl ?_
              refine R.fld fa69_1 rfl ?_
              refine R.gT rfl rfl ?_
              refine R.loadB t66 hB902 rfl rfl rfl trivial ?_
              refine R.gT rfl rfl ?_
              refine R.callE1 ent34 (mended_ _ hJ) rfl nofun ?_
              rintro v81 w6 hx6 rfl
              replace hD := hD.ext hx6
              replace hV := hV.ext hx6
              replace hP := hP.ext hx6
              replace hJ := hJ.ext hx6
              replace hB902 := hB902.ext hx6
              replace hE := hE.ext hx6
              refine R.gT rfl rfl ?_
              refine R.neq (b := false) rfl rfl (by rw [hm3]; decide) ?_
              refine R.gT rfl (congrArg Value.bool hg72q) ?_
              refine R.pickF rfl ?_
              refine R.pickT (congrArg Value.bool hg72q) ?_
              refine R.nil ?_
              refine E.condF rfl ?_
              refine E.skip ?_
              refine E.forget [(5, .pointer (some ⟨b902, 0, none⟩)), (23, (Ytlplogplicgfiaa.cut 1 v 0 (min l.length 60))), (24, .int .i64 (((l.take (min l.length 60)).length : Nat) : Int)), (25, .int .i64 ((i : Nat) : Int))] ⟨rfl, rfl, rfl, rfl, trivial⟩ (fun e => ?_)
              refine E.regionP rfl ?_
              refine R.addN (m := i) (n := 1) rfl rfl (by omega) ?_
              refine R.move ?_
              refine R.nil ?_
              have hX : ShX w6 w.heap.size b902 s3 (some j3) := ⟨b900, vb, vd, _, ⟨⟨vL, uL, vp, hB902, hV, hP⟩, hD⟩, hN1, hN2, b901, vl, us, rfl, hJ, hN3⟩
              exact ⟨(l.take (min l.length 60)).length - (i + 1), by omega, i + 1, s3, j3, c + 1, rfl, by omega, by omega, hK3, hX, hE, rfl, rfl, rfl, rfl, trivial⟩
            · have hg72q := hg72
              replace hg72 := dF hg72
              refine R.gF rfl (congrArg Value.bool hg72q) rfl ?_
              refine R.gF rfl (congrArg Value.bool hg72q) rfl ?_
              refine R.gF rfl (congrArg Value.bool hg72q) rfl ?_
              refine R.gF rfl (congrArg Value.bool hg72q) rfl ?_
              refine R.gU rfl rfl ?_
              refine R.gU rfl rfl ?_
              refine R.gU rfl rfl ?_
              refine R.gU rfl rfl ?_
              refine R.gU rfl rfl ?_
              refine R.gU rfl rfl ?_
              refine R.gF rfl (congrArg Value.bool hg72q) rfl ?_
              refine R.pickF (congrArg Value.bool hg72q) ?_
              refine R.nil ?_
              refine E.condF rfl ?_
              refine E.skip ?_
              refine E.forget [(5, .pointer (some ⟨b902, 0, none⟩)), (23, (Ytlplogplicgfiaa.cut 1 v 0 (min l.length 60))), (24, .int .i64 (((l.take (min l.length 60)).length : Nat) : Int)), (25, .int .i64 ((i : Nat) : Int))] ⟨rfl, rfl, rfl, rfl, trivial⟩ (fun e => ?_)
              refine E.regionP rfl ?_
              refine R.addN (m := i) (n := 1) rfl rfl (by omega) ?_
              refine R.move ?_
              refine R.nil ?_
              have hX : ShX w4 w.heap.size b902 s2 (some j2) := ⟨b900, vb, vd, _, ⟨⟨vL, uL, vp, hB902, hV, hP⟩, hD⟩, hN1, hN2, b901, vl, us, rfl, hJ, hN3⟩
              exact ⟨(l.take (min l.length 60)).length - (i + 1), by omega, i + 1, s2, j2, c, rfl, by omega, by omega, hK2, hX, hE, rfl, rfl, rfl, rfl, trivial⟩
    · replace hc26 := dF hc26
      have hi60 : i ≤ 60 := by have := List.length_take_le (min l.length 60) l; omega
      refine E.exit ?_
      refine E.seq ?_
      refine E.regionP rfl ?_
      refine R.move ?_
      have hnum := hK.num
      obtain ⟨life, ho3, hH3, hK3⟩ := hK.open (by omega) (by omega)
      refine R.call2 ent32 (openA_ _ (N := w.heap.size) hX ho3 hH3 hK.w.waits (by decide) (by omega) (by omega)) rfl rfl ?_
      rintro v87 w7 ⟨hU7, rfl, hX2⟩
      refine ⟨nofun, ?_⟩
      replace hE := hE.trans hU7 (fun x hx h => absurd hx (Nat.not_lt.2 h))
      clear hX
      refine R.move ?_
      refine R.gT rfl rfl ?_
      refine R.callE0 ent13 (awake_ _)  nofun ?_
      rintro v89 w8 hx8 rfl
      replace hE := hE.ext hx8
      refine R.pickT rfl ?_
      refine R.assign ?_
      refine R.nil ?_
      refine E.ret ?_
      refine ret1 (.bool (true)) rfl rfl ⟨_, rfl, ?_⟩
      exact ⟨hE, rfl⟩
end Go.Proofs.Ytlplogplicgfiaa

namespace Go.Proofs.Ytlplogplicgfiaa
open Go Go.RowKit Go.ChangeShapes Go.WideShapes Go.ChangeAt Go.Joins Go.Deep
section
variable {H : Type} {enc : TypeId × Value → H}
instance : Inhabited Stp := ⟨Stp0⟩
end
end Go.Proofs.Ytlplogplicgfiaa
