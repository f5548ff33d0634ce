import Derived.Test.YtlplogplicgfiaaZ10P9
import Derived.Test.YtlplogplicgfiaaZ10KN
namespace Go.Proofs.Ytlplogplicgfiaa
open Go Go.RowKit
structure KA (s : Sp) (j : Jn) (I : List Rc) (c : Nat) : Prop where
  ji : JI s.d I j
  ag : ∀ q ∈ j.live, AG s.d q
  l1 : 1 ≤ j.life
  l2 : j.life ≤ c
structure KC (s : Sp) (j : Jn) (I : List Rc) : Prop where
  cl : ∀ i : Nat, i < 2 * s.d.n → s.d.read (i : Int) = some zeroB ∨ ∃ r ∈ I, ∃ k t, k < r.h.total ∧ t < 2 ∧ i = ix s.d r k t ∧ s.d.read (i : Int) = some (pcB r k)
  nu : ∀ r ∈ I, ∀ q ∈ I, r.h.number = q.h.number → r = q
  nl : ∀ r ∈ I, r.h.number ≤ lastN j.live
theorem KA.new {n : Nat} : KA { sp0 n with d := (newDk n).setPw (-1) } ⟨[], 1, 0, false⟩ [] 1 := ⟨JI.new _, by simp, Nat.le_refl _, Nat.le_refl _⟩
theorem KC.new {n : Nat} (h : 4 ≤ n) (h2 : n ≤ 1000) : KC { sp0 n with d := (newDk n).setPw (-1) } ⟨[], 1, 0, false⟩ [] := by
  refine ⟨fun i hi => .inl ?_, by simp, by simp⟩
  have hn := newDk_n h h2 (p := -1)
  have hi' : i < 2 * ((newDk n).setPw (-1)).n := hi
  rw [hn] at hi'
  exact read_new i h h2 hi'
theorem lastN_next {L : List Rc} {p : Rc} : lastN (nextR L p) = p.h.number := by
  unfold nextR lastN
  rw [show (L.drop (p.h.first - firstN L) ++ [p]).length - 1 = (L.drop (p.h.first - firstN L)).length by simp]
  rw [List.getD_eq_getElem?_getD (l := L.drop _ ++ _), List.getElem?_append_right (by omega), Nat.sub_self]; rfl
theorem KA.app {c g : Nat} {s s' : Sp} {j j' : Jn} {I : List Rc} {rec : List Nat} (h : KA s j I c) (hn : 0 < s.d.n) (hJ : JInv s.d.n j s.live s.first) (hg : s.first ≤ g) (hg2 : g ≤ s.first + s.live.length) (hrec : rec.length ≤ 4032) (hb : ∀ x ∈ rec, x < 256) (hm : s.first + s.live.length ≤ 4294967294) (hc : c < 4294967295) (hr : GRec s s' j j' g rec) :
    ∃ I', KA s' j' I' c ∧ (KC s j I → KC s' j' I') ∧ j'.life = j.life := by
  have hl2 := h.l2
  rcases hr with ⟨_, rfl, rfl⟩ | ⟨d', q1, rfl⟩
  · exact ⟨I, ⟨h.ji, h.ag, h.l1, h.l2⟩, fun hC => ⟨hC.cl, hC.nu, hC.nl⟩, rfl⟩
  · obtain ⟨a1, a2, a3, _, _, _⟩ := append_inv hn hJ hg hg2 hrec hb (by omega) q1
    obtain ⟨b1, b2, b3, b4, b5, b6, b7⟩ := h.ji.append hn hJ hg hg2 hrec hb hm (by omega) h.l1 a1 a2
    obtain ⟨b5, b8⟩ := b5 rfl
    subst a3
    refine ⟨newR s.d.n j rec g :: I, ⟨b5, fun q hq => ?_, h.l1, h.l2⟩, fun hC => ⟨fun i hi => ?_, fun r hr q hq e => ?_, fun r hr => ?_⟩, rfl⟩
    · rcases next_mem (p := newR s.d.n j rec g) (L := j.live) hq with h1 | h1
      · exact b7 q h1 (h.ag q h1)
      · rw [h1]; exact b8
    · have hi' : i < 2 * s.d.n := by rw [← b1]; exact hi
      have hix : ∀ r k t, ix d' r k t = ix s.d r k t := b6.ix
      rcases b6.2 i hi' with h1 | ⟨y, k, t, h1, h2, h3, h4, _, _⟩
      · show d'.read (i : Int) = some zeroB ∨ ∃ r ∈ newR s.d.n j rec g :: I, ∃ k t, k < r.h.total ∧ t < 2 ∧ i = ix d' r k t ∧ d'.read (i : Int) = some (pcB r k)
        rw [h1]
        rcases hC.cl i hi' with h2 | ⟨r, hr, k, t, h2, h3, h4, h5⟩
        · exact .inl h2
        · exact .inr ⟨r, List.mem_cons_of_mem _ hr, k, t, h2, h3, by rw [hix]; exact h4, h5⟩
      · right
        have h1 : y = _ := h1
        subst h1
        refine ⟨_, List.mem_cons_self, k, t, h2, h3, by rw [hix]; exact h4, ?_⟩
        have := b8 k t h2 h3
        unfold GB at this
        rw [hix, ← h4] at this
        exact this
    · have hnn : (newR s.d.n j rec g).h.number = lastN j.live + 1 := rfl
      rcases List.mem_cons.1 hr with h1 | h1 <;> rcases List.mem_cons.1 hq with h2 | h2
      · rw [h1, h2]
      · have := hC.nl q h2; rw [h1] at e; omega
      · have := hC.nl r h1; rw [h2] at e; omega
      · exact hC.nu r h1 q h2 e
    · show r.h.number ≤ lastN (nextR j.live (newR s.d.n j rec g))
      rw [lastN_next]
      show r.h.number ≤ lastN j.live + 1
      rcases List.mem_cons.1 hr with h1 | h1
      · rw [h1]; exact Nat.le_refl _
      · have := hC.nl r h1; omega
theorem jobs_pair {n : Nat} {R : List Rc} (hn : 0 < n) (h : Con n R) : (jobsL n R).Pairwise (fun a b => a.1 ≠ b.1) := by
  unfold jobsL
  rw [List.pairwise_flatMap]
  constructor
  · intro y hy
    unfold jobsR
    rw [List.pairwise_flatMap]
    constructor
    · intro k _
      have hk := Nat.mod_lt (y.at_ + k) hn
      simp [jobs2]; omega
    · refine List.Pairwise.imp_of_mem (R := fun a b => a < b) (fun {k l} hk hl hkl x hx z hz e => ?_) List.pairwise_lt_range
      have hk := List.mem_range.1 hk
      have hl := List.mem_range.1 hl
      simp only [jobs2, List.mem_cons, List.not_mem_nil, or_false] at hx hz
      have hp : (y.at_ + k) % n = (y.at_ + l) % n := by
        have h1 := Nat.mod_lt (y.at_ + k) hn
        have h2 := Nat.mod_lt (y.at_ + l) hn
        rcases hx with rfl | rfl <;> rcases hz with rfl | rfl <;> simp only at e <;> omega
      have := (h.mem hy hy hk hl hp).2
      omega
  · rw [List.pairwise_iff_getElem]
    intro i j hi hj hij x hx z hz e
    obtain ⟨k, t, hk, ht, rfl⟩ := mem_jobsR.1 hx
    obtain ⟨l, u, hl, hu, rfl⟩ := mem_jobsR.1 hz
    have ei : R.getD i Rc0 = R[i] := by rw [List.getD_eq_getElem?_getD, List.getElem?_eq_getElem hi]; rfl
    have ej : R.getD j Rc0 = R[j] := by rw [List.getD_eq_getElem?_getD, List.getElem?_eq_getElem hj]; rfl
    have := (h.disj hi hj (by rw [ei]; exact hk) (by rw [ej]; exact hl) (by rw [ei, ej]; exact (ix_inj (Nat.mod_lt _ hn) (Nat.mod_lt _ hn) e).1)).1
    omega
def todo (d : Dk) (x : Nat × List Nat) : Bool := decide (d.read ((x.1 : Nat) : Int) ≠ some x.2)
theorem mend_cnt : ∀ {J : List (Nat × List Nat)} {d : Dk} {m : Nat}, d.pw < 0 → J.Pairwise (fun a b => a.1 ≠ b.1) → (∀ x ∈ J, x.1 < 2 * d.n) → (mendL J d m).2 = (m + J.countP (todo d), true) ∧ (mendL J d m).1.pw = d.pw
  | [], d, m, _, _, _ => ⟨rfl, rfl⟩
  | (i, b) :: J, d, m, hp, hP, hJ => by
    have hi : i < 2 * d.n := hJ (i, b) List.mem_cons_self
    have hJ2 : ∀ x ∈ J, x.1 < 2 * d.n := fun x hx => hJ x (List.mem_cons_of_mem _ hx)
    rw [List.pairwise_cons] at hP
    simp only [mendL]
    by_cases hr : d.read (i : Int) = some b
    · rw [if_pos hr]
      obtain ⟨h1, h2⟩ := mend_cnt (J := J) (d := d) (m := m) hp hP.2 hJ2
      rw [h1, List.countP_cons_of_neg (by unfold todo; simp [hr])]
      exact ⟨rfl, h2⟩
    · rw [if_neg hr]
      obtain ⟨w1, w2⟩ := Dk.write_neg (b := b) hp hi
      rw [if_pos w1]
      obtain ⟨r1, r2, _⟩ := write_rel (b := b) hi
      obtain ⟨h1, h2⟩ := mend_cnt (J := J) (d := (d.write (i : Int) b).1) (m := m + 1) (by rw [w2]; exact hp) hP.2 (fun x hx => by rw [r1]; exact hJ2 x hx)
      have hc : J.countP (todo (d.write (i : Int) b).1) = J.countP (todo d) := List.countP_congr (fun x hx => by
        unfold todo
        rw [r2 x.1 (hJ2 x hx) (fun e => hP.1 x hx e.symm)])
      rw [h1, hc, List.countP_cons_of_pos (by unfold todo; simp [hr])]
      exact ⟨by rw [show m + 1 + List.countP (todo d) J = m + (List.countP (todo d) J + 1) by omega], h2.trans w2⟩
theorem mend_none : ∀ {J : List (Nat × List Nat)} {d : Dk} {m : Nat}, (∀ x ∈ J, d.read ((x.1 : Nat) : Int) = some x.2) → mendL J d m = (d, m, true)
  | [], d, m, _ => rfl
  | (i, b) :: J, d, m, h => by
    have hr := h (i, b) List.mem_cons_self
    simp only [mendL]
    rw [if_pos hr]
    exact mend_none (fun x hx => h x (List.mem_cons_of_mem _ hx))
theorem CI.open_cnt {d : Dk} {I L : List Rc} (h : CI d I L NoP) (hn : 0 < d.n) (hlam : ∀ r ∈ I, r.h.life < 4294967295) (hp : d.pw < 0) :
    ∃ d' I0, openL d = (d', 0, some ⟨L, (lastL d d.n).2 + 1, (jobsL d.n L).countP (todo d), false⟩) ∧ d'.n = d.n ∧ JI d' I0 ⟨L, (lastL d d.n).2 + 1, (jobsL d.n L).countP (todo d), false⟩ ∧ (∀ r ∈ I0, r ∈ I) ∧ (∀ q ∈ L, AG d' q) ∧ d'.pw = d.pw := by
  obtain ⟨c1, c2⟩ := mend_cnt (J := jobsL d.n L) (d := d) (m := 0) hp (jobs_pair hn h.con) (jobsL_in hn)
  rcases h.open0 hn hlam with ⟨d', _, h2, _⟩ | ⟨d', m, I0, h1, h2, h3, h4, h5, h6⟩
  · omega
  · rw [h2] at c1 c2
    simp only [Nat.zero_add, Prod.mk.injEq, and_true] at c1
    subst c1
    exact ⟨d', I0, h1, h3, h4, h5, h6, c2⟩
theorem CI.open_ag {d : Dk} {I L : List Rc} (h : CI d I L NoP) (hn : 0 < d.n) (hlam : ∀ r ∈ I, r.h.life < 4294967295) (hag : ∀ q ∈ L, AG d q) :
    openL d = (d, 0, some ⟨L, (lastL d d.n).2 + 1, 0, false⟩) := by
  have h0 : (lastL d d.n).2 ≤ 4294967294 := h.life (lam := 4294967294) (fun r hr => by have := hlam r hr; omega)
  refine openL_ok (by omega) (h.openC hn) (by omega) (mend_none (fun x hx => ?_))
  obtain ⟨y, hy, k, t, hk, ht, rfl⟩ := mem_jobsL.1 hx
  exact hag y hy k t hk ht
theorem CI.open_ag2 {d : Dk} {I L : List Rc} (h : CI d I L NoP) (hn : 0 < d.n) : ∃ I0, JI d I0 ⟨L, (lastL d d.n).2 + 1, 0, false⟩ ∧ (∀ r ∈ I0, r ∈ I) := by
  obtain ⟨I0, c1, c2, c3⟩ := h.prune hn
  exact ⟨I0, ⟨c1, fun r hr => .inl (Nat.lt_succ_of_le (c2 r hr).2)⟩, fun r hr => (c2 r hr).1⟩
theorem cnt_one {J : List (Nat × List Nat)} {p : Nat × List Nat → Bool} (hP : J.Pairwise (fun a b => a.1 ≠ b.1)) {x : Nat × List Nat} (hx : x ∈ J) (hp : ∀ z ∈ J, p z = decide (z.1 = x.1)) : J.countP p = 1 := by
  induction J with
  | nil => exact absurd hx (by simp)
  | cons a J ih =>
    rw [List.pairwise_cons] at hP
    have ha := hp a List.mem_cons_self
    rcases List.mem_cons.1 hx with rfl | hx
    · rw [List.countP_cons_of_pos (by rw [ha]; simp), List.countP_eq_zero.2 (fun z hz => ?_)]
      rw [hp z (List.mem_cons_of_mem _ hz)]
      have := hP.1 z hz
      simp; exact fun e => this e.symm
    · have hne := hP.1 x hx
      rw [List.countP_cons_of_neg (by rw [ha]; simp; exact hne)]
      exact ih hP.2 hx (fun z hz => hp z (List.mem_cons_of_mem _ hz))
end Go.Proofs.Ytlplogplicgfiaa

namespace Go.Proofs.Ytlplogplicgfiaa
open Go Go.RowKit
theorem ShX.g {w : World} {N p : Nat} {s : Sp} {j : Jn} (h : ShX w N p s (some j)) : ShG w N p s j := by
  obtain ⟨pd, vb, vd, jp, h1, h3, h5, pj, vl, us, rfl, h2, h4⟩ := h
  exact ⟨pd, vb, vd, pj, vl, us, h1, h2, h3, h4, h5⟩
theorem openA_ (w : World) {N b902 : Nat} {s : Sp} {jo : Option Jn} {power : Int} {d' : Dk} {j' : Jn} (hX : ShX w N b902 s jo) (ho : openL (s.d.setPw power) = (d', 0, some j')) (hH : HoldP j' s.live s.first) (hwt : s.waits = false) (hpw : power ≤ 9223372036854775807) (hfr : s.first ≤ 9000000000) (hln : s.live.length ≤ 100000) :
    Calls Try.prog 32 #[.pointer (some ⟨b902, 0, none⟩), .int .i64 power] w (Ret fun r w' => Upd (fun x => N ≤ x) w w' ∧ r = .bool true ∧ ShX w' N b902 { s with d := d', waits := false } (some j')) := by
  obtain ⟨pd, vb, vd, jp, h1, h3, h5, _⟩ := hX
  have hsz : N ≤ w.heap.size := by obtain ⟨_, _, _, hB, _⟩ := h1.ex; have := hB.lt; omega
  refine (sopen_ w h1 hpw hfr hln (.inr (.inl ⟨d', j', ho, hH⟩))).mono ?_
  rintro e w' ⟨v, hv, hU, hr, hS⟩
  refine ⟨v, hv, hU.mono (fun x _ hx => ?_), hr, ?_⟩
  · rcases hx with rfl | hx
    · exact h3
    · exact h5 x hx
  · rcases hS with ⟨d2, q1, _⟩ | ⟨d2, j2, pj, vl, us, q1, q2, q3, q4, q5⟩ | ⟨d2, j2, pj, vl, us, q1, q2, _⟩
    · rw [ho] at q1; simp at q1
    · rw [ho] at q1
      simp only [Prod.mk.injEq, true_and, Option.some.injEq] at q1
      obtain ⟨rfl, rfl⟩ := q1
      exact ⟨pd, vb, vd, _, q5, h3, h5, pj, vl, us, rfl, q3, by omega⟩
    · rw [hwt] at q2; exact absurd q2 (by decide)
structure WI (n : Nat) (s : Sp) (j : Jn) (c : Nat) : Prop where
  dn : s.d.n = n
  inv : JInv n j s.live s.first
  waits : s.waits = false
  ka : ∃ I, KA s j I c
theorem WI.openP {n c : Nat} {s : Sp} {j : Jn} (h : WI n s j c) (hn : 0 < n) (hc : c < 4294967295) (power : Int) : ∃ life, openL (s.d.setPw power) = (s.d.setPw power, 0, some ⟨j.live, life, 0, false⟩) ∧ HoldP ⟨j.live, life, 0, false⟩ s.live s.first ∧ WI n { s with d := s.d.setPw power, waits := false } ⟨j.live, life, 0, false⟩ (c + 1) := by
  have hd := h.dn
  obtain ⟨I, hk⟩ := h.ka
  have hl2 := hk.l2
  have hci := hk.ji.ci.same (by omega) (setPw_chg s.d power)
  have hag : ∀ q ∈ j.live, AG (s.d.setPw power) q := fun q hq => hk.ag q hq
  have hn' : (s.d.setPw power).n = n := hd
  have hlam : ∀ r ∈ I, r.h.life ≤ c := fun r hr => Nat.le_trans (hk.ji.lam r hr) hl2
  have hll : (lastL (s.d.setPw power) (s.d.setPw power).n).2 ≤ c := hci.life hlam
  have ho := hci.open_ag (by omega) (fun r hr => by have := hlam r hr; omega) hag
  obtain ⟨I0, hji, _⟩ := hci.open_ag2 (by omega)
  have hJ := h.inv.re (life := (lastL (s.d.setPw power) (s.d.setPw power).n).2 + 1) (m := 0) (by omega)
  exact ⟨_, ho, hJ.h, hn', hJ, rfl, I0, hji, hag, by show 1 ≤ _ + 1; omega, by show _ + 1 ≤ c + 1; omega⟩
structure RI (n i c : Nat) (s : Sp) (j : Jn) : Prop where
  w : WI n s j c
  pw : s.d.pw = -1
  cnt : s.cnt ≤ i
  num : s.first + s.live.length = 1 + i
  tot : totalL j.live ≤ 2
theorem RI.new {n : Nat} (h : 4 ≤ n) (h2 : n ≤ 1000) : RI n 0 1 { sp0 n with d := (newDk n).setPw (-1) } ⟨[], 1, 0, false⟩ := ⟨⟨newDk_n h h2, jinv_new, rfl, [], KA.new⟩, rfl, Nat.le_refl _, rfl, Nat.zero_le _⟩
theorem totalL_one (r : Rc) : totalL [r] = r.h.total := by simp [totalL]
theorem RI.app {n i c : Nat} {s s' : Sp} {j j' : Jn} {rec : List Nat} (h : RI n i c s j) (hn : 4 ≤ n) (hi : i ≤ 1000) (hc : c ≤ 1000) (hrec : rec.length < 96) (hb : ∀ x ∈ rec, x < 256) (hr : GRec s s' j j' (s.first + s.live.length) rec) :
    RI n (i + 1) c s' j' ∧ s'.live.length = 1 ∧ firstN j'.live = i + 1 ∧ lastN j'.live = i + 1 := by
  have hd := h.w.dn
  have hnum := h.num
  have hcnt := h.cnt
  have htot := h.tot
  obtain ⟨I, hk⟩ := h.w.ka
  have hJ : JInv s.d.n j s.live s.first := by rw [hd]; exact h.w.inv
  have hlst := hJ.h.lst
  have hfst := hJ.h.fst
  have hlen := hJ.h.len
  obtain ⟨I', k1, _, _⟩ := hk.app (by omega) hJ (Nat.le_add_right _ _) (Nat.le_refl _) (by omega) hb (by omega) (by omega) hr
  rcases hr with ⟨q, _, _⟩ | ⟨d', q1, rfl⟩
  · exfalso
    unfold appendL at q
    rw [if_neg (by rw [hJ.down]; simp), if_neg (by omega), if_neg (by omega), if_neg (by unfold freeI cntL; omega)] at q
    cases hw : writeL (ajobs s.d.n (newR s.d.n j rec ((s.first + s.live.length : Nat) : Int).toNat)) s.d with
    | mk d2 b =>
      rw [hw] at q
      cases b <;> simp at q
  · obtain ⟨a1, a2, a3, a4, a5, a6⟩ := append_inv (by omega) hJ (Nat.le_add_right _ _) (Nat.le_refl _) (by omega) hb (by omega) q1
    have hl1 : (s.live.drop (s.first + s.live.length - s.first) ++ [rec]).length = 1 := by simp
    have hf2 := a4.h.fst
    have hlst2 := a4.h.lst
    have hlv : j'.live = [newR s.d.n j rec (s.first + s.live.length)] := by
      rw [a3]
      show j.live.drop (s.first + s.live.length - firstN j.live) ++ _ = _
      rw [← hfst, Nat.add_sub_cancel_left, List.drop_of_length_le (by omega)]; rfl
    refine ⟨⟨⟨a5.trans hd, by rw [← hd]; exact a4, h.w.waits, I', k1⟩, (a6 (by rw [h.pw]; decide)).trans h.pw, by show s.cnt + 1 ≤ _; omega, ?_, ?_⟩, hl1, by omega, by rw [hl1] at hlst2; omega⟩
    · show s.first + s.live.length + (s.live.drop (s.first + s.live.length - s.first) ++ [rec]).length = _
      rw [hl1]; omega
    · rw [hlv, totalL_one]
      show cntL rec.length ≤ 2
      unfold cntL; omega
theorem RI.open {n i c : Nat} {s : Sp} {j : Jn} (h : RI n i c s j) (hn : 0 < n) (hc : c < 4294967295) : ∃ life, openL (s.d.setPw (-1)) = (s.d.setPw (-1), 0, some ⟨j.live, life, 0, false⟩) ∧ HoldP ⟨j.live, life, 0, false⟩ s.live s.first ∧ RI n i (c + 1) { s with d := s.d.setPw (-1), waits := false } ⟨j.live, life, 0, false⟩ := by
  obtain ⟨life, h1, h2, h3⟩ := h.w.openP hn hc (-1)
  exact ⟨life, h1, h2, h3, rfl, h.cnt, h.num, h.tot⟩
end Go.Proofs.Ytlplogplicgfiaa

namespace Go.Proofs.Ytlplogplicgfiaa
open Go Go.RowKit
def cntS (l : List (List Nat)) : Nat := (l.map (fun x => cntL x.length)).sum
theorem cntS_take {l : List (List Nat)} {i : Nat} (h : i < l.length) : cntS (l.take (i + 1)) = cntS (l.take i) + cntL (l.getD i []).length := by
  unfold cntS
  rw [List.take_add_one, List.map_append, List.sum_append, List.getD_eq_getElem?_getD, List.getElem?_eq_getElem h]
  simp
theorem totalL_takeS {n : Nat} {j : Jn} {l : List (List Nat)} {f : Nat} (h : JInv n j l f) : ∀ {i : Nat}, i ≤ l.length → totalL (j.live.take i) = cntS (l.take i)
  | 0, _ => rfl
  | i + 1, hi => by
    have hl := h.h.len
    rw [totalL_take (by omega), cntS_take (by omega), totalL_takeS h (by omega), h.tot i (by omega), h.h.dat i (by omega)]
theorem totalL_S {n : Nat} {j : Jn} {l : List (List Nat)} {f : Nat} (h : JInv n j l f) : totalL j.live = cntS l := by
  have h1 := totalL_takeS h (Nat.le_refl l.length)
  have hl := h.h.len
  rw [List.take_of_length_le (by omega), List.take_of_length_le (by omega)] at h1
  exact h1
theorem cntS_le {n : Nat} {j : Jn} {l : List (List Nat)} {f : Nat} (h : JInv n j l f) (i : Nat) : cntS (l.take i) ≤ n := by
  have h1 := totalL_S h
  have h2 := h.free
  have h3 : cntS (l.take i) + cntS (l.drop i) = cntS l := by
    unfold cntS
    rw [← List.sum_append, ← List.map_append, List.take_append_drop]
  unfold freeI at h2
  omega
end Go.Proofs.Ytlplogplicgfiaa
