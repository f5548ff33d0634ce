import Derived.Test.YtlplogplicgfiaaZ11KN
namespace Go.Proofs.Ytlplogplicgfiaa
open Go Go.RowKit
theorem JInv.re {n : Nat} {j : Jn} {l : List (List Nat)} {f : Nat} (h : JInv n j l f) {life m : Nat} (hl : life ≤ 4294967296) : JInv n ⟨j.live, life, m, false⟩ l f :=
  ⟨⟨⟨h.h.ok.len, h.h.ok.tot, h.h.ok.num, h.h.ok.fst, h.h.ok.max, hl⟩, h.h.fst, h.h.len, h.h.dat, h.h.b⟩, h.free, h.at_, h.tot, h.byt, rfl, h.con⟩
structure KN0 (n c : Nat) (s : Sp) (I L : List Rc) : Prop where
  inv : JInv n ⟨L, 1, 0, false⟩ s.live s.first
  life : ∀ r ∈ I, r.h.life ≤ 1 + c
  st : (s.waits = false ∧ CI s.d I L NoP) ∨ (s.waits = true ∧ ∃ p, Pd n I L p ∧ CI s.d I L (fun r => r = p) ∧ p.h.first = s.frm ∧ s.first ≤ s.frm ∧ s.frm ≤ s.first + s.live.length ∧ JInv n ⟨nextR L p, 1, 0, false⟩ (s.live.drop (s.frm - s.first) ++ [s.pend]) s.frm)
structure KN1 (n c : Nat) (s : Sp) (j : Jn) (I : List Rc) : Prop where
  inv : JInv n j s.live s.first
  life : j.life ≤ 1 + c
  life1 : 1 ≤ j.life
  waits : s.waits = false
  ji : JI s.d I j
structure KS (n c : Nat) (s : Sp) (jo : Option Jn) : Prop where
  dn : s.d.n = n
  pw : s.d.pw ≤ 9223372036854775807
  cnt : s.cnt ≤ c
  num : s.first + s.live.length ≤ 1 + c
  st : match jo with
    | some j => ∃ I, KN1 n c s j I
    | none => ∃ I L, KN0 n c s I L
theorem JI.lam {d : Dk} {I : List Rc} {j : Jn} (h : JI d I j) : ∀ r ∈ I, r.h.life ≤ j.life := fun r hr => by rcases h.life r hr with h1 | h1 <;> omega
theorem KS.more {n c : Nat} {s : Sp} {jo : Option Jn} (h : KS n c s jo) : KS n (c + 1) s jo := by
  refine ⟨h.dn, h.pw, Nat.le_succ_of_le h.cnt, by have := h.num; omega, ?_⟩
  cases jo with
  | none =>
    obtain ⟨I, L, hk⟩ := h.st
    exact ⟨I, L, hk.inv, fun r hr => by have := hk.life r hr; omega, hk.st⟩
  | some j =>
    obtain ⟨I, hk⟩ := h.st
    exact ⟨I, hk.inv, by have := hk.life; omega, hk.life1, hk.waits, hk.ji⟩
theorem KS.disk {n c : Nat} {s : Sp} {jo : Option Jn} {d' : Dk} (h : KS n c s jo) (hn : 0 < n) (hc : Chg s.d d' NoP) (hp : d'.pw ≤ 9223372036854775807) : KS n c { s with d := d' } jo := by
  have hd := h.dn
  refine ⟨hc.1.trans h.dn, hp, h.cnt, h.num, ?_⟩
  cases jo with
  | none =>
    obtain ⟨I, L, hk⟩ := h.st
    refine ⟨I, L, hk.inv, hk.life, ?_⟩
    rcases hk.st with ⟨h1, h2⟩ | ⟨h1, p, h2, h3, h4⟩
    · exact .inl ⟨h1, h2.same (by omega) hc⟩
    · exact .inr ⟨h1, p, h2, h3.same (by omega) hc, h4⟩
  | some j =>
    obtain ⟨I, hk⟩ := h.st
    exact ⟨I, hk.inv, hk.life, hk.life1, hk.waits, hk.ji.ci.same (by omega) hc, hk.ji.life⟩
theorem setPw_chg (d : Dk) (p : Int) : Chg d (d.setPw p) NoP := Chg.none rfl (fun _ => rfl)
theorem mendL_pwz {z : Int} (hz : 0 ≤ z) : ∀ {J : List (Nat × List Nat)} {d : Dk} {m : Nat}, d.pw ≤ z → (mendL J d m).1.pw ≤ z
  | [], d, m, h => h
  | (i, b) :: J, d, m, h => by
    simp only [mendL]
    split
    · exact mendL_pwz hz h
    · split
      · exact mendL_pwz hz (Dk.write_pw _ _ _ hz h)
      · exact Dk.write_pw _ _ _ hz h
theorem openL_pw {d : Dk} {z : Int} (hz : 0 ≤ z) (h : d.pw ≤ z) : (openL d).1.pw ≤ z := by
  have hm := mendL_pwz hz (J := jobsL d.n ((openC d).getD [])) (d := d) (m := 0) h
  unfold openL
  split
  · exact h
  · split
    · exact h
    · rename_i l hl
      rw [hl] at hm
      simp only [Option.getD_some] at hm
      split
      · exact h
      · cases hx : mendL (jobsL d.n l) d 0 with
        | mk d' x =>
          rw [hx] at hm
          obtain ⟨m, b⟩ := x
          cases b <;> exact hm
theorem read_new {n : Nat} (i : Nat) (h4 : 4 ≤ n) (h9 : n ≤ 1000) {p : Int} (hi : i < 2 * n) : ((newDk n).setPw p).read (i : Int) = some zeroB := by
  have hn := newDk_n h4 h9 (p := p)
  unfold Dk.read
  rw [hn, if_pos ⟨by omega, by omega⟩, Int.toNat_natCast]
  have h1 : ((newDk n).setPw p).bad.getD i true = false := by
    show (List.replicate (2 * n) false).getD i true = false
    rw [List.getD_eq_getElem?_getD, List.getElem?_replicate, if_pos hi]; rfl
  have h2 : ((newDk n).setPw p).bl.getD i [] = zeroB := by
    show (List.replicate (2 * n) zeroB).getD i [] = zeroB
    rw [List.getD_eq_getElem?_getD, List.getElem?_replicate, if_pos hi]; rfl
  rw [h1, h2]; rfl
theorem JI.new {n : Nat} (p : Int) : JI ((newDk n).setPw p) [] ⟨[], 1, 0, false⟩ := by
  refine ⟨⟨⟨by simp, by simp, fun pl t g k dt _ _ h => ?_⟩, ⟨by simp, by simp, by simp, by simp, Nat.zero_le _⟩, by simp, by simp⟩, by simp⟩
  rw [tk_new] at h; exact absurd h (by simp)
theorem KS.new {n : Nat} (h : 4 ≤ n) (h2 : n ≤ 1000) : KS n 0 { sp0 n with d := (newDk n).setPw (-1) } (some ⟨[], 1, 0, false⟩) :=
  ⟨newDk_n h h2, by show (-1 : Int) ≤ _; decide, Nat.le_refl _, Nat.le_refl _, [], jinv_new, Nat.le_refl _, Nat.le_refl _, rfl, JI.new _⟩
theorem KS.app {n c : Nat} {s : Sp} {j : Jn} {g : Nat} {rec : List Nat} {power : Int} (h : KS n c s (some j)) (hn : 0 < n) (hc : c ≤ 1000000) (hg : s.first ≤ g) (hg2 : g ≤ s.first + s.live.length) (hrec : rec.length ≤ 4032) (hb : ∀ x ∈ rec, x < 256) (hp : power ≤ 9223372036854775807) :
    AppC (s.d.setPw power) j s.live s.first g power rec ∧
    (∀ j', appendL (s.d.setPw power) j rec ((g : Nat) : Int) = (s.d.setPw power, j', 0, 4) → j' = j → KS n (c + 1) { s with d := s.d.setPw power, cnt := s.cnt + 1 } (some j)) ∧
    (∀ d' j', appendL (s.d.setPw power) j rec ((g : Nat) : Int) = (d', j', s.first + s.live.length, 0) → KS n (c + 1) { s with d := d', live := s.live.drop (g - s.first) ++ [rec], first := g, cnt := s.cnt + 1 } (some j')) ∧
    (∀ d' j', appendL (s.d.setPw power) j rec ((g : Nat) : Int) = (d', j', 0, 420) → 0 ≤ power ∧ KS n (c + 1) { s with d := d', pend := rec, waits := true, frm := g, cnt := s.cnt + 1 } none) := by
  have hd := h.dn
  have hcnt := h.cnt
  have hnum := h.num
  obtain ⟨I, hk⟩ := h.st
  have hlf := hk.life
  have hinv := hk.inv
  have hinv' : JInv s.d.n j s.live s.first := by rw [hd]; exact hinv
  have hlst := hinv.h.lst
  have hfst := hinv.h.fst
  have hA : AppC (s.d.setPw power) j s.live s.first g power rec := appC (by omega) hinv' hg hg2 hrec hb (by omega) hp
  refine ⟨hA, fun j' _ _ => ?_, ?_, ?_⟩
  · have h2 := (h.disk hn (setPw_chg s.d power) hp).more
    exact ⟨h2.dn, h2.pw, by show s.cnt + 1 ≤ _; omega, h2.num, by
      obtain ⟨I2, hk2⟩ := h2.st
      exact ⟨I2, hk2.inv, hk2.life, hk2.life1, hk2.waits, hk2.ji⟩⟩
  all_goals
    intro d' j' ha
    have hn' : (s.d.setPw power).n = s.d.n := rfl
    rcases (show freeI (s.d.setPw power).n j.live < (cntL rec.length : Int) ∨ (cntL rec.length : Int) ≤ freeI (s.d.setPw power).n j.live by omega) with hfr | hfr
    · have hA2 : appendL (s.d.setPw power) j rec ((g : Nat) : Int) = (s.d.setPw power, j, 0, 4) := by
        unfold appendL
        rw [if_neg (by rw [hinv.down]; simp), if_neg (by omega), if_neg (by omega), if_pos (.inl hfr)]
      rw [hA2] at ha
      simp at ha
    · cases hw : writeL (ajobs (s.d.setPw power).n (newR (s.d.setPw power).n j rec g)) (s.d.setPw power) with
      | mk d2 b =>
        have hW := appendL_w (d := s.d.setPw power) (j := j) (rec := rec) (f := g) hinv.down (by omega) (by omega) (by omega) hw
        rw [ha] at hW
        have hJI : JI (s.d.setPw power) I j := ⟨hk.ji.ci.same (by omega) (setPw_chg s.d power), hk.ji.life⟩
        obtain ⟨q1, q2, q3, q4, q5, _⟩ := hJI.append (by rw [hn']; omega) hinv' hg hg2 hrec hb (by omega) (by omega) hk.life1 hfr hw
        have hNJ := newJ_inv (d := s.d.setPw power) (by rw [hn']; omega) hinv' hg hg2 hrec hb (by omega) hfr
        have hpd := writeL_pw (z := 9223372036854775807) (by decide) (L := ajobs (s.d.setPw power).n (newR (s.d.setPw power).n j rec g)) (d := s.d.setPw power) hp
        rw [hw] at hpd
        have hdn2 : d2.n = n := by rw [q1, hn', hd]
        have hnN : (s.d.setPw power).n = n := by rw [hn', hd]
        cases b with
        | true =>
          simp only [if_true, Prod.mk.injEq] at hW
          first
          | (obtain ⟨rfl, rfl, _⟩ := hW
             refine ⟨hdn2, hpd, by show s.cnt + 1 ≤ _; omega, ?_, _, ?_, by show j.life ≤ _; omega, hk.life1, hk.waits, (q5 rfl).1⟩
             · show g + (s.live.drop (g - s.first) ++ [rec]).length ≤ _
               simp only [List.length_append, List.length_drop, List.length_cons, List.length_nil]; omega
             · rw [hnN] at hNJ ⊢; exact hNJ)
          | (exact absurd hW.2.2.2 (by decide))
        | false =>
          simp only [Bool.false_eq_true, if_false, Prod.mk.injEq] at hW
          first
          | (exact absurd hW.2.2.2 (by decide))
          | (obtain ⟨rfl, rfl, _⟩ := hW
             refine ⟨?_, hdn2, hpd, by show s.cnt + 1 ≤ _; omega, by show s.first + s.live.length ≤ _; omega, newR (s.d.setPw power).n j rec g :: I, j.live, hinv.re (by decide), fun r hr => by have := q4 r hr; omega, .inr ⟨rfl, newR (s.d.setPw power).n j rec g, by rw [← hnN]; exact q3, q2, rfl, hg, hg2, ?_⟩⟩
             · rcases (show 0 ≤ power ∨ power < 0 by omega) with hp0 | hp0
               · exact hp0
               · have := writeL_neg (L := ajobs (s.d.setPw power).n (newR (s.d.setPw power).n j rec g)) (d := s.d.setPw power) hp0 (ajobs_in (by rw [hn']; omega) (cntL_pos _))
                 rw [hw] at this
                 exact absurd this.1 (by simp)
             · have := hNJ.re (life := 1) (m := 0) (by decide)
               rw [hnN] at this ⊢
               exact this)
theorem KS.open {n c : Nat} {s : Sp} {power : Int} (h : KS n c s none) (hn : 0 < n) (hc : c ≤ 1000000) (hp : power ≤ 9223372036854775807) :
    OpenC s power ∧
    (∀ d', openL (s.d.setPw power) = (d', 420, none) → 0 ≤ power ∧ KS n (c + 1) { s with d := d' } none) ∧
    (∀ d' j, openL (s.d.setPw power) = (d', 0, some j) → HoldP j s.live s.first → KS n (c + 1) { s with d := d', waits := false } (some j)) ∧
    (∀ d' j, openL (s.d.setPw power) = (d', 0, some j) → s.waits = true → HoldP j (s.live.drop (s.frm - s.first) ++ [s.pend]) s.frm → KS n (c + 1) { s with d := d', live := s.live.drop (s.frm - s.first) ++ [s.pend], first := s.frm, waits := false } (some j)) := by
  have hd := h.dn
  have hcnt := h.cnt
  have hnum := h.num
  obtain ⟨I, L, hk⟩ := h.st
  have hn' : (s.d.setPw power).n = n := hd
  have hlam : ∀ r ∈ I, r.h.life < 4294967295 := fun r hr => by have := hk.life r hr; omega
  rcases hk.st with ⟨hw, hci⟩ | ⟨hw, p, hpd, hci, hpf, hf1, hf2, hnx⟩
  · have hci2 := hci.same (by omega) (setPw_chg s.d power)
    rcases hci2.open0 (by omega) hlam with ⟨d1, h1, h2, h3, h4, h5⟩ | ⟨d1, m, I0, h1, _, h3, h4, h5, h6⟩
    · refine ⟨.inl ⟨d1, h1, h2, h3⟩, fun d' e => ?_, fun d' j e => ?_, fun d' j e => ?_⟩
      · rw [h1] at e
        simp only [Prod.mk.injEq] at e
        obtain ⟨rfl, _⟩ := e
        exact ⟨h2, by rw [h4, hn'], by show d1.pw ≤ _; omega, Nat.le_succ_of_le hcnt, by show s.first + s.live.length ≤ _; omega, I, L, hk.inv, fun r hr => by have := hk.life r hr; omega, .inl ⟨hw, h5⟩⟩
      · rw [h1] at e; simp at e
      · rw [h1] at e; simp at e
    · have hll : (lastL (s.d.setPw power) (s.d.setPw power).n).2 ≤ 1 + c := hci2.life hk.life
      have hJ := hk.inv.re (life := (lastL (s.d.setPw power) (s.d.setPw power).n).2 + 1) (m := m) (by omega)
      refine ⟨.inr (.inl ⟨d1, _, h1, hJ.h⟩), fun d' e => ?_, fun d' j e _ => ?_, fun d' j e hw2 => ?_⟩
      · rw [h1] at e; simp at e
      · rw [h1] at e
        simp only [Prod.mk.injEq, true_and, Option.some.injEq] at e
        obtain ⟨rfl, rfl⟩ := e
        refine ⟨by rw [h3, hn'], ?_, Nat.le_succ_of_le hcnt, by show s.first + s.live.length ≤ _; omega, I0, hJ, by show _ + 1 ≤ _; omega, by show 1 ≤ _ + 1; omega, rfl, h4⟩
        have := openL_pw (d := s.d.setPw power) (z := 9223372036854775807) (by decide) hp
        rw [h1] at this; exact this
      · rw [hw] at hw2; exact absurd hw2 (by decide)
  · have hci2 := hci.same (by omega) (setPw_chg s.d power)
    rcases hci2.open1 (by rw [hn']; exact hpd) (by omega) hlam with ⟨d1, h1, h2, h3, h4, h5⟩ | ⟨l, d1, m, I0, hl, h1, h3, h4, h5, h6⟩
    · refine ⟨.inl ⟨d1, h1, h2, h3⟩, fun d' e => ?_, fun d' j e => ?_, fun d' j e => ?_⟩
      · rw [h1] at e
        simp only [Prod.mk.injEq] at e
        obtain ⟨rfl, _⟩ := e
        exact ⟨h2, by rw [h4, hn'], by show d1.pw ≤ _; omega, Nat.le_succ_of_le hcnt, by show s.first + s.live.length ≤ _; omega, I, L, hk.inv, fun r hr => by have := hk.life r hr; omega, .inr ⟨hw, p, hpd, h5, hpf, hf1, hf2, hnx⟩⟩
      · rw [h1] at e; simp at e
      · rw [h1] at e; simp at e
    · have hll : (lastL (s.d.setPw power) (s.d.setPw power).n).2 ≤ 1 + c := hci2.life hk.life
      have hpw1 := openL_pw (d := s.d.setPw power) (z := 9223372036854775807) (by decide) hp
      rw [h1] at hpw1
      have hlen : (s.live.drop (s.frm - s.first) ++ [s.pend]).length = s.live.length - (s.frm - s.first) + 1 := by simp
      rcases hl with rfl | rfl
      · have hJ := hk.inv.re (life := (lastL (s.d.setPw power) (s.d.setPw power).n).2 + 1) (m := m) (by omega)
        refine ⟨.inr (.inl ⟨d1, _, h1, hJ.h⟩), fun d' e => ?_, fun d' j e _ => ?_, fun d' j e _ hh => ?_⟩
        · rw [h1] at e; simp at e
        · rw [h1] at e
          simp only [Prod.mk.injEq, true_and, Option.some.injEq] at e
          obtain ⟨rfl, rfl⟩ := e
          exact ⟨by rw [h3, hn'], hpw1, Nat.le_succ_of_le hcnt, by show s.first + s.live.length ≤ _; omega, I0, hJ, by show _ + 1 ≤ _; omega, by show 1 ≤ _ + 1; omega, rfl, h4⟩
        · rw [h1] at e
          simp only [Prod.mk.injEq, true_and, Option.some.injEq] at e
          obtain ⟨rfl, rfl⟩ := e
          have e1 : lastN l + 1 = _ := hJ.h.lst
          have e2 : lastN l + 1 = _ := hh.lst
          rw [hlen] at e2
          omega
      · have hJ := hnx.re (life := (lastL (s.d.setPw power) (s.d.setPw power).n).2 + 1) (m := m) (by omega)
        refine ⟨.inr (.inr ⟨d1, _, h1, hw, hf1, hf2, hJ.h⟩), fun d' e => ?_, fun d' j e hh => ?_, fun d' j e _ _ => ?_⟩
        · rw [h1] at e; simp at e
        · rw [h1] at e
          simp only [Prod.mk.injEq, true_and, Option.some.injEq] at e
          obtain ⟨rfl, rfl⟩ := e
          have e1 : lastN (nextR L p) + 1 = _ := hJ.h.lst
          have e2 : lastN (nextR L p) + 1 = _ := hh.lst
          rw [hlen] at e1
          omega
        · rw [h1] at e
          simp only [Prod.mk.injEq, true_and, Option.some.injEq] at e
          obtain ⟨rfl, rfl⟩ := e
          exact ⟨by rw [h3, hn'], hpw1, Nat.le_succ_of_le hcnt, by show s.frm + (s.live.drop (s.frm - s.first) ++ [s.pend]).length ≤ _; rw [hlen]; omega, I0, hJ, by show _ + 1 ≤ _; omega, by show 1 ≤ _ + 1; omega, rfl, h4⟩
end Go.Proofs.Ytlplogplicgfiaa

namespace Go.Proofs.Ytlplogplicgfiaa
open Go Go.RowKit
def JoX (w : World) (N pd : Nat) (jp : Value) : Option Jn → Prop
  | none => jp = .pointer none
  | some j => ∃ pj vl us, jp = .pointer (some ⟨pj, 0, none⟩) ∧ JM w pj pd vl us j ∧ N ≤ pj
def ShX (w : World) (N p : Nat) (s : Sp) (jo : Option Jn) : Prop := ∃ pd vb vd jp, ShM w p pd vb vd jp s ∧ N ≤ p ∧ (∀ x, DB pd vb vd x → N ≤ x) ∧ JoX w N pd jp jo
theorem ShX.ext {w w' : World} {N p : Nat} {s : Sp} {jo : Option Jn} (h : ShX w N p s jo) (u : Ext w w') : ShX w' N p s jo := by
  obtain ⟨pd, vb, vd, jp, h1, h2, h3, h4⟩ := h
  refine ⟨pd, vb, vd, jp, h1.up u (fun _ _ _ _ _ e => e.elim), h2, h3, ?_⟩
  cases jo with
  | none => exact h4
  | some j =>
    obtain ⟨pj, vl, us, h5, h6, h7⟩ := h4
    exact ⟨pj, vl, us, h5, h6.ext u, h7⟩
theorem ShX.upT {w w' : World} {N p b : Nat} {s : Sp} {jo : Option Jn} {ty : TypeId} {cs : Array Value} (h : ShX w N p s jo) (u : Upd (one b) w w') (hB : Blk w b ty cs) (hne : ty ≠ 69 ∧ ty ≠ 25 ∧ ty ≠ 27 ∧ ty ≠ 4 ∧ ty ≠ 55 ∧ ty ≠ 5 ∧ 86 ≠ ty ∧ 106 ≠ ty ∧ 5 ≠ ty) : ShX w' N p s jo := by
  obtain ⟨pd, vb, vd, jp, h1, h2, h3, h4⟩ := h
  refine ⟨pd, vb, vd, jp, h1.up u (fun x ty' cs' q h4 e => ?_), h2, h3, ?_⟩
  · have e1 : x = b := e
    subst e1
    have := (q.inj hB).2
    subst this
    obtain ⟨n1, n2, n3, n4, n5, n6, _⟩ := hne
    rcases h4 with h | h | h | h | h | h <;> contradiction
  · cases jo with
    | none => exact h4
    | some j =>
      obtain ⟨pj, vl, us, h5, h6, h7⟩ := h4
      exact ⟨pj, vl, us, h5, h6.upT u hB ⟨hne.2.2.2.2.2.2.1, hne.2.2.2.2.2.2.2.1, hne.2.2.2.2.2.2.2.2⟩, h7⟩
theorem ShG.x {w : World} {N p : Nat} {s : Sp} {j : Jn} (h : ShG w N p s j) : ShX w N p s (some j) := by
  obtain ⟨pd, vb, vd, pj, vl, us, h1, h2, h3, h4, h5⟩ := h
  exact ⟨pd, vb, vd, _, h1, h3, h5, pj, vl, us, rfl, h2, h4⟩
end Go.Proofs.Ytlplogplicgfiaa

namespace Go.Proofs.Ytlplogplicgfiaa
open Go Go.RowKit
structure KA (s : Sp) (j : Jn) (I : List Rc) (c : Nat) : Prop where
  ji : JI s.d I j
  ag : ∀ q ∈ j.live, AG s.d q
  l1 : 1 ≤ j.life
  l2 : j.life ≤ c
structure KC (s : Sp) (j : Jn) (I : List Rc) : Prop where
  cl : ∀ i : Nat, i < 2 * s.d.n → s.d.read (i : Int) = some zeroB ∨ ∃ r ∈ I, ∃ k t, k < r.h.total ∧ t < 2 ∧ i = ix s.d r k t ∧ s.d.read (i : Int) = some (pcB r k)
  nu : ∀ r ∈ I, ∀ q ∈ I, r.h.number = q.h.number → r = q
  nl : ∀ r ∈ I, r.h.number ≤ lastN j.live
theorem KA.new {n : Nat} : KA { sp0 n with d := (newDk n).setPw (-1) } ⟨[], 1, 0, false⟩ [] 1 := ⟨JI.new _, by simp, Nat.le_refl _, Nat.le_refl _⟩
theorem KC.new {n : Nat} (h : 4 ≤ n) (h2 : n ≤ 1000) : KC { sp0 n with d := (newDk n).setPw (-1) } ⟨[], 1, 0, false⟩ [] := by
  refine ⟨fun i hi => .inl ?_, by simp, by simp⟩
  have hn := newDk_n h h2 (p := -1)
  have hi' : i < 2 * ((newDk n).setPw (-1)).n := hi
  rw [hn] at hi'
  exact read_new i h h2 hi'
theorem lastN_next {L : List Rc} {p : Rc} : lastN (nextR L p) = p.h.number := by
  unfold nextR lastN
  rw [show (L.drop (p.h.first - firstN L) ++ [p]).length - 1 = (L.drop (p.h.first - firstN L)).length by simp]
  rw [List.getD_eq_getElem?_getD (l := L.drop _ ++ _), List.getElem?_append_right (by omega), Nat.sub_self]; rfl
theorem KA.app {c g : Nat} {s s' : Sp} {j j' : Jn} {I : List Rc} {rec : List Nat} (h : KA s j I c) (hn : 0 < s.d.n) (hJ : JInv s.d.n j s.live s.first) (hg : s.first ≤ g) (hg2 : g ≤ s.first + s.live.length) (hrec : rec.length ≤ 4032) (hb : ∀ x ∈ rec, x < 256) (hm : s.first + s.live.length ≤ 4294967294) (hc : c < 4294967295) (hr : GRec s s' j j' g rec) :
    ∃ I', KA s' j' I' c ∧ (KC s j I → KC s' j' I') ∧ j'.life = j.life := by
  have hl2 := h.l2
  rcases hr with ⟨_, rfl, rfl⟩ | ⟨d', q1, rfl⟩
  · exact ⟨I, ⟨h.ji, h.ag, h.l1, h.l2⟩, fun hC => ⟨hC.cl, hC.nu, hC.nl⟩, rfl⟩
  · obtain ⟨a1, a2, a3, _, _, _⟩ := append_inv hn hJ hg hg2 hrec hb (by omega) q1
    obtain ⟨b1, b2, b3, b4, b5, b6, b7⟩ := h.ji.append hn hJ hg hg2 hrec hb hm (by omega) h.l1 a1 a2
    obtain ⟨b5, b8⟩ := b5 rfl
    subst a3
    refine ⟨newR s.d.n j rec g :: I, ⟨b5, fun q hq => ?_, h.l1, h.l2⟩, fun hC => ⟨fun i hi => ?_, fun r hr q hq e => ?_, fun r hr => ?_⟩, rfl⟩
    · rcases next_mem (p := newR s.d.n j rec g) (L := j.live) hq with h1 | h1
      · exact b7 q h1 (h.ag q h1)
      · rw [h1]; exact b8
    · have hi' : i < 2 * s.d.n := by rw [← b1]; exact hi
      have hix : ∀ r k t, ix d' r k t = ix s.d r k t := b6.ix
      rcases b6.2 i hi' with h1 | ⟨y, k, t, h1, h2, h3, h4, _, _⟩
      · show d'.read (i : Int) = some zeroB ∨ ∃ r ∈ newR s.d.n j rec g :: I, ∃ k t, k < r.h.total ∧ t < 2 ∧ i = ix d' r k t ∧ d'.read (i : Int) = some (pcB r k)
        rw [h1]
        rcases hC.cl i hi' with h2 | ⟨r, hr, k, t, h2, h3, h4, h5⟩
        · exact .inl h2
        · exact .inr ⟨r, List.mem_cons_of_mem _ hr, k, t, h2, h3, by rw [hix]; exact h4, h5⟩
      · right
        have h1 : y = _ := h1
        subst h1
        refine ⟨_, List.mem_cons_self, k, t, h2, h3, by rw [hix]; exact h4, ?_⟩
        have := b8 k t h2 h3
        unfold GB at this
        rw [hix, ← h4] at this
        exact this
    · have hnn : (newR s.d.n j rec g).h.number = lastN j.live + 1 := rfl
      rcases List.mem_cons.1 hr with h1 | h1 <;> rcases List.mem_cons.1 hq with h2 | h2
      · rw [h1, h2]
      · have := hC.nl q h2; rw [h1] at e; omega
      · have := hC.nl r h1; rw [h2] at e; omega
      · exact hC.nu r h1 q h2 e
    · show r.h.number ≤ lastN (nextR j.live (newR s.d.n j rec g))
      rw [lastN_next]
      show r.h.number ≤ lastN j.live + 1
      rcases List.mem_cons.1 hr with h1 | h1
      · rw [h1]; exact Nat.le_refl _
      · have := hC.nl r h1; omega
theorem mend_none : ∀ {J : List (Nat × List Nat)} {d : Dk} {m : Nat}, (∀ x ∈ J, d.read ((x.1 : Nat) : Int) = some x.2) → mendL J d m = (d, m, true)
  | [], d, m, _ => rfl
  | (i, b) :: J, d, m, h => by
    have hr := h (i, b) List.mem_cons_self
    simp only [mendL]
    rw [if_pos hr]
    exact mend_none (fun x hx => h x (List.mem_cons_of_mem _ hx))
theorem CI.open_ag {d : Dk} {I L : List Rc} (h : CI d I L NoP) (hn : 0 < d.n) (hlam : ∀ r ∈ I, r.h.life < 4294967295) (hag : ∀ q ∈ L, AG d q) :
    openL d = (d, 0, some ⟨L, (lastL d d.n).2 + 1, 0, false⟩) := by
  have h0 : (lastL d d.n).2 ≤ 4294967294 := h.life (lam := 4294967294) (fun r hr => by have := hlam r hr; omega)
  refine openL_ok (by omega) (h.openC hn) (by omega) (mend_none (fun x hx => ?_))
  obtain ⟨y, hy, k, t, hk, ht, rfl⟩ := mem_jobsL.1 hx
  exact hag y hy k t hk ht
theorem CI.open_ag2 {d : Dk} {I L : List Rc} (h : CI d I L NoP) (hn : 0 < d.n) : ∃ I0, JI d I0 ⟨L, (lastL d d.n).2 + 1, 0, false⟩ ∧ (∀ r ∈ I0, r ∈ I) := by
  obtain ⟨I0, c1, c2, c3⟩ := h.prune hn
  exact ⟨I0, ⟨c1, fun r hr => .inl (Nat.lt_succ_of_le (c2 r hr).2)⟩, fun r hr => (c2 r hr).1⟩
end Go.Proofs.Ytlplogplicgfiaa
