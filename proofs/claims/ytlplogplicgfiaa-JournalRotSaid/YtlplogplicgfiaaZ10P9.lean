import Derived.Test.YtlplogplicgfiaaZ10P7
import Derived.Test.YtlplogplicgfiaaZ10KN
namespace Go.Proofs.Ytlplogplicgfiaa
open Go Go.RowKit
theorem JInv.re {n : Nat} {j : Jn} {l : List (List Nat)} {f : Nat} (h : JInv n j l f) {life m : Nat} (hl : life ≤ 4294967296) : JInv n ⟨j.live, life, m, false⟩ l f :=
  ⟨⟨⟨h.h.ok.len, h.h.ok.tot, h.h.ok.num, h.h.ok.fst, h.h.ok.max, hl⟩, h.h.fst, h.h.len, h.h.dat, h.h.b⟩, h.free, h.at_, h.tot, h.byt, rfl, h.con⟩
structure KN0 (n c : Nat) (s : Sp) (I L : List Rc) : Prop where
  inv : JInv n ⟨L, 1, 0, false⟩ s.live s.first
  life : ∀ r ∈ I, r.h.life ≤ 1 + c
  st : (s.waits = false ∧ CI s.d I L NoP) ∨ (s.waits = true ∧ ∃ p, Pd n I L p ∧ CI s.d I L (fun r => r = p) ∧ p.h.first = s.frm ∧ s.first ≤ s.frm ∧ s.frm ≤ s.first + s.live.length ∧ JInv n ⟨nextR L p, 1, 0, false⟩ (s.live.drop (s.frm - s.first) ++ [s.pend]) s.frm)
structure KN1 (n c : Nat) (s : Sp) (j : Jn) (I : List Rc) : Prop where
  inv : JInv n j s.live s.first
  life : j.life ≤ 1 + c
  life1 : 1 ≤ j.life
  waits : s.waits = false
  ji : JI s.d I j
structure KS (n c : Nat) (s : Sp) (jo : Option Jn) : Prop where
  dn : s.d.n = n
  pw : s.d.pw ≤ 9223372036854775807
  cnt : s.cnt ≤ c
  num : s.first + s.live.length ≤ 1 + c
  st : match jo with
    | some j => ∃ I, KN1 n c s j I
    | none => ∃ I L, KN0 n c s I L
theorem JI.lam {d : Dk} {I : List Rc} {j : Jn} (h : JI d I j) : ∀ r ∈ I, r.h.life ≤ j.life := fun r hr => by rcases h.life r hr with h1 | h1 <;> omega
theorem KS.more {n c : Nat} {s : Sp} {jo : Option Jn} (h : KS n c s jo) : KS n (c + 1) s jo := by
  refine ⟨h.dn, h.pw, Nat.le_succ_of_le h.cnt, by have := h.num; omega, ?_⟩
  cases jo with
  | none =>
    obtain ⟨I, L, hk⟩ := h.st
    exact ⟨I, L, hk.inv, fun r hr => by have := hk.life r hr; omega, hk.st⟩
  | some j =>
    obtain ⟨I, hk⟩ := h.st
    exact ⟨I, hk.inv, by have := hk.life; omega, hk.life1, hk.waits, hk.ji⟩
theorem KS.disk {n c : Nat} {s : Sp} {jo : Option Jn} {d' : Dk} (h : KS n c s jo) (hn : 0 < n) (hc : Chg s.d d' NoP) (hp : d'.pw ≤ 9223372036854775807) : KS n c { s with d := d' } jo := by
  have hd := h.dn
  refine ⟨hc.1.trans h.dn, hp, h.cnt, h.num, ?_⟩
  cases jo with
  | none =>
    obtain ⟨I, L, hk⟩ := h.st
    refine ⟨I, L, hk.inv, hk.life, ?_⟩
    rcases hk.st with ⟨h1, h2⟩ | ⟨h1, p, h2, h3, h4⟩
    · exact .inl ⟨h1, h2.same (by omega) hc⟩
    · exact .inr ⟨h1, p, h2, h3.same (by omega) hc, h4⟩
  | some j =>
    obtain ⟨I, hk⟩ := h.st
    exact ⟨I, hk.inv, hk.life, hk.life1, hk.waits, hk.ji.ci.same (by omega) hc, hk.ji.life⟩
theorem setPw_chg (d : Dk) (p : Int) : Chg d (d.setPw p) NoP := Chg.none rfl (fun _ => rfl)
theorem mendL_pwz {z : Int} (hz : 0 ≤ z) : ∀ {J : List (Nat × List Nat)} {d : Dk} {m : Nat}, d.pw ≤ z → (mendL J d m).1.pw ≤ z
  | [], d, m, h => h
  | (i, b) :: J, d, m, h => by
    simp only [mendL]
    split
    · exact mendL_pwz hz h
    · split
      · exact mendL_pwz hz (Dk.write_pw _ _ _ hz h)
      · exact Dk.write_pw _ _ _ hz h
theorem openL_pw {d : Dk} {z : Int} (hz : 0 ≤ z) (h : d.pw ≤ z) : (openL d).1.pw ≤ z := by
  have hm := mendL_pwz hz (J := jobsL d.n ((openC d).getD [])) (d := d) (m := 0) h
  unfold openL
  split
  · exact h
  · split
    · exact h
    · rename_i l hl
      rw [hl] at hm
      simp only [Option.getD_some] at hm
      split
      · exact h
      · cases hx : mendL (jobsL d.n l) d 0 with
        | mk d' x =>
          rw [hx] at hm
          obtain ⟨m, b⟩ := x
          cases b <;> exact hm
theorem read_new {n : Nat} (i : Nat) (h4 : 4 ≤ n) (h9 : n ≤ 1000) {p : Int} (hi : i < 2 * n) : ((newDk n).setPw p).read (i : Int) = some zeroB := by
  have hn := newDk_n h4 h9 (p := p)
  unfold Dk.read
  rw [hn, if_pos ⟨by omega, by omega⟩, Int.toNat_natCast]
  have h1 : ((newDk n).setPw p).bad.getD i true = false := by
    show (List.replicate (2 * n) false).getD i true = false
    rw [List.getD_eq_getElem?_getD, List.getElem?_replicate, if_pos hi]; rfl
  have h2 : ((newDk n).setPw p).bl.getD i [] = zeroB := by
    show (List.replicate (2 * n) zeroB).getD i [] = zeroB
    rw [List.getD_eq_getElem?_getD, List.getElem?_replicate, if_pos hi]; rfl
  rw [h1, h2]; rfl
theorem JI.new {n : Nat} (p : Int) : JI ((newDk n).setPw p) [] ⟨[], 1, 0, false⟩ := by
  refine ⟨⟨⟨by simp, by simp, fun pl t g k dt _ _ h => ?_⟩, ⟨by simp, by simp, by simp, by simp, Nat.zero_le _⟩, by simp, by simp⟩, by simp⟩
  rw [tk_new] at h; exact absurd h (by simp)
theorem KS.new {n : Nat} (h : 4 ≤ n) (h2 : n ≤ 1000) : KS n 0 { sp0 n with d := (newDk n).setPw (-1) } (some ⟨[], 1, 0, false⟩) :=
  ⟨newDk_n h h2, by show (-1 : Int) ≤ _; decide, Nat.le_refl _, Nat.le_refl _, [], jinv_new, Nat.le_refl _, Nat.le_refl _, rfl, JI.new _⟩
def rotD (d : Dk) (i : Nat) : Dk := { d with bad := d.bad.set i true }
theorem rotD_n (d : Dk) (i : Nat) : (rotD d i).n = d.n := by unfold rotD Dk.n; simp only [List.length_set]
theorem rotD_self {d : Dk} {i : Nat} (hi : i < 2 * d.n) : (rotD d i).read (i : Int) = none := by
  have h := Dk.n_pos (d := d) (by omega)
  unfold Dk.read
  rw [rotD_n, if_pos ⟨by omega, by omega⟩, Int.toNat_natCast]
  have : (rotD d i).bad.getD i true = true := by
    show (d.bad.set i true).getD i true = true
    rw [List.getD_eq_getElem?_getD, List.getElem?_set_self (by omega)]; rfl
  rw [this]; rfl
theorem rotD_ne {d : Dk} {i z : Nat} (hz : z ≠ i) : (rotD d i).read (z : Int) = d.read (z : Int) := by
  unfold Dk.read
  rw [rotD_n, Int.toNat_natCast]
  have : (rotD d i).bad.getD z true = d.bad.getD z true := by
    show (d.bad.set i true).getD z true = _
    simp only [List.getD_eq_getElem?_getD]
    rw [List.getElem?_set_ne (fun e => hz e.symm)]
  rw [this]; rfl
theorem rotD_less (d : Dk) {i : Nat} (hi : i < 2 * d.n) : Less d (rotD d i) := ⟨rotD_n d i, fun z hz => by
  by_cases e : z = i
  · subst e; exact .inl (tk_none (rotD_self hi))
  · right; unfold tk; rw [rotD_ne e]⟩
theorem read_none_bad {d : Dk} {i : Nat} (hi : i < 2 * d.n) (h : d.read (i : Int) = none) : d.bad.getD i true = true := by
  unfold Dk.read at h
  rw [if_pos ⟨by omega, by omega⟩, Int.toNat_natCast] at h
  cases hb : d.bad.getD i true with
  | true => rfl
  | false => rw [hb] at h; simp at h
theorem twin_ix {n pl t : Nat} (hp : pl < n) (ht : t < 2) : ((pl + t * n) + n) % (2 * n) = pl + (1 - t) * n := by
  rcases (show t = 0 ∨ t = 1 by omega) with rfl | rfl
  · rw [Nat.zero_mul, Nat.add_zero, Nat.mod_eq_of_lt (by omega)]; omega
  · rw [Nat.one_mul, show pl + n + n = pl + 2 * n by omega, Nat.add_mod_right, Nat.mod_eq_of_lt (by omega)]; omega
theorem rotD_lv {d : Dk} {q : Rc} {i : Nat} (hn : 0 < d.n) (hi : i < 2 * d.n) (hb : d.bad.getD ((i + d.n) % (2 * d.n)) true = false) (hq : Lv d q) : Lv (rotD d i) q := by
  have hix : ∀ j u, ix (rotD d i) q j u = ix d q j u := fun j u => by unfold ix; rw [rotD_n]
  refine ⟨fun j u hj hu => ?_, fun j hj => ?_⟩
  · unfold GB BB
    rw [hix]
    by_cases e : ix d q j u = i
    · right; rw [e]; exact rotD_self hi
    · rw [rotD_ne e]; exact hq.all j u hj hu
  · obtain ⟨u, hu, h1⟩ := hq.one_ j hj
    by_cases e : ix d q j u = i
    · refine ⟨1 - u, by omega, ?_⟩
      have ht := twin_ix (n := d.n) (pl := (q.at_ + j) % d.n) (t := u) (Nat.mod_lt _ hn) hu
      have e2 : (i + d.n) % (2 * d.n) = ix d q j (1 - u) := by rw [← e]; exact ht
      have hne : ix d q j (1 - u) ≠ i := fun e3 => by
        rw [← e] at e3
        have := (ix_inj (Nat.mod_lt _ hn) (Nat.mod_lt _ hn) e3).2
        omega
      unfold GB
      rw [hix, rotD_ne hne]
      rcases hq.all j (1 - u) hj (by omega) with h2 | h2
      · exact h2
      · have := read_none_bad (ix_lt hn (by omega)) h2
        rw [e2] at hb
        rw [hb] at this; exact absurd this (by decide)
    · refine ⟨u, hu, ?_⟩
      unfold GB at *
      rw [hix, rotD_ne e]; exact h1
theorem KS.rots {n c : Nat} {s : Sp} {jo : Option Jn} {i : Nat} (h : KS n c s jo) (hn : 0 < n) (hi : i < 2 * n) (hb : s.d.bad.getD ((i + n) % (2 * n)) true = false) : KS n c { s with d := rotD s.d i } jo := by
  have hd := h.dn
  have hi' : i < 2 * s.d.n := by omega
  have hb' : s.d.bad.getD ((i + s.d.n) % (2 * s.d.n)) true = false := by rw [hd]; exact hb
  refine ⟨(rotD_n _ _).trans h.dn, h.pw, h.cnt, h.num, ?_⟩
  have key : ∀ {I L : List Rc} {P : Rc → Prop}, CI s.d I L P → CI (rotD s.d i) I L P := fun hc => hc.less (by omega) (rotD_less _ hi') (fun q hq => rotD_lv (by omega) hi' hb' (hc.lv q hq))
  cases jo with
  | none =>
    obtain ⟨I, L, hk⟩ := h.st
    refine ⟨I, L, hk.inv, hk.life, ?_⟩
    rcases hk.st with ⟨h1, h2⟩ | ⟨h1, p, h2, h3, h4⟩
    · exact .inl ⟨h1, key h2⟩
    · exact .inr ⟨h1, p, h2, key h3, h4⟩
  | some j =>
    obtain ⟨I, hk⟩ := h.st
    exact ⟨I, hk.inv, hk.life, hk.life1, hk.waits, key hk.ji.ci, hk.ji.life⟩
theorem KS.app {n c : Nat} {s : Sp} {j : Jn} {g : Nat} {rec : List Nat} {power : Int} (h : KS n c s (some j)) (hn : 0 < n) (hc : c ≤ 1000000) (hg : s.first ≤ g) (hg2 : g ≤ s.first + s.live.length) (hrec : rec.length ≤ 4032) (hb : ∀ x ∈ rec, x < 256) (hp : power ≤ 9223372036854775807) :
    AppC (s.d.setPw power) j s.live s.first g power rec ∧
    (∀ j', appendL (s.d.setPw power) j rec ((g : Nat) : Int) = (s.d.setPw power, j', 0, 4) → j' = j → KS n (c + 1) { s with d := s.d.setPw power, cnt := s.cnt + 1 } (some j)) ∧
    (∀ d' j', appendL (s.d.setPw power) j rec ((g : Nat) : Int) = (d', j', s.first + s.live.length, 0) → KS n (c + 1) { s with d := d', live := s.live.drop (g - s.first) ++ [rec], first := g, cnt := s.cnt + 1 } (some j')) ∧
    (∀ d' j', appendL (s.d.setPw power) j rec ((g : Nat) : Int) = (d', j', 0, 420) → 0 ≤ power ∧ KS n (c + 1) { s with d := d', pend := rec, waits := true, frm := g, cnt := s.cnt + 1 } none) := by
  have hd := h.dn
  have hcnt := h.cnt
  have hnum := h.num
  obtain ⟨I, hk⟩ := h.st
  have hlf := hk.life
  have hinv := hk.inv
  have hinv' : JInv s.d.n j s.live s.first := by rw [hd]; exact hinv
  have hlst := hinv.h.lst
  have hfst := hinv.h.fst
  have hA : AppC (s.d.setPw power) j s.live s.first g power rec := appC (by omega) hinv' hg hg2 hrec hb (by omega) hp
  refine ⟨hA, fun j' _ _ => ?_, ?_, ?_⟩
  · have h2 := (h.disk hn (setPw_chg s.d power) hp).more
    exact ⟨h2.dn, h2.pw, by show s.cnt + 1 ≤ _; omega, h2.num, by
      obtain ⟨I2, hk2⟩ := h2.st
      exact ⟨I2, hk2.inv, hk2.life, hk2.life1, hk2.waits, hk2.ji⟩⟩
  all_goals
    intro d' j' ha
    have hn' : (s.d.setPw power).n = s.d.n := rfl
    rcases (show freeI (s.d.setPw power).n j.live < (cntL rec.length : Int) ∨ (cntL rec.length : Int) ≤ freeI (s.d.setPw power).n j.live by omega) with hfr | hfr
    · have hA2 : appendL (s.d.setPw power) j rec ((g : Nat) : Int) = (s.d.setPw power, j, 0, 4) := by
        unfold appendL
        rw [if_neg (by rw [hinv.down]; simp), if_neg (by omega), if_neg (by omega), if_pos (.inl hfr)]
      rw [hA2] at ha
      simp at ha
    · cases hw : writeL (ajobs (s.d.setPw power).n (newR (s.d.setPw power).n j rec g)) (s.d.setPw power) with
      | mk d2 b =>
        have hW := appendL_w (d := s.d.setPw power) (j := j) (rec := rec) (f := g) hinv.down (by omega) (by omega) (by omega) hw
        rw [ha] at hW
        have hJI : JI (s.d.setPw power) I j := ⟨hk.ji.ci.same (by omega) (setPw_chg s.d power), hk.ji.life⟩
        obtain ⟨q1, q2, q3, q4, q5, _⟩ := hJI.append (by rw [hn']; omega) hinv' hg hg2 hrec hb (by omega) (by omega) hk.life1 hfr hw
        have hNJ := newJ_inv (d := s.d.setPw power) (by rw [hn']; omega) hinv' hg hg2 hrec hb (by omega) hfr
        have hpd := writeL_pw (z := 9223372036854775807) (by decide) (L := ajobs (s.d.setPw power).n (newR (s.d.setPw power).n j rec g)) (d := s.d.setPw power) hp
        rw [hw] at hpd
        have hdn2 : d2.n = n := by rw [q1, hn', hd]
        have hnN : (s.d.setPw power).n = n := by rw [hn', hd]
        cases b with
        | true =>
          simp only [if_true, Prod.mk.injEq] at hW
          first
          | (obtain ⟨rfl, rfl, _⟩ := hW
             refine ⟨hdn2, hpd, by show s.cnt + 1 ≤ _; omega, ?_, _, ?_, by show j.life ≤ _; omega, hk.life1, hk.waits, (q5 rfl).1⟩
             · show g + (s.live.drop (g - s.first) ++ [rec]).length ≤ _
               simp only [List.length_append, List.length_drop, List.length_cons, List.length_nil]; omega
             · rw [hnN] at hNJ ⊢; exact hNJ)
          | (exact absurd hW.2.2.2 (by decide))
        | false =>
          simp only [Bool.false_eq_true, if_false, Prod.mk.injEq] at hW
          first
          | (exact absurd hW.2.2.2 (by decide))
          | (obtain ⟨rfl, rfl, _⟩ := hW
             refine ⟨?_, hdn2, hpd, by show s.cnt + 1 ≤ _; omega, by show s.first + s.live.length ≤ _; omega, newR (s.d.setPw power).n j rec g :: I, j.live, hinv.re (by decide), fun r hr => by have := q4 r hr; omega, .inr ⟨rfl, newR (s.d.setPw power).n j rec g, by rw [← hnN]; exact q3, q2, rfl, hg, hg2, ?_⟩⟩
             · rcases (show 0 ≤ power ∨ power < 0 by omega) with hp0 | hp0
               · exact hp0
               · have := writeL_neg (L := ajobs (s.d.setPw power).n (newR (s.d.setPw power).n j rec g)) (d := s.d.setPw power) hp0 (ajobs_in (by rw [hn']; omega) (cntL_pos _))
                 rw [hw] at this
                 exact absurd this.1 (by simp)
             · have := hNJ.re (life := 1) (m := 0) (by decide)
               rw [hnN] at this ⊢
               exact this)
theorem KS.open {n c : Nat} {s : Sp} {power : Int} (h : KS n c s none) (hn : 0 < n) (hc : c ≤ 1000000) (hp : power ≤ 9223372036854775807) :
    OpenC s power ∧
    (∀ d', openL (s.d.setPw power) = (d', 420, none) → 0 ≤ power ∧ KS n (c + 1) { s with d := d' } none) ∧
    (∀ d' j, openL (s.d.setPw power) = (d', 0, some j) → HoldP j s.live s.first → KS n (c + 1) { s with d := d', waits := false } (some j)) ∧
    (∀ d' j, openL (s.d.setPw power) = (d', 0, some j) → s.waits = true → HoldP j (s.live.drop (s.frm - s.first) ++ [s.pend]) s.frm → KS n (c + 1) { s with d := d', live := s.live.drop (s.frm - s.first) ++ [s.pend], first := s.frm, waits := false } (some j)) := by
  have hd := h.dn
  have hcnt := h.cnt
  have hnum := h.num
  obtain ⟨I, L, hk⟩ := h.st
  have hn' : (s.d.setPw power).n = n := hd
  have hlam : ∀ r ∈ I, r.h.life < 4294967295 := fun r hr => by have := hk.life r hr; omega
  rcases hk.st with ⟨hw, hci⟩ | ⟨hw, p, hpd, hci, hpf, hf1, hf2, hnx⟩
  · have hci2 := hci.same (by omega) (setPw_chg s.d power)
    rcases hci2.open0 (by omega) hlam with ⟨d1, h1, h2, h3, h4, h5⟩ | ⟨d1, m, I0, h1, _, h3, h4, h5, h6⟩
    · refine ⟨.inl ⟨d1, h1, h2, h3⟩, fun d' e => ?_, fun d' j e => ?_, fun d' j e => ?_⟩
      · rw [h1] at e
        simp only [Prod.mk.injEq] at e
        obtain ⟨rfl, _⟩ := e
        exact ⟨h2, by rw [h4, hn'], by show d1.pw ≤ _; omega, Nat.le_succ_of_le hcnt, by show s.first + s.live.length ≤ _; omega, I, L, hk.inv, fun r hr => by have := hk.life r hr; omega, .inl ⟨hw, h5⟩⟩
      · rw [h1] at e; simp at e
      · rw [h1] at e; simp at e
    · have hll : (lastL (s.d.setPw power) (s.d.setPw power).n).2 ≤ 1 + c := hci2.life hk.life
      have hJ := hk.inv.re (life := (lastL (s.d.setPw power) (s.d.setPw power).n).2 + 1) (m := m) (by omega)
      refine ⟨.inr (.inl ⟨d1, _, h1, hJ.h⟩), fun d' e => ?_, fun d' j e _ => ?_, fun d' j e hw2 => ?_⟩
      · rw [h1] at e; simp at e
      · rw [h1] at e
        simp only [Prod.mk.injEq, true_and, Option.some.injEq] at e
        obtain ⟨rfl, rfl⟩ := e
        refine ⟨by rw [h3, hn'], ?_, Nat.le_succ_of_le hcnt, by show s.first + s.live.length ≤ _; omega, I0, hJ, by show _ + 1 ≤ _; omega, by show 1 ≤ _ + 1; omega, rfl, h4⟩
        have := openL_pw (d := s.d.setPw power) (z := 9223372036854775807) (by decide) hp
        rw [h1] at this; exact this
      · rw [hw] at hw2; exact absurd hw2 (by decide)
  · have hci2 := hci.same (by omega) (setPw_chg s.d power)
    rcases hci2.open1 (by rw [hn']; exact hpd) (by omega) hlam with ⟨d1, h1, h2, h3, h4, h5⟩ | ⟨l, d1, m, I0, hl, h1, h3, h4, h5, h6⟩
    · refine ⟨.inl ⟨d1, h1, h2, h3⟩, fun d' e => ?_, fun d' j e => ?_, fun d' j e => ?_⟩
      · rw [h1] at e
        simp only [Prod.mk.injEq] at e
        obtain ⟨rfl, _⟩ := e
        exact ⟨h2, by rw [h4, hn'], by show d1.pw ≤ _; omega, Nat.le_succ_of_le hcnt, by show s.first + s.live.length ≤ _; omega, I, L, hk.inv, fun r hr => by have := hk.life r hr; omega, .inr ⟨hw, p, hpd, h5, hpf, hf1, hf2, hnx⟩⟩
      · rw [h1] at e; simp at e
      · rw [h1] at e; simp at e
    · have hll : (lastL (s.d.setPw power) (s.d.setPw power).n).2 ≤ 1 + c := hci2.life hk.life
      have hpw1 := openL_pw (d := s.d.setPw power) (z := 9223372036854775807) (by decide) hp
      rw [h1] at hpw1
      have hlen : (s.live.drop (s.frm - s.first) ++ [s.pend]).length = s.live.length - (s.frm - s.first) + 1 := by simp
      rcases hl with rfl | rfl
      · have hJ := hk.inv.re (life := (lastL (s.d.setPw power) (s.d.setPw power).n).2 + 1) (m := m) (by omega)
        refine ⟨.inr (.inl ⟨d1, _, h1, hJ.h⟩), fun d' e => ?_, fun d' j e _ => ?_, fun d' j e _ hh => ?_⟩
        · rw [h1] at e; simp at e
        · rw [h1] at e
          simp only [Prod.mk.injEq, true_and, Option.some.injEq] at e
          obtain ⟨rfl, rfl⟩ := e
          exact ⟨by rw [h3, hn'], hpw1, Nat.le_succ_of_le hcnt, by show s.first + s.live.length ≤ _; omega, I0, hJ, by show _ + 1 ≤ _; omega, by show 1 ≤ _ + 1; omega, rfl, h4⟩
        · rw [h1] at e
          simp only [Prod.mk.injEq, true_and, Option.some.injEq] at e
          obtain ⟨rfl, rfl⟩ := e
          have e1 : lastN l + 1 = _ := hJ.h.lst
          have e2 : lastN l + 1 = _ := hh.lst
          rw [hlen] at e2
          omega
      · have hJ := hnx.re (life := (lastL (s.d.setPw power) (s.d.setPw power).n).2 + 1) (m := m) (by omega)
        refine ⟨.inr (.inr ⟨d1, _, h1, hw, hf1, hf2, hJ.h⟩), fun d' e => ?_, fun d' j e hh => ?_, fun d' j e _ _ => ?_⟩
        · rw [h1] at e; simp at e
        · rw [h1] at e
          simp only [Prod.mk.injEq, true_and, Option.some.injEq] at e
          obtain ⟨rfl, rfl⟩ := e
          have e1 : lastN (nextR L p) + 1 = _ := hJ.h.lst
          have e2 : lastN (nextR L p) + 1 = _ := hh.lst
          rw [hlen] at e1
          omega
        · rw [h1] at e
          simp only [Prod.mk.injEq, true_and, Option.some.injEq] at e
          obtain ⟨rfl, rfl⟩ := e
          exact ⟨by rw [h3, hn'], hpw1, Nat.le_succ_of_le hcnt, by show s.frm + (s.live.drop (s.frm - s.first) ++ [s.pend]).length ≤ _; rw [hlen]; omega, I0, hJ, by show _ + 1 ≤ _; omega, by show 1 ≤ _ + 1; omega, rfl, h4⟩
end Go.Proofs.Ytlplogplicgfiaa

namespace Go.Proofs.Ytlplogplicgfiaa
open Go Go.RowKit
def rot1 (d : Dk) (i : Nat) : Dk := if d.bad.getD ((i + d.n) % (2 * d.n)) true = true then d else { d with bad := d.bad.set i true }
end Go.Proofs.Ytlplogplicgfiaa

namespace Go.Proofs.Ytlplogplicgfiaa
open Go Go.RowKit
def JoX (w : World) (N pd : Nat) (jp : Value) : Option Jn → Prop
  | none => jp = .pointer none
  | some j => ∃ pj vl us, jp = .pointer (some ⟨pj, 0, none⟩) ∧ JM w pj pd vl us j ∧ N ≤ pj
def ShX (w : World) (N p : Nat) (s : Sp) (jo : Option Jn) : Prop := ∃ pd vb vd jp, ShM w p pd vb vd jp s ∧ N ≤ p ∧ (∀ x, DB pd vb vd x → N ≤ x) ∧ JoX w N pd jp jo
theorem ShX.ext {w w' : World} {N p : Nat} {s : Sp} {jo : Option Jn} (h : ShX w N p s jo) (u : Ext w w') : ShX w' N p s jo := by
  obtain ⟨pd, vb, vd, jp, h1, h2, h3, h4⟩ := h
  refine ⟨pd, vb, vd, jp, h1.up u (fun _ _ _ _ _ e => e.elim), h2, h3, ?_⟩
  cases jo with
  | none => exact h4
  | some j =>
    obtain ⟨pj, vl, us, h5, h6, h7⟩ := h4
    exact ⟨pj, vl, us, h5, h6.ext u, h7⟩
theorem ShX.upT {w w' : World} {N p b : Nat} {s : Sp} {jo : Option Jn} {ty : TypeId} {cs : Array Value} (h : ShX w N p s jo) (u : Upd (one b) w w') (hB : Blk w b ty cs) (hne : ty ≠ 69 ∧ ty ≠ 25 ∧ ty ≠ 27 ∧ ty ≠ 4 ∧ ty ≠ 55 ∧ ty ≠ 5 ∧ 86 ≠ ty ∧ 106 ≠ ty ∧ 5 ≠ ty) : ShX w' N p s jo := by
  obtain ⟨pd, vb, vd, jp, h1, h2, h3, h4⟩ := h
  refine ⟨pd, vb, vd, jp, h1.up u (fun x ty' cs' q h4 e => ?_), h2, h3, ?_⟩
  · have e1 : x = b := e
    subst e1
    have := (q.inj hB).2
    subst this
    obtain ⟨n1, n2, n3, n4, n5, n6, _⟩ := hne
    rcases h4 with h | h | h | h | h | h <;> contradiction
  · cases jo with
    | none => exact h4
    | some j =>
      obtain ⟨pj, vl, us, h5, h6, h7⟩ := h4
      exact ⟨pj, vl, us, h5, h6.upT u hB ⟨hne.2.2.2.2.2.2.1, hne.2.2.2.2.2.2.2.1, hne.2.2.2.2.2.2.2.2⟩, h7⟩
theorem ShG.x {w : World} {N p : Nat} {s : Sp} {j : Jn} (h : ShG w N p s j) : ShX w N p s (some j) := by
  obtain ⟨pd, vb, vd, pj, vl, us, h1, h2, h3, h4, h5⟩ := h
  exact ⟨pd, vb, vd, _, h1, h3, h5, pj, vl, us, rfl, h2, h4⟩
theorem rot1_eq (d : Dk) (i : Nat) : rot1 d i = d ∨ (d.bad.getD ((i + d.n) % (2 * d.n)) true = false ∧ rot1 d i = rotD d i) := by
  unfold rot1
  cases h : d.bad.getD ((i + d.n) % (2 * d.n)) true with
  | true => left; rfl
  | false => right; exact ⟨rfl, rfl⟩
theorem KS.rot {n c : Nat} {s : Sp} {jo : Option Jn} {i : Nat} (h : KS n c s jo) (hn : 0 < n) (hi : i < 2 * n) : KS n c { s with d := rot1 s.d i } jo := by
  rcases rot1_eq s.d i with e | ⟨hb, e⟩
  · rw [e]; exact h
  · rw [e]; rw [h.dn] at hb; exact h.rots hn hi hb
end Go.Proofs.Ytlplogplicgfiaa
