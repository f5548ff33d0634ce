import Derived.Test.YtlplogplicgfiaaZ10P6
namespace Go.Proofs.Ytlplogplicgfiaa
open Go Go.RowKit
structure CI (d : Dk) (I L : List Rc) (P : Rc → Prop) : Prop where
  iss : Iss d I
  row : Row1 d.n I L
  lv : ∀ q ∈ L, Lv d q
  only : ∀ r ∈ I, Cmp d r → r ∈ L ∨ r.h.number < firstN L ∨ P r
def NoP : Rc → Prop := fun _ => False
theorem CI.mem {d : Dk} {I L : List Rc} {P : Rc → Prop} (h : CI d I L P) {q : Rc} (hq : q ∈ L) : q ∈ I := by
  obtain ⟨i, hi, rfl⟩ := getD_mem hq
  exact h.row.mem i hi
theorem CI.con {d : Dk} {I L : List Rc} {P : Rc → Prop} (h : CI d I L P) : Con d.n L := ⟨fun i hi => (h.iss.ok _ (h.row.mem i hi)).at_, h.row.con, h.row.free⟩
theorem CI.cmp {d : Dk} {I L : List Rc} {P : Rc → Prop} (h : CI d I L P) {q : Rc} (hq : q ∈ L) : Cmp d q := (h.lv q hq).cmp (h.iss.ok q (h.mem hq))
theorem CI.noP {d : Dk} {I L : List Rc} {P : Rc → Prop} (h : CI d I L P) (hP : ∀ r ∈ I, P r → ¬ Cmp d r) : CI d I L NoP := ⟨h.iss, h.row, h.lv, fun r hr hc => by
  rcases h.only r hr hc with h1 | h1 | h1
  · exact .inl h1
  · exact .inr (.inl h1)
  · exact absurd hc (hP r hr h1)⟩
theorem CI.wide {d : Dk} {I L : List Rc} {P Q : Rc → Prop} (h : CI d I L P) (hP : ∀ r, P r → Q r) : CI d I L Q := ⟨h.iss, h.row, h.lv, fun r hr hc => by
  rcases h.only r hr hc with h1 | h1 | h1
  · exact .inl h1
  · exact .inr (.inl h1)
  · exact .inr (.inr (hP r h1))⟩
theorem CI.openC {d : Dk} {I L : List Rc} (h : CI d I L NoP) (hn : 0 < d.n) : Ytlplogplicgfiaa.openC d = some L := by
  refine openC_row h.iss hn h.row (fun r hr hc => ?_) (fun i hi => h.cmp (mem_getD hi))
  rcases h.only r hr hc with h1 | h1 | h1
  · exact .inl (getD_mem h1)
  · exact .inr h1
  · exact h1.elim
structure Pd (n : Nat) (I L : List Rc) (p : Rc) : Prop where
  mem : p ∈ I
  num : p.h.number = firstN L + L.length
  lo : firstN L ≤ p.h.first
  con : Con n (L ++ [p])
def nextR (L : List Rc) (p : Rc) : List Rc := L.drop (p.h.first - firstN L) ++ [p]
theorem getD_drop_mem {L : List Rc} {k i : Nat} (h : k ≤ i) (hi : i < L.length) : L.getD i Rc0 ∈ L.drop k := by
  have e := getD_dropA L k (i - k) Rc0
  rw [show k + (i - k) = i by omega] at e
  rw [← e]
  exact mem_getD (by rw [List.length_drop]; omega)
theorem numL {n : Nat} {I L : List Rc} (h : Row1 n I L) {i : Nat} (hi : i < L.length) : (L.getD i Rc0).h.number = firstN L + i := by
  rw [h.num i hi, firstN_cons (by omega)]
theorem next_row {n : Nat} {I L : List Rc} {p : Rc} (hL : Row1 n I L) (hI : ∀ r ∈ I, RcK n r) (h : Pd n I L p) : Row1 n I (nextR L p) ∧ firstN (nextR L p) = p.h.first := by
  have hK := hI p h.mem
  have hnum := h.num
  have hlo := h.lo
  have hf := hK.first
  have hT : totalL (nextR L p) = totalL (L.drop (p.h.first - firstN L)) + p.h.total := by unfold nextR; rw [totalL_app]; simp [totalL]
  have hTd := totalL_drop L (p.h.first - firstN L)
  have hTp : totalL L + p.h.total ≤ n := by have := h.con.free; rw [totalL_app] at this; simpa [totalL] using this
  have hlen : (nextR L p).length = L.length - (p.h.first - firstN L) + 1 := by unfold nextR; simp
  have hN : ∀ i, i < (nextR L p).length → ((nextR L p).getD i Rc0).h.number = p.h.first + i := by
    intro i hi
    have hi' := hi
    unfold nextR at hi ⊢
    rcases getD_app (z := Rc0) hi with ⟨h1, e⟩ | ⟨h1, e⟩
    · rw [List.length_drop] at h1
      rw [e, getD_dropA, numL hL (by omega)]; omega
    · rw [List.length_drop] at h1
      rw [e]; omega
  have hF : firstN (nextR L p) = p.h.first := by rw [firstN_cons (by omega), hN 0 (by omega)]; rfl
  refine ⟨⟨fun i hi => ?_, fun i hi => ?_, fun i hi => ?_, fun _ => ?_, by omega⟩, hF⟩
  · unfold nextR at hi ⊢
    rcases getD_app (z := Rc0) hi with ⟨h1, e⟩ | ⟨h1, e⟩
    · rw [List.length_drop] at h1
      rw [e, getD_dropA]; exact hL.mem _ (by omega)
    · rw [e]; exact h.mem
  · rw [hN i hi, hN 0 (by omega)]; omega
  · have hc := h.con.con
    unfold nextR at hi ⊢
    rcases getD_app (z := Rc0) (show i < _ from Nat.lt_of_succ_lt hi) with ⟨h1, e⟩ | ⟨h1, e⟩
    · rw [List.length_drop] at h1
      rw [e, getD_dropA]
      have q0 : p.h.first - firstN L + i < (L ++ [p]).length := by simp; omega
      have c1 := hc (p.h.first - firstN L + i) (by simp; omega)
      rcases getD_app (z := Rc0) q0 with ⟨_, e0⟩ | ⟨g0, e0⟩
      · rw [e0] at c1
        rcases getD_app (z := Rc0) hi with ⟨h2, e2⟩ | ⟨h2, e2⟩
        · rw [List.length_drop] at h2
          rw [e2, getD_dropA, ← c1]
          rcases getD_app (l := L) (y := p) (z := Rc0) (i := p.h.first - firstN L + i + 1) (by simp; omega) with ⟨_, e3⟩ | ⟨g3, _⟩
          · rw [e3]; rfl
          · omega
        · rw [List.length_drop] at h2
          rw [e2, ← c1]
          rcases getD_app (l := L) (y := p) (z := Rc0) (i := p.h.first - firstN L + i + 1) (by simp; omega) with ⟨g3, _⟩ | ⟨_, e3⟩
          · omega
          · rw [e3]
      · omega
    · simp only [List.length_append, List.length_drop, List.length_cons, List.length_nil] at hi
      rw [List.length_drop] at h1
      omega
  · rw [hN 0 (by omega)]
    unfold nextR
    rw [show (L.drop (p.h.first - firstN L) ++ [p]).length - 1 = (L.drop (p.h.first - firstN L)).length by simp]
    rw [List.getD_eq_getElem?_getD, List.getElem?_append_right (by omega), Nat.sub_self]; rfl
theorem next_mem {L : List Rc} {p q : Rc} (h : q ∈ nextR L p) : q ∈ L ∨ q = p := by
  unfold nextR at h
  rcases List.mem_append.1 h with h | h
  · exact .inl (List.mem_of_mem_drop h)
  · exact .inr (by simpa using h)
theorem next_p {L : List Rc} {p : Rc} : p ∈ nextR L p := by unfold nextR; simp
theorem next_only {n : Nat} {I L : List Rc} {p : Rc} (hL : Row1 n I L) (hI : ∀ r ∈ I, RcK n r) (h : Pd n I L p) {r : Rc} (hr : r ∈ L ∨ r.h.number < firstN L ∨ r = p) : r ∈ nextR L p ∨ r.h.number < firstN (nextR L p) := by
  have hlo := h.lo
  rw [(next_row hL hI h).2]
  rcases hr with hr | hr | hr
  · obtain ⟨i, hi, rfl⟩ := getD_mem hr
    rcases Nat.lt_or_ge i (p.h.first - firstN L) with h1 | h1
    · right; rw [numL hL hi]; omega
    · left; exact List.mem_append_left _ (getD_drop_mem h1 hi)
  · right; omega
  · left; rw [hr]; exact next_p
theorem CI.openC_next {d : Dk} {I L : List Rc} {p : Rc} (h : CI d I L (fun r => r = p)) (hp : Pd d.n I L p) (hc : Cmp d p) (hn : 0 < d.n) : Ytlplogplicgfiaa.openC d = some (nextR L p) := by
  obtain ⟨h1, _⟩ := next_row h.row h.iss.ok hp
  refine openC_row h.iss hn h1 (fun r hr hcr => ?_) (fun i hi => ?_)
  · rcases next_only h.row h.iss.ok hp (h.only r hr hcr) with h2 | h2
    · exact .inl (getD_mem h2)
    · exact .inr h2
  · rcases next_mem (mem_getD hi) with h2 | h2
    · exact h.cmp h2
    · rw [h2]; exact hc
theorem CI.next {d : Dk} {I L : List Rc} {p : Rc} (h : CI d I L (fun r => r = p)) (hp : Pd d.n I L p) (hl : Lv d p) : CI d I (nextR L p) NoP := by
  obtain ⟨h1, _⟩ := next_row h.row h.iss.ok hp
  refine ⟨h.iss, h1, fun q hq => ?_, fun r hr hcr => ?_⟩
  · rcases next_mem hq with h2 | h2
    · exact h.lv q h2
    · rw [h2]; exact hl
  · rcases next_only h.row h.iss.ok hp (h.only r hr hcr) with h2 | h2
    · exact .inl h2
    · exact .inr (.inl h2)
theorem CI.chg {d d' : Dk} {I L R : List Rc} {P Y : Rc → Prop} (h : CI d I L P) (hn : 0 < d.n) (hc : Chg d d' Y) (hR : Con d.n R) (hL : ∀ q ∈ L, q ∈ R) (hY : ∀ y, Y y → y ∈ I ∧ y ∈ R ∧ (y ∈ L ∨ P y)) : CI d' I L P := by
  refine ⟨hc.iss h.iss (fun y hy => (hY y hy).1), by rw [hc.1]; exact h.row, fun q hq => ?_, fun r hr hcr => ?_⟩
  · refine hc.lv hn (h.lv q hq) (fun y k j hy hk hj e => ?_)
    obtain ⟨rfl, rfl⟩ := hR.mem (hL q hq) (hY y hy).2.1 hj hk e
    rfl
  · classical
    by_cases hy : Y r
    · rcases (hY r hy).2.2 with h1 | h1
      · exact .inl h1
      · exact .inr (.inr h1)
    · exact h.only r hr (hc.cmp h.iss (fun y hy => (hY y hy).1) hr hy hn hcr)
theorem Chg.none {d d' : Dk} (hn : d'.n = d.n) (h : ∀ i : Int, d'.read i = d.read i) : Chg d d' NoP := ⟨hn, fun i _ => .inl (h i)⟩
theorem CI.same {d d' : Dk} {I L : List Rc} {P : Rc → Prop} (h : CI d I L P) (hn : 0 < d.n) (hc : Chg d d' NoP) : CI d' I L P := h.chg hn hc h.con (fun _ hq => hq) (fun _ hy => hy.elim)
theorem CI.less {d d' : Dk} {I L : List Rc} {P : Rc → Prop} (h : CI d I L P) (hn : 0 < d.n) (hc : Less d d') (hl : ∀ q ∈ L, Lv d' q) : CI d' I L P := ⟨hc.iss h.iss, by rw [hc.n]; exact h.row, hl, fun r hr hcr => h.only r hr (hc.cmp hn hcr)⟩
theorem CI.prune {d : Dk} {I L : List Rc} {P : Rc → Prop} (h : CI d I L P) (hn : 0 < d.n) : ∃ I0, CI d I0 L P ∧ (∀ r ∈ I0, r ∈ I ∧ r.h.life ≤ (lastL d d.n).2) ∧ (∀ r ∈ I, Cmp d r → r ∈ I0) := by
  obtain ⟨I0, h1, h2, h3⟩ := h.iss.prune
  have hcm : ∀ r ∈ I, Cmp d r → r ∈ I0 := fun r hr hc => by
    obtain ⟨t, ht, h4⟩ := hc 0 (h.iss.ok r hr).pos
    exact h3 r hr ⟨_, t, 0, _, Nat.mod_lt _ hn, ht, h4⟩
  refine ⟨I0, ⟨h1, ⟨fun i hi => hcm _ (h.row.mem i hi) (h.cmp (mem_getD hi)), h.row.num, h.row.con, h.row.fst, h.row.free⟩, h.lv, fun r hr => h.only r (h2 r hr).1⟩, fun r hr => ⟨(h2 r hr).1, ?_⟩, hcm⟩
  obtain ⟨pl, t, k, dt, h4, h5, h6⟩ := (h2 r hr).2
  exact (scan h.iss (Nat.le_refl d.n)).ge pl t _ _ _ h4 h5 h6
theorem CI.life {d : Dk} {I L : List Rc} {P : Rc → Prop} (h : CI d I L P) {lam : Nat} (hl : ∀ r ∈ I, r.h.life ≤ lam) : (lastL d d.n).2 ≤ lam := by
  refine (scan h.iss (Nat.le_refl d.n)).le lam (fun p t g k dt hp ht hk => ?_)
  obtain ⟨r, hr, e, _⟩ := h.iss.pcs p t g k dt hp ht hk
  rw [← e]; exact hl r hr
theorem mend_pw : ∀ {J : List (Nat × List Nat)} {d : Dk} {m : Nat}, (∀ x ∈ J, x.1 < 2 * d.n) → (mendL J d m).2.2 = false → 0 ≤ d.pw ∧ (mendL J d m).1.pw = 0
  | [], d, m, _, h => absurd h (by simp [mendL])
  | (i, b) :: J, d, m, hJ, h => by
    have hi : i < 2 * d.n := hJ (i, b) List.mem_cons_self
    have hJ2 : ∀ x ∈ J, x.1 < 2 * d.n := fun x hx => hJ x (List.mem_cons_of_mem _ hx)
    have hn := Dk.write_n d (i : Int) b
    simp only [mendL] at h ⊢
    by_cases hr : d.read (i : Int) = some b
    · rw [if_pos hr] at h ⊢; exact mend_pw hJ2 h
    · rw [if_neg hr] at h ⊢
      by_cases hp : d.pw = 0
      · have hw : (d.write (i : Int) b).2 = false ∧ (d.write (i : Int) b).1.pw = 0 := by
          unfold Dk.write
          rw [if_pos ⟨by omega, by omega⟩, if_pos hp]
          exact ⟨rfl, hp⟩
        rw [if_neg (by rw [hw.1]; decide)]
        exact ⟨by omega, hw.2⟩
      · have hw : (d.write (i : Int) b).2 = true ∧ (d.write (i : Int) b).1.pw = if 0 < d.pw then d.pw - 1 else d.pw := by
          unfold Dk.write
          rw [if_pos ⟨by omega, by omega⟩, if_neg hp]
          exact ⟨rfl, rfl⟩
        rw [if_pos hw.1] at h ⊢
        obtain ⟨h1, h2⟩ := mend_pw (J := J) (d := (d.write (i : Int) b).1) (m := m + 1) (fun x hx => by rw [hn]; exact hJ2 x hx) h
        refine ⟨?_, h2⟩
        rw [hw.2] at h1
        split at h1 <;> omega
structure JI (d : Dk) (I : List Rc) (j : Jn) : Prop where
  ci : CI d I j.live NoP
  life : ∀ r ∈ I, r.h.life < j.life ∨ (r.h.life = j.life ∧ r.h.number ≤ lastN j.live)
theorem CI.opens {d : Dk} {I L : List Rc} {P : Rc → Prop} {l : List Rc} (h : CI d I L P) (hn : 0 < d.n) (hlam : ∀ r ∈ I, r.h.life < 4294967295)
    (ho : Ytlplogplicgfiaa.openC d = some l) {R : List Rc} (hR : Con d.n R) (hL : ∀ q ∈ L, q ∈ R) (hl : ∀ q ∈ l, q ∈ I ∧ q ∈ R ∧ Cmp d q ∧ (q ∈ L ∨ P q)) :
    (∃ d', openL d = (d', 420, none) ∧ 0 ≤ d.pw ∧ d'.pw = 0 ∧ d'.n = d.n ∧ CI d' I L P) ∨
    (∃ d' m I0, openL d = (d', 0, some ⟨l, (lastL d d.n).2 + 1, m, false⟩) ∧ mendL (jobsL d.n l) d 0 = (d', m, true) ∧ d'.n = d.n ∧ CI d' I0 L P ∧ (∀ r ∈ I0, r ∈ I ∧ r.h.life ≤ (lastL d d.n).2) ∧ (∀ q ∈ l, q ∈ I0 ∧ AG d' q)) := by
  have h0 : (lastL d d.n).2 ≤ 4294967294 := h.life (lam := 4294967294) (fun r hr => by have := hlam r hr; omega)
  cases hm : mendL (jobsL d.n l) d 0 with
  | mk d' x =>
    obtain ⟨m, b⟩ := x
    obtain ⟨q1, q2⟩ := mend_chg hn hR (fun y hy => (hl y hy).2.1) hm
    cases b with
    | false =>
      left
      have hp := mend_pw (J := jobsL d.n l) (d := d) (m := 0) (jobsL_in hn) (by rw [hm])
      rw [hm] at hp
      exact ⟨d', openL_pow (by omega) ho (by omega) hm, hp.1, hp.2, q1.1, h.chg hn q1 hR hL (fun y hy => ⟨(hl y hy).1, (hl y hy).2.1, (hl y hy).2.2.2⟩)⟩
    | true =>
      right
      obtain ⟨I0, c1, c2, c3⟩ := h.prune hn
      refine ⟨d', m, I0, openL_ok (by omega) ho (by omega) hm, rfl, q1.1, ?_, c2, fun q hq => ⟨c3 q (hl q hq).1 (hl q hq).2.2.1, q2 rfl q hq⟩⟩
      exact c1.chg hn q1 hR hL (fun y hy => ⟨c3 y (hl y hy).1 (hl y hy).2.2.1, (hl y hy).2.1, (hl y hy).2.2.2⟩)
theorem CI.open0 {d : Dk} {I L : List Rc} (h : CI d I L NoP) (hn : 0 < d.n) (hlam : ∀ r ∈ I, r.h.life < 4294967295) :
    (∃ d', openL d = (d', 420, none) ∧ 0 ≤ d.pw ∧ d'.pw = 0 ∧ d'.n = d.n ∧ CI d' I L NoP) ∨
    (∃ d' m I0, openL d = (d', 0, some ⟨L, (lastL d d.n).2 + 1, m, false⟩) ∧ mendL (jobsL d.n L) d 0 = (d', m, true) ∧ d'.n = d.n ∧ JI d' I0 ⟨L, (lastL d d.n).2 + 1, m, false⟩ ∧ (∀ r ∈ I0, r ∈ I) ∧ (∀ q ∈ L, AG d' q)) := by
  rcases h.opens hn hlam (h.openC hn) h.con (fun _ hq => hq) (fun q hq => ⟨h.mem hq, hq, h.cmp hq, .inl hq⟩) with h1 | ⟨d', m, I0, h1, h2, h3, h4, h5, h6⟩
  · exact .inl h1
  · exact .inr ⟨d', m, I0, h1, h2, h3, ⟨h4, fun r hr => .inl (Nat.lt_succ_of_le (h5 r hr).2)⟩, fun r hr => (h5 r hr).1, fun q hq => (h6 q hq).2⟩
theorem CI.open1 {d : Dk} {I L : List Rc} {p : Rc} (h : CI d I L (fun r => r = p)) (hp : Pd d.n I L p) (hn : 0 < d.n) (hlam : ∀ r ∈ I, r.h.life < 4294967295) :
    (∃ d', openL d = (d', 420, none) ∧ 0 ≤ d.pw ∧ d'.pw = 0 ∧ d'.n = d.n ∧ CI d' I L (fun r => r = p)) ∨
    (∃ l d' m I0, (l = L ∨ l = nextR L p) ∧ openL d = (d', 0, some ⟨l, (lastL d d.n).2 + 1, m, false⟩) ∧ d'.n = d.n ∧ JI d' I0 ⟨l, (lastL d d.n).2 + 1, m, false⟩ ∧ (∀ r ∈ I0, r ∈ I) ∧ (∀ q ∈ l, AG d' q)) := by
  classical
  by_cases hc : Cmp d p
  · have hpm : ∀ q ∈ nextR L p, q ∈ I ∧ q ∈ L ++ [p] ∧ Cmp d q ∧ (q ∈ L ∨ q = p) := fun q hq => by
      rcases next_mem hq with h2 | h2
      · exact ⟨h.mem h2, List.mem_append_left _ h2, h.cmp h2, .inl h2⟩
      · rw [h2]; exact ⟨hp.mem, by simp, hc, .inr rfl⟩
    rcases h.opens hn hlam (h.openC_next hp hc hn) hp.con (fun _ hq => List.mem_append_left _ hq) hpm with h1 | ⟨d', m, I0, h1, h2, h3, h4, h5, h6⟩
    · exact .inl h1
    · right
      have hp0 : Pd d'.n I0 L p := ⟨(h6 p next_p).1, hp.num, hp.lo, by rw [h3]; exact hp.con⟩
      exact ⟨_, d', m, I0, .inr rfl, h1, h3, ⟨h4.next hp0 (h6 p next_p).2.lv, fun r hr => .inl (Nat.lt_succ_of_le (h5 r hr).2)⟩, fun r hr => (h5 r hr).1, fun q hq => (h6 q hq).2⟩
  · have h0 : CI d I L NoP := h.noP (fun r _ e hc2 => hc (by rw [← e]; exact hc2))
    rcases h0.open0 hn hlam with ⟨d', h1, h2, h3, h4, h5⟩ | ⟨d', m, I0, h1, h2, h3, h4, h5, h6⟩
    · exact .inl ⟨d', h1, h2, h3, h4, h5.wide (fun _ e => e.elim)⟩
    · exact .inr ⟨L, d', m, I0, .inl rfl, h1, h3, h4, h5, h6⟩
theorem JI.append {d d' : Dk} {I : List Rc} {j : Jn} {l : List (List Nat)} {f g : Nat} {rec : List Nat} {b : Bool} (h : JI d I j) (hn : 0 < d.n) (hJ : JInv d.n j l f) (hg : f ≤ g) (hg2 : g ≤ f + l.length) (hrec : rec.length ≤ 4032) (hb : ∀ x ∈ rec, x < 256) (hm : f + l.length ≤ 4294967294) (hlf : j.life < 4294967295) (hl1 : 1 ≤ j.life) (hfr : (cntL rec.length : Int) ≤ freeI d.n j.live)
    (hw : writeL (ajobs d.n (newR d.n j rec g)) d = (d', b)) :
    d'.n = d.n ∧ CI d' (newR d.n j rec g :: I) j.live (fun r => r = newR d.n j rec g) ∧ Pd d.n (newR d.n j rec g :: I) j.live (newR d.n j rec g) ∧ (∀ r ∈ newR d.n j rec g :: I, r.h.life ≤ j.life) ∧
    (b = true → JI d' (newR d.n j rec g :: I) ⟨nextR j.live (newR d.n j rec g), j.life, j.mended, j.down⟩ ∧ AG d' (newR d.n j rec g)) ∧
    Chg d d' (fun y => y = newR d.n j rec g) ∧ (∀ q ∈ j.live, AG d q → AG d' q) := by
  have hlst := hJ.h.lst
  have hfst := hJ.h.fst
  have hf1 := hJ.h.ok.fst
  have hlen := hJ.h.len
  have hTf : totalL j.live + cntL rec.length ≤ d.n := by unfold freeI at hfr; omega
  have hK : RcK d.n (newR d.n j rec g) := ⟨rfl, hrec, by show cntL rec.length ≤ _; omega, by show lastN j.live + 1 < _; omega, by show j.life < _; omega, hl1, by show 1 ≤ g; omega, by show g ≤ lastN j.live + 1; omega, hb, newAt_lt hn⟩
  have hfresh : ∀ q ∈ I, q.h ≠ (newR d.n j rec g).h := fun q hq e => by
    have e1 : q.h.life = j.life := by rw [e]; rfl
    have e2 : q.h.number = lastN j.live + 1 := by rw [e]; rfl
    rcases h.life q hq with h1 | h1 <;> omega
  have hI2 := h.ci.iss.cons hK hfresh
  obtain ⟨c1, c2⟩ := write_chg hn h.ci.iss hK hfresh hw
  have hcon : Con d.n (j.live ++ [newR d.n j rec g]) := by
    refine ⟨fun i hi => ?_, fun i hi => ?_, ?_⟩
    · rcases getD_app (z := Rc0) hi with ⟨h1, e⟩ | ⟨h1, e⟩
      · rw [e]; exact hJ.at_ i h1
      · rw [e]; exact newAt_lt hn
    · rcases getD_app (z := Rc0) (show i < _ from Nat.lt_of_succ_lt hi) with ⟨h1, e⟩ | ⟨h1, e⟩
      · rcases getD_app (z := Rc0) hi with ⟨h2, e2⟩ | ⟨h2, e2⟩
        · rw [e, e2]; exact hJ.con i h2
        · rw [e, e2]
          show newAt d.n j.live = _
          unfold newAt
          rw [if_neg (by omega), show j.live.length - 1 = i by omega]
      · simp only [List.length_append, List.length_cons, List.length_nil] at hi
        omega
    · rw [totalL_app]
      show totalL j.live + totalL [newR d.n j rec g] ≤ _
      have : totalL [newR d.n j rec g] = cntL rec.length := by simp [totalL, newR]
      omega
  have hPd : Pd d.n (newR d.n j rec g :: I) j.live (newR d.n j rec g) := ⟨List.mem_cons_self, by show lastN j.live + 1 = _; rw [hlen, ← hfst]; exact hlst, by show firstN j.live ≤ g; omega, hcon⟩
  have hCI : CI d (newR d.n j rec g :: I) j.live (fun r => r = newR d.n j rec g) := ⟨hI2, ⟨fun i hi => List.mem_cons_of_mem _ (h.ci.row.mem i hi), h.ci.row.num, h.ci.row.con, h.ci.row.fst, h.ci.row.free⟩, h.ci.lv, fun r hr hc => by
    rcases List.mem_cons.1 hr with e | hr
    · exact .inr (.inr e)
    · rcases h.ci.only r hr hc with h1 | h1 | h1
      · exact .inl h1
      · exact .inr (.inl h1)
      · exact h1.elim⟩
  have hCI2 := hCI.chg hn c1 hcon (fun _ hq => List.mem_append_left _ hq) (fun y hy => by
    have hy : y = _ := hy
    subst hy
    exact ⟨List.mem_cons_self, by simp, .inr rfl⟩)
  refine ⟨c1.1, hCI2, hPd, fun r hr => ?_, fun hbt => ⟨⟨hCI2.next (by rw [c1.1]; exact hPd) (c2 hbt).lv, fun r hr => ?_⟩, c2 hbt⟩, c1, fun q hq hag => c1.ag hn hag (fun y k i hy hk hi e => ?_)⟩
  · rcases List.mem_cons.1 hr with e | hr
    · rw [e]; exact Nat.le_refl _
    · rcases h.life r hr with h1 | h1 <;> omega
  · have hlast : lastN (nextR j.live (newR d.n j rec g)) = lastN j.live + 1 := by
      unfold nextR lastN
      rw [show (j.live.drop ((newR d.n j rec g).h.first - firstN j.live) ++ [newR d.n j rec g]).length - 1 = (j.live.drop ((newR d.n j rec g).h.first - firstN j.live)).length by simp]
      rw [List.getD_eq_getElem?_getD (l := j.live.drop _ ++ _), List.getElem?_append_right (by omega), Nat.sub_self]; rfl
    show r.h.life < j.life ∨ (r.h.life = j.life ∧ r.h.number ≤ lastN (nextR j.live (newR d.n j rec g)))
    rw [hlast]
    rcases List.mem_cons.1 hr with e | hr
    · right; rw [e]; exact ⟨rfl, Nat.le_refl _⟩
    · rcases h.life r hr with h1 | h1
      · exact .inl h1
      · right; omega
  · have hy : y = _ := hy
    subst hy
    obtain ⟨e1, e2⟩ := hcon.mem (List.mem_append_left _ hq) (by simp) hi hk e
    rw [e1, e2]
end Go.Proofs.Ytlplogplicgfiaa
