import Derived.Test.YtlplogplicgfiaaZ10P2
namespace Go.Proofs.Ytlplogplicgfiaa
open Go Go.RowKit
structure Scan (d : Dk) (I : List Rc) (m : Nat) (s : Rc × Nat) : Prop where
  src : s.1 = Rc0 ∨ (s.1 ∈ I ∧ Cmp d s.1)
  dom : ∀ r ∈ I, Cmp d r → r.at_ < m → Dom s.1 r
  ge : ∀ (p t : Nat) (g : Hd) (k : Nat) (dt : List Nat), p < m → t < 2 → tk d ((p + t * d.n : Nat) : Int) = some (g, k, dt) → g.life ≤ s.2
  le : ∀ lam, (∀ (p t : Nat) (g : Hd) (k : Nat) (dt : List Nat), p < m → t < 2 → tk d ((p + t * d.n : Nat) : Int) = some (g, k, dt) → g.life ≤ lam) → s.2 ≤ lam
theorem scan {d : Dk} {I : List Rc} (hI : Iss d I) : ∀ {m : Nat}, m ≤ d.n → Scan d I m (lastL d m)
  | 0, _ => ⟨.inl rfl, fun _ _ _ h => absurd h (Nat.not_lt_zero _), fun _ _ _ _ _ h => absurd h (Nat.not_lt_zero _), fun _ _ => Nat.zero_le _⟩
  | m + 1, hm => by
    have ih := scan hI (m := m) (by omega)
    have h0 := lstep_ok hI (pl := m) (t := 0) (by omega) ih.src
    have h1 := lstep_ok hI (pl := m) (t := 1) (by omega) h0.1
    have e : lastL d (m + 1) = lstep d m (lstep d m (lastL d m) (tk d ((m + 0 * d.n : Nat) : Int))) (tk d ((m + 1 * d.n : Nat) : Int)) := rfl
    rw [e]
    obtain ⟨a1, a2, a3, a4, a5, a6⟩ := h0
    obtain ⟨b1, b2, b3, b4, b5, b6⟩ := h1
    refine ⟨b1, fun r hr hc hlt => ?_, fun p t g k dt hp ht hk => ?_, fun lam hl => ?_⟩
    · rcases Nat.lt_or_ge r.at_ m with h | h
      · exact b2.trans (a2.trans (ih.dom r hr hc h))
      · have e : r.at_ = m := by omega
        obtain ⟨t, ht, h2⟩ := hc 0 (hI.ok r hr).pos
        rcases (show t = 0 ∨ t = 1 by omega) with rfl | rfl
        · exact b2.trans (a4 r hr hc e h2)
        · exact b4 r hr hc e h2
    · rcases Nat.lt_or_ge p m with h | h
      · exact Nat.le_trans (ih.ge p t g k dt h ht hk) (Nat.le_trans a3 b3)
      · obtain rfl : p = m := by omega
        rcases (show t = 0 ∨ t = 1 by omega) with rfl | rfl
        · exact Nat.le_trans (a5 g k dt hk) b3
        · exact b5 g k dt hk
    · refine b6 lam (a6 lam (ih.le lam (fun p t g k dt hp ht hk => hl p t g k dt (by omega) ht hk)) (fun g k dt hk => hl m 0 g k dt (by omega) (by decide) hk)) (fun g k dt hk => hl m 1 g k dt (by omega) (by decide) hk)
theorem last_is {d : Dk} {I : List Rc} (hI : Iss d I) {x : Rc} (hx : x ∈ I) (hc : Cmp d x) (hu : ∀ r ∈ I, Cmp d r → r = x ∨ r.h.number < x.h.number) : (lastL d d.n).1 = x := by
  have s := scan hI (Nat.le_refl d.n)
  have hd := s.dom x hx hc (hI.ok x hx).at_
  have h1 := (hI.ok x hx).first1
  have h2 := (hI.ok x hx).first
  rcases s.src with h | ⟨h, h3⟩
  · rw [h] at hd
    unfold Dom at hd
    simp only [Rc0] at hd
    omega
  · rcases hu _ h h3 with e | e
    · exact e
    · unfold Dom at hd; omega
theorem last_no {d : Dk} {I : List Rc} (hI : Iss d I) (hu : ∀ r ∈ I, ¬ Cmp d r) : (lastL d d.n).1 = Rc0 := by
  have s := scan hI (Nat.le_refl d.n)
  rcases s.src with h | ⟨h, h3⟩
  · exact h
  · exact absurd h3 (hu _ h)
theorem bAt_ok {d : Dk} {I : List Rc} (hI : Iss d I) (hn : 0 < d.n) {e num t : Nat} {r : Rc} (h : bAt d e num t = some r) : r ∈ I ∧ Cmp d r ∧ r.h.number + 1 = num := by
  cases hk : tk d ((e + t * d.n : Nat) : Int) with
  | none => rw [bAt_none hk] at h; exact absurd h (by simp)
  | some x =>
    obtain ⟨g, k, dt⟩ := x
    by_cases hc : g.number + 1 ≠ num ∨ k + 1 ≠ g.total ∨ d.n < g.total
    · rw [bAt_off hk hc] at h; exact absurd h (by simp)
    · cases hf : findL d ((e + d.n - k) % d.n) g with
      | none => rw [bAt_miss hk hf] at h; exact absurd h (by simp)
      | some rec =>
        rw [bAt_hit hk hc hf] at h
        have h0 := tk_total hk
        obtain ⟨q, hq, f1, f2, f3, f4⟩ := find_some hI (Nat.mod_lt _ hn) (by omega) hf
        have e0 : (⟨g, (e + d.n - k) % d.n, rec⟩ : Rc) = q := by rw [← f1, ← f2, f3]
        rw [e0] at h
        cases h
        exact ⟨hq, f4, by rw [f1]; omega⟩
theorem before_no {d : Dk} {I : List Rc} (hI : Iss d I) (hn : 0 < d.n) {a num : Nat} (hu : ∀ r ∈ I, Cmp d r → r.h.number + 1 ≠ num) : beforeL d a num = none := by
  unfold beforeL
  refine before_none (fun t _ => ?_)
  cases h : bAt d ((a + d.n - 1) % d.n) num t with
  | none => rfl
  | some r =>
    obtain ⟨h1, h2, h3⟩ := bAt_ok hI hn h
    exact absurd h3 (hu r h1 h2)
theorem mod_back {n a k : Nat} (hn : 0 < n) (ha : a < n) (hk : k ≤ n) : ((a + k) % n + n - k) % n = a := by
  have h1 := Nat.div_add_mod (a + k) n
  have h2 := Nat.mod_lt (a + k) hn
  have h3 : (a + k) / n < 2 := by rw [Nat.div_lt_iff_lt_mul hn]; omega
  generalize (a + k) / n = q at h1 h3
  rcases (show q = 0 ∨ q = 1 by omega) with e | e
  · rw [e, Nat.mul_zero, Nat.zero_add] at h1
    rw [h1, show a + k + n - k = a + n by omega, Nat.add_mod_right, Nat.mod_eq_of_lt ha]
  · rw [e, Nat.mul_one] at h1
    rw [show (a + k) % n + n - k = a by omega, Nat.mod_eq_of_lt ha]
theorem before_is {d : Dk} {I : List Rc} (hI : Iss d I) (hn : 0 < d.n) {c : Rc} {a num : Nat} (hc : c ∈ I) (hcm : Cmp d c) (hnum : c.h.number + 1 = num) (hat : (c.at_ + c.h.total) % d.n = a) (hu : ∀ r ∈ I, Cmp d r → r.h.number + 1 = num → r = c) : beforeL d a num = some c := by
  have hk := hI.ok c hc
  have hpos := hk.pos
  have htn := hk.totn
  have hca := hk.at_
  unfold beforeL
  have hE : (a + d.n - 1) % d.n = (c.at_ + (c.h.total - 1)) % d.n := by
    have h1 : a = ((c.at_ + (c.h.total - 1)) % d.n + 1) % d.n := by
      rw [← hat, Nat.mod_add_mod]; congr 1; omega
    have h2 := Nat.mod_lt (c.at_ + (c.h.total - 1)) hn
    have := mod_back (n := d.n) (a := (c.at_ + (c.h.total - 1)) % d.n) (k := 1) hn h2 (by omega)
    rw [h1]; exact this
  have each : ∀ t, bAt d ((a + d.n - 1) % d.n) num t = none ∨ bAt d ((a + d.n - 1) % d.n) num t = some c := by
    intro t
    cases h : bAt d ((a + d.n - 1) % d.n) num t with
    | none => exact .inl rfl
    | some r =>
      obtain ⟨h1, h2, h3⟩ := bAt_ok hI hn h
      right; rw [hu r h1 h2 h3]
  have one_ : ∃ t, t < 2 ∧ bAt d ((a + d.n - 1) % d.n) num t = some c := by
    obtain ⟨t, ht, h⟩ := hcm (c.h.total - 1) (by omega)
    refine ⟨t, ht, ?_⟩
    unfold At1 at h
    rw [← hE] at h
    have hb : ((a + d.n - 1) % d.n + d.n - (c.h.total - 1)) % d.n = c.at_ := by
      rw [hE]; exact mod_back hn hca (by omega)
    have hf := find_of hI hc hcm hn
    rw [← hb] at hf
    rw [bAt_hit h (by omega) hf, hb]
  obtain ⟨t, ht, h⟩ := one_
  rcases (show t = 0 ∨ t = 1 by omega) with rfl | rfl
  · exact before_some (by decide) (fun j hj => absurd hj (Nat.not_lt_zero _)) h
  · rcases each 0 with h0 | h0
    · exact before_some (by decide) (fun j hj => by obtain rfl : j = 0 := by omega
                                                    exact h0) h
    · exact before_some (by decide) (fun j hj => absurd hj (Nat.not_lt_zero _)) h0
end Go.Proofs.Ytlplogplicgfiaa

namespace Go.Proofs.Ytlplogplicgfiaa
open Go Go.RowKit
structure Row1 (n : Nat) (I : List Rc) (L : List Rc) : Prop where
  mem : ∀ i, i < L.length → L.getD i Rc0 ∈ I
  num : ∀ i, i < L.length → (L.getD i Rc0).h.number = (L.getD 0 Rc0).h.number + i
  con : ∀ i, i + 1 < L.length → (L.getD (i + 1) Rc0).at_ = ((L.getD i Rc0).at_ + (L.getD i Rc0).h.total) % n
  fst : 0 < L.length → (L.getD (L.length - 1) Rc0).h.first = (L.getD 0 Rc0).h.number
  free : totalL L ≤ n
def Only (d : Dk) (I L : List Rc) : Prop := ∀ r ∈ I, Cmp d r → (∃ i, i < L.length ∧ r = L.getD i Rc0) ∨ r.h.number < firstN L
theorem drop_head {L : List Rc} {i : Nat} (h : i < L.length) : L.drop i = L.getD i Rc0 :: L.drop (i + 1) := by
  rw [List.drop_eq_getElem_cons h, List.getD_eq_getElem?_getD, List.getElem?_eq_getElem h]; rfl
theorem drop_0 {L : List Rc} {i : Nat} : (L.drop i).getD 0 Rc0 = L.getD i Rc0 := by rw [getD_dropA, Nat.add_zero]
theorem chain_step {d : Dk} {I L : List Rc} (hI : Iss d I) (hn : 0 < d.n) (hL : Row1 d.n I L) (ho : Only d I L) {i : Nat} (hi : i + 1 < L.length) (hc : Cmp d (L.getD i Rc0)) : chainS d (L.getD (L.length - 1) Rc0) (L.drop i) = chainS d (L.getD (L.length - 1) Rc0) (L.drop (i + 1)) := by
  have h0 : 0 < L.length := by omega
  have hF : firstN L = (L.getD 0 Rc0).h.number := firstN_cons h0
  have hnl := hL.num (L.length - 1) (by omega)
  have hni := hL.num i (by omega)
  have hni1 := hL.num (i + 1) hi
  have hi1 := (hI.ok _ (hL.mem i (by omega))).first1
  have hi2 := (hI.ok _ (hL.mem i (by omega))).first
  have hf := hL.fst h0
  have hb : beforeL d ((L.drop (i + 1)).getD 0 Rc0).at_ ((L.drop (i + 1)).getD 0 Rc0).h.number = some (L.getD i Rc0) := by
    rw [drop_0]
    refine before_is hI hn (hL.mem i (by omega)) hc (by omega) (hL.con i hi).symm (fun r hr hcr hnr => ?_)
    rcases ho r hr hcr with ⟨k, hk, e⟩ | e
    · have := hL.num k hk
      rw [← e] at this
      have : k = i := by omega
      rw [e, this]
    · omega
  have hfr : ¬ freeI d.n (L.getD i Rc0 :: L.drop (i + 1)) < 0 := by
    rw [← drop_head (by omega)]
    have h1 := totalL_drop L i
    have h2 := hL.free
    unfold freeI; omega
  rw [drop_head (by omega)]
  exact chainS_step (by omega) (by rw [drop_0]; omega) hb (by rw [drop_0]; omega) hfr
theorem chain_up {d : Dk} {I L : List Rc} (hI : Iss d I) (hn : 0 < d.n) (hL : Row1 d.n I L) (ho : Only d I L) {m : Nat} (hc : ∀ i, m ≤ i → i < L.length → Cmp d (L.getD i Rc0)) : ∀ {i : Nat}, m ≤ i → i < L.length → chainS d (L.getD (L.length - 1) Rc0) (L.drop m) = chainS d (L.getD (L.length - 1) Rc0) (L.drop i)
  | i, h1, h2 => by
    rcases Nat.lt_or_ge m i with h3 | h3
    · obtain ⟨k, rfl⟩ : ∃ k, i = k + 1 := ⟨i - 1, by omega⟩
      rw [chain_up hI hn hL ho hc (i := k) (by omega) (by omega)]
      exact chain_step hI hn hL ho h2 (hc k (by omega) (by omega))
    · obtain rfl : i = m := by omega
      rfl
theorem open_last {d : Dk} {I L : List Rc} (hI : Iss d I) (hL : Row1 d.n I L) (ho : Only d I L) (h0 : 0 < L.length) (hc : Cmp d (L.getD (L.length - 1) Rc0)) : openC d = chainS d (L.getD (L.length - 1) Rc0) (L.drop (L.length - 1)) := by
  have hx := hL.mem (L.length - 1) (by omega)
  have hF : firstN L = (L.getD 0 Rc0).h.number := firstN_cons h0
  have hnx := hL.num (L.length - 1) (by omega)
  have h1 := (hI.ok _ hx).first1
  have h2 := (hI.ok _ hx).first
  have hl : (lastL d d.n).1 = L.getD (L.length - 1) Rc0 := by
    refine last_is hI hx hc (fun r hr hcr => ?_)
    rcases ho r hr hcr with ⟨k, hk, e⟩ | e
    · have h3 := hL.num k hk
      rw [← e] at h3
      rcases Nat.lt_or_ge k (L.length - 1) with h4 | h4
      · right; omega
      · left; rw [e, show k = L.length - 1 by omega]
    · right; omega
  unfold openC
  rw [hl, if_neg (by omega), drop_head (by omega), List.drop_of_length_le (by omega)]
theorem openC_row {d : Dk} {I L : List Rc} (hI : Iss d I) (hn : 0 < d.n) (hL : Row1 d.n I L) (ho : Only d I L) (hc : ∀ i, i < L.length → Cmp d (L.getD i Rc0)) : openC d = some L := by
  rcases Nat.eq_zero_or_pos L.length with h0 | h0
  · have e : L = [] := List.length_eq_zero_iff.1 h0
    subst e
    have hl := last_no hI (fun r hr hcr => by
      rcases ho r hr hcr with ⟨i, hi, _⟩ | e
      · exact absurd hi (Nat.not_lt_zero _)
      · have h1 := (hI.ok r hr).first1
        have h2 := (hI.ok r hr).first
        simp only [firstN, List.length_nil, if_true] at e
        omega)
    unfold openC
    rw [hl]; rfl
  · rw [open_last hI hL ho h0 (hc _ (by omega)), ← chain_up hI hn hL ho (m := 0) (fun i _ hi => hc i hi) (i := L.length - 1) (by omega) (by omega)]
    refine chainS_stop (.inr ?_)
    rw [hL.fst h0]; exact Nat.le_refl _
theorem openC_rot {d : Dk} {I L : List Rc} (hI : Iss d I) (hn : 0 < d.n) (hL : Row1 d.n I L) (ho : Only d I L) {m : Nat} (hm : m + 1 < L.length) (hc : ∀ i, m + 1 ≤ i → i < L.length → Cmp d (L.getD i Rc0)) (hb : ¬ Cmp d (L.getD m Rc0)) : openC d = none := by
  have h0 : 0 < L.length := by omega
  have hF : firstN L = (L.getD 0 Rc0).h.number := firstN_cons h0
  have hnx := hL.num (L.length - 1) (by omega)
  have hnm := hL.num m (by omega)
  have hnm1 := hL.num (m + 1) hm
  have h1 := (hI.ok _ (hL.mem m (by omega))).first1
  have h2 := (hI.ok _ (hL.mem m (by omega))).first
  have hf := hL.fst h0
  rw [open_last hI hL ho h0 (hc _ (by omega) (by omega)), ← chain_up hI hn hL ho (m := m + 1) hc (i := L.length - 1) (by omega) (by omega)]
  refine chainS_rot (by omega) (by rw [drop_0]; omega) ?_
  rw [drop_0]
  refine before_no hI hn (fun r hr hcr e => ?_)
  rcases ho r hr hcr with ⟨k, hk, e2⟩ | e2
  · have h3 := hL.num k hk
    rw [← e2] at h3
    have : k = m := by omega
    rw [e2, this] at hcr
    exact hb hcr
  · omega
end Go.Proofs.Ytlplogplicgfiaa

namespace Go.Proofs.Ytlplogplicgfiaa
open Go Go.RowKit
def ix (d : Dk) (r : Rc) (k t : Nat) : Nat := (r.at_ + k) % d.n + t * d.n
theorem ix_lt {d : Dk} {r : Rc} {k t : Nat} (hn : 0 < d.n) (ht : t < 2) : ix d r k t < 2 * d.n := by
  unfold ix
  have h1 := Nat.mod_lt (r.at_ + k) hn
  have h2 : t * d.n ≤ 1 * d.n := Nat.mul_le_mul_right _ (by omega)
  omega
theorem At1_iff {d : Dk} {r : Rc} {k t : Nat} : At1 d r k t ↔ tk d ((ix d r k t : Nat) : Int) = some (r.h, k, dataL r.dat k) := Iff.rfl
theorem tk_none {d : Dk} {i : Int} (h : d.read i = none) : tk d i = none := by
  unfold tk; rw [h]
  show takeL zeroB = none
  decide
theorem tk_read {d : Dk} {i : Int} {b : List Nat} (h : d.read i = some b) : tk d i = takeL b := by unfold tk; rw [h]; rfl
structure Less (d d' : Dk) : Prop where
  n : d'.n = d.n
  tk : ∀ i : Nat, i < 2 * d.n → Ytlplogplicgfiaa.tk d' (i : Int) = none ∨ Ytlplogplicgfiaa.tk d' (i : Int) = Ytlplogplicgfiaa.tk d (i : Int)
theorem Less.at1 {d d' : Dk} (h : Less d d') (hn : 0 < d.n) {r : Rc} {k t : Nat} (ht : t < 2) (ha : At1 d' r k t) : At1 d r k t := by
  have hi := ix_lt (d := d) (r := r) (k := k) hn ht
  have e : ix d' r k t = ix d r k t := by unfold ix; rw [h.n]
  rw [At1_iff] at ha ⊢
  rw [e] at ha
  rcases h.tk _ hi with h1 | h1
  · rw [h1] at ha; exact absurd ha (by simp)
  · rw [← h1]; exact ha
theorem Less.cmp {d d' : Dk} (h : Less d d') (hn : 0 < d.n) {r : Rc} (hc : Cmp d' r) : Cmp d r := fun k hk => by
  obtain ⟨t, ht, h1⟩ := hc k hk
  exact ⟨t, ht, h.at1 hn ht h1⟩
theorem Less.iss {d d' : Dk} {I : List Rc} (h : Less d d') (hI : Iss d I) : Iss d' I := by
  refine ⟨fun r hr => by rw [h.n]; exact hI.ok r hr, hI.uniq, fun pl t g k dt hp ht hk => ?_⟩
  rw [h.n] at hp hk ⊢
  have hi : pl + t * d.n < 2 * d.n := by
    have h2 : t * d.n ≤ 1 * d.n := Nat.mul_le_mul_right _ (by omega)
    omega
  rcases h.tk _ hi with h1 | h1
  · rw [h1] at hk; exact absurd hk (by simp)
  · rw [h1] at hk; exact hI.pcs pl t g k dt hp ht hk
theorem Less.only {d d' : Dk} {I L : List Rc} (h : Less d d') (hn : 0 < d.n) (ho : Only d I L) : Only d' I L := fun r hr hc => ho r hr (h.cmp hn hc)
structure Put (d d' : Dk) (r : Rc) (k t : Nat) : Prop where
  n : d'.n = d.n
  new : d'.read ((ix d r k t : Nat) : Int) = some (pcB r k)
  old : ∀ i : Nat, i < 2 * d.n → i ≠ ix d r k t → d'.read (i : Int) = d.read (i : Int)
theorem ix_inj {n a b t u : Nat} (ha : a < n) (hb : b < n) (h : a + t * n = b + u * n) : a = b ∧ t = u := by
  have hn : 0 < n := by omega
  have h1 : (a + t * n) % n = (b + u * n) % n := by rw [h]
  rw [Nat.add_mul_mod_self_right, Nat.add_mul_mod_self_right, Nat.mod_eq_of_lt ha, Nat.mod_eq_of_lt hb] at h1
  subst h1
  exact ⟨rfl, Nat.eq_of_mul_eq_mul_right hn (by omega)⟩
theorem Put.tk {d d' : Dk} {r : Rc} {k t : Nat} (h : Put d d' r k t) {i : Nat} (hi : i < 2 * d.n) (hne : i ≠ ix d r k t) : Ytlplogplicgfiaa.tk d' (i : Int) = Ytlplogplicgfiaa.tk d (i : Int) := by
  unfold Ytlplogplicgfiaa.tk; rw [h.old i hi hne]
theorem Put.iss {d d' : Dk} {I : List Rc} {r : Rc} {k t : Nat} (h : Put d d' r k t) (hI : Iss d I) (hr : r ∈ I) (hk : k < r.h.total) : Iss d' I := by
  refine ⟨fun r hr => by rw [h.n]; exact hI.ok r hr, hI.uniq, fun pl u g j dt hp hu hj => ?_⟩
  rw [h.n] at hp hj ⊢
  have hi : pl + u * d.n < 2 * d.n := by
    have h2 : u * d.n ≤ 1 * d.n := Nat.mul_le_mul_right _ (by omega)
    omega
  by_cases hne : pl + u * d.n = ix d r k t
  · have hK := hI.ok r hr
    have := (ix_inj hp (Nat.mod_lt (r.at_ + k) (by omega)) hne).1
    rw [hne, tk_read h.new, take_pc hK hk] at hj
    simp only [Option.some.injEq, Prod.mk.injEq] at hj
    obtain ⟨rfl, rfl, rfl⟩ := hj
    exact ⟨r, hr, rfl, hk, this, rfl⟩
  · rw [h.tk hi hne] at hj
    exact hI.pcs pl u g j dt hp hu hj
theorem Put.cmp {d d' : Dk} {I : List Rc} {r q : Rc} {k t : Nat} (h : Put d d' r k t) (hI : Iss d I) (hr : r ∈ I) (hk : k < r.h.total) (hq : q ∈ I) (hne : q ≠ r) (hn : 0 < d.n) (hc : Cmp d' q) : Cmp d q := fun j hj => by
  obtain ⟨u, hu, h1⟩ := hc j hj
  refine ⟨u, hu, ?_⟩
  have hi := ix_lt (d := d) (r := q) (k := j) hn hu
  have e : ix d' q j u = ix d q j u := by unfold ix; rw [h.n]
  rw [At1_iff, e] at h1
  rw [At1_iff]
  by_cases hx : ix d q j u = ix d r k t
  · rw [hx, tk_read h.new, take_pc (hI.ok r hr) hk] at h1
    simp only [Option.some.injEq, Prod.mk.injEq] at h1
    exact absurd (hI.uniq q hq r hr h1.1.symm) hne
  · rw [← h.tk hi hx]; exact h1
theorem Put.only {d d' : Dk} {I L : List Rc} {r : Rc} {k t i : Nat} (h : Put d d' r k t) (hI : Iss d I) (hn : 0 < d.n) (hr : r ∈ I) (hk : k < r.h.total) (hi : i < L.length) (e : r = L.getD i Rc0) (ho : Only d I L) : Only d' I L := fun q hq hc => by
  by_cases hne : q = r
  · exact .inl ⟨i, hi, hne.trans e⟩
  · exact ho q hq (h.cmp hI hr hk hq hne hn hc)
def GB (d : Dk) (r : Rc) (k t : Nat) : Prop := d.read ((ix d r k t : Nat) : Int) = some (pcB r k)
def BB (d : Dk) (r : Rc) (k t : Nat) : Prop := d.read ((ix d r k t : Nat) : Int) = none
structure Lv (d : Dk) (r : Rc) : Prop where
  all : ∀ k t, k < r.h.total → t < 2 → GB d r k t ∨ BB d r k t
  one_ : ∀ k, k < r.h.total → ∃ t, t < 2 ∧ GB d r k t
theorem GB.at1 {d : Dk} {r : Rc} {k t : Nat} (h : GB d r k t) (hK : RcK d.n r) (hk : k < r.h.total) : At1 d r k t := by
  rw [At1_iff, tk_read h, take_pc hK hk]
theorem Lv.cmp {d : Dk} {r : Rc} (h : Lv d r) (hK : RcK d.n r) : Cmp d r := fun k hk => by
  obtain ⟨t, ht, h1⟩ := h.one_ k hk
  exact ⟨t, ht, h1.at1 hK hk⟩
theorem Put.lv {d d' : Dk} {r q : Rc} {k t : Nat} (h : Put d d' r k t) (hn : 0 < d.n) (hq : Lv d q) (hd : ∀ j, j < q.h.total → (q.at_ + j) % d.n = (r.at_ + k) % d.n → pcB q j = pcB r k) : Lv d' q := by
  have hix : ∀ j u, ix d' q j u = ix d q j u := fun j u => by unfold ix; rw [h.n]
  have key : ∀ j u, j < q.h.total → u < 2 → GB d q j u → GB d' q j u := fun j u hj hu hg => by
    unfold GB at *
    rw [hix]
    by_cases hx : ix d q j u = ix d r k t
    · have := (ix_inj (Nat.mod_lt _ hn) (Nat.mod_lt _ hn) hx).1
      rw [hx, h.new, hd j hj this]
    · rw [h.old _ (ix_lt hn hu) hx]; exact hg
  refine ⟨fun j u hj hu => ?_, fun j hj => ?_⟩
  · rcases hq.all j u hj hu with h1 | h1
    · exact .inl (key j u hj hu h1)
    · by_cases hx : ix d q j u = ix d r k t
      · left
        have := (ix_inj (Nat.mod_lt _ hn) (Nat.mod_lt _ hn) hx).1
        unfold GB
        rw [hix, hx, h.new, hd j hj this]
      · right
        unfold BB at *
        rw [hix, h.old _ (ix_lt hn hu) hx]; exact h1
  · obtain ⟨u, hu, h1⟩ := hq.one_ j hj
    exact ⟨u, hu, key j u hj hu h1⟩
end Go.Proofs.Ytlplogplicgfiaa
