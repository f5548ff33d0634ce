import Derived.Test.YtlplogplicgfiaaZ10P5
namespace Go.Proofs.Ytlplogplicgfiaa
open Go Go.RowKit
theorem write_rel {d : Dk} {i : Nat} {b : List Nat} (hi : i < 2 * d.n) :
    (d.write (i : Int) b).1.n = d.n ∧ (∀ z : Nat, z < 2 * d.n → z ≠ i → (d.write (i : Int) b).1.read (z : Int) = d.read (z : Int)) ∧
    ((d.write (i : Int) b).2 = true ∧ (d.write (i : Int) b).1.read (i : Int) = some b ∨
     (d.write (i : Int) b).2 = false ∧ ((d.write (i : Int) b).1.read (i : Int) = none ∨ (d.write (i : Int) b).1.read (i : Int) = d.read (i : Int))) := by
  have hn := Dk.write_n d (i : Int) b
  obtain ⟨h1, h2, h3, h4⟩ := Dk.n_pos (d := d) (by omega)
  refine ⟨hn, fun z hz hne => ?_, ?_⟩
  · unfold Dk.read
    rw [hn]
    unfold Dk.write
    rw [if_pos (show 0 ≤ (i : Int) ∧ (i : Int) < 2 * (d.n : Int) from ⟨by omega, by omega⟩)]
    by_cases hp : d.pw = 0
    · rw [if_pos hp]
      simp only [Int.toNat_natCast, List.getD_eq_getElem?_getD]
      rw [List.getElem?_set_ne (fun e => hne e.symm)]
    · rw [if_neg hp]
      simp only [Int.toNat_natCast, List.getD_eq_getElem?_getD]
      rw [List.getElem?_set_ne (fun e => hne e.symm), List.getElem?_set_ne (fun e => hne e.symm)]
  · unfold Dk.read
    rw [hn]
    unfold Dk.write
    rw [if_pos ⟨by omega, by omega⟩]
    by_cases hp : d.pw = 0
    · rw [if_pos hp]
      right
      refine ⟨rfl, ?_⟩
      rw [if_pos ⟨by omega, by omega⟩]
      simp only [Int.toNat_natCast, List.getD_eq_getElem?_getD]
      rw [List.getElem?_set_self (by omega)]
      simp only [Option.getD_some]
      cases hb : (d.bad[i]?.getD true || d.tr) with
      | true => left; rfl
      | false =>
        right
        have : d.bad[i]?.getD true = false := by
          cases h : d.bad[i]?.getD true with
          | true => rw [h] at hb; simp at hb
          | false => rfl
        rw [this, if_pos (show 0 ≤ (i : Int) ∧ (i : Int) < 2 * (d.n : Int) from ⟨by omega, by omega⟩)]
    · rw [if_neg hp]
      left
      refine ⟨rfl, ?_⟩
      rw [if_pos ⟨by omega, by omega⟩]
      simp only [Int.toNat_natCast, List.getD_eq_getElem?_getD]
      rw [List.getElem?_set_self (by omega), List.getElem?_set_self (by omega)]
      rfl
def Ch (d d' : Dk) (J : List (Nat × List Nat)) : Prop := d'.n = d.n ∧ ∀ i : Nat, i < 2 * d.n → d'.read (i : Int) = d.read (i : Int) ∨ ∃ b, (i, b) ∈ J ∧ d.read (i : Int) ≠ some b ∧ (d'.read (i : Int) = some b ∨ d'.read (i : Int) = none)
def Fn (J : List (Nat × List Nat)) : Prop := ∀ i b c, (i, b) ∈ J → (i, c) ∈ J → b = c
theorem Fn.tail {x : Nat × List Nat} {J : List (Nat × List Nat)} (h : Fn (x :: J)) : Fn J := fun i b c h1 h2 => h i b c (List.mem_cons_of_mem _ h1) (List.mem_cons_of_mem _ h2)
theorem Ch.refl (d : Dk) (J : List (Nat × List Nat)) : Ch d d J := ⟨rfl, fun _ _ => .inl rfl⟩
theorem Ch.cons {d d1 d2 : Dk} {i : Nat} {b : List Nat} {J : List (Nat × List Nat)} (hF : Fn ((i, b) :: J)) (hn : d1.n = d.n) (ho : ∀ z : Nat, z < 2 * d.n → z ≠ i → d1.read (z : Int) = d.read (z : Int))
    (hr : d.read (i : Int) ≠ some b) (hi : d1.read (i : Int) = some b ∨ d1.read (i : Int) = none ∨ d1.read (i : Int) = d.read (i : Int)) (h2 : Ch d1 d2 J) : Ch d d2 ((i, b) :: J) := by
  refine ⟨h2.1.trans hn, fun z hz => ?_⟩
  by_cases e : z = i
  · subst e
    rcases h2.2 z (by rw [hn]; exact hz) with h | ⟨c, h3, h4, h5⟩
    · rw [h]
      rcases hi with h | h | h
      · exact .inr ⟨b, List.mem_cons_self, hr, .inl h⟩
      · exact .inr ⟨b, List.mem_cons_self, hr, .inr h⟩
      · exact .inl h
    · have := hF z b c List.mem_cons_self (List.mem_cons_of_mem _ h3)
      subst this
      exact .inr ⟨b, List.mem_cons_self, hr, h5⟩
  · rcases h2.2 z (by rw [hn]; exact hz) with h | ⟨c, h3, h4, h5⟩
    · rw [h, ho z hz e]; exact .inl rfl
    · rw [ho z hz e] at h4
      exact .inr ⟨c, List.mem_cons_of_mem _ h3, h4, h5⟩
theorem Ch.more {d d' : Dk} {x : Nat × List Nat} {J : List (Nat × List Nat)} (h : Ch d d' J) : Ch d d' (x :: J) := ⟨h.1, fun i hi => by
  rcases h.2 i hi with h | ⟨b, h1, h2⟩
  · exact .inl h
  · exact .inr ⟨b, List.mem_cons_of_mem _ h1, h2⟩⟩
theorem mend_ch : ∀ {J : List (Nat × List Nat)} {d : Dk} {m : Nat}, Fn J → (∀ x ∈ J, x.1 < 2 * d.n) → Ch d (mendL J d m).1 J ∧ ((mendL J d m).2.2 = true → ∀ x ∈ J, (mendL J d m).1.read ((x.1 : Nat) : Int) = some x.2)
  | [], d, m, _, _ => ⟨Ch.refl d [], fun _ x hx => absurd hx (by simp)⟩
  | (i, b) :: J, d, m, hF, hJ => by
    have hi : i < 2 * d.n := hJ (i, b) List.mem_cons_self
    have hJ2 : ∀ x ∈ J, x.1 < 2 * d.n := fun x hx => hJ x (List.mem_cons_of_mem _ hx)
    obtain ⟨h1, h2, h3⟩ := write_rel (b := b) hi
    simp only [mendL]
    by_cases hr : d.read (i : Int) = some b
    · rw [if_pos hr]
      obtain ⟨q1, q2⟩ := mend_ch (J := J) (d := d) (m := m) hF.tail hJ2
      refine ⟨q1.more, fun hm x hx => ?_⟩
      rcases List.mem_cons.1 hx with rfl | hx
      · rcases q1.2 i hi with h | ⟨c, h4, h5, h6⟩
        · rw [h]; exact hr
        · exact q2 hm (i, b) (by have := hF i b c List.mem_cons_self (List.mem_cons_of_mem _ h4); subst this; exact h4)
      · exact q2 hm x hx
    · rw [if_neg hr]
      rcases h3 with ⟨h3, h4⟩ | ⟨h3, h4⟩
      · rw [if_pos h3]
        obtain ⟨q1, q2⟩ := mend_ch (J := J) (d := (d.write (i : Int) b).1) (m := m + 1) hF.tail (fun x hx => by rw [h1]; exact hJ2 x hx)
        refine ⟨Ch.cons hF h1 h2 hr (.inl h4) q1, fun hm x hx => ?_⟩
        rcases List.mem_cons.1 hx with rfl | hx
        · rcases q1.2 i (by rw [h1]; exact hi) with h | ⟨c, h5, h6, h7⟩
          · rw [h]; exact h4
          · exact q2 hm (i, b) (by have := hF i b c List.mem_cons_self (List.mem_cons_of_mem _ h5); subst this; exact h5)
        · exact q2 hm x hx
      · rw [if_neg (by rw [h3]; decide)]
        refine ⟨Ch.cons hF h1 h2 hr ?_ (Ch.refl _ J), fun hm => absurd hm (by simp)⟩
        rcases h4 with h4 | h4
        · exact .inr (.inl h4)
        · exact .inr (.inr h4)
theorem write_ch : ∀ {J : List (Nat × List Nat)} {d : Dk}, Fn J → (J.map Prod.fst).Nodup → (∀ x ∈ J, x.1 < 2 * d.n ∧ d.read ((x.1 : Nat) : Int) ≠ some x.2) → Ch d (writeL J d).1 J ∧ ((writeL J d).2 = true → ∀ x ∈ J, (writeL J d).1.read ((x.1 : Nat) : Int) = some x.2)
  | [], d, _, _, _ => ⟨Ch.refl d [], fun _ x hx => absurd hx (by simp)⟩
  | (i, b) :: J, d, hF, hD, hJ => by
    have hi : i < 2 * d.n := (hJ (i, b) List.mem_cons_self).1
    have hr : d.read (i : Int) ≠ some b := (hJ (i, b) List.mem_cons_self).2
    rw [List.map_cons, List.nodup_cons] at hD
    have hni : ∀ x ∈ J, x.1 ≠ i := fun x hx e => hD.1 (List.mem_map.2 ⟨x, hx, e⟩)
    obtain ⟨h1, h2, h3⟩ := write_rel (b := b) hi
    simp only [writeL]
    rcases h3 with ⟨h3, h4⟩ | ⟨h3, h4⟩
    · rw [if_pos h3]
      obtain ⟨q1, q2⟩ := write_ch (J := J) (d := (d.write (i : Int) b).1) hF.tail hD.2 (fun x hx => by
        obtain ⟨z1, z2⟩ := hJ x (List.mem_cons_of_mem _ hx)
        rw [h1, h2 x.1 z1 (hni x hx)]; exact ⟨z1, z2⟩)
      refine ⟨Ch.cons hF h1 h2 hr (.inl h4) q1, fun hm x hx => ?_⟩
      rcases List.mem_cons.1 hx with rfl | hx
      · rcases q1.2 i (by rw [h1]; exact hi) with h | ⟨c, h5, h6, h7⟩
        · rw [h]; exact h4
        · exact absurd rfl (hni (i, c) h5)
      · exact q2 hm x hx
    · rw [if_neg (by rw [h3]; decide)]
      refine ⟨Ch.cons hF h1 h2 hr ?_ (Ch.refl _ J), fun hm => absurd hm (by simp)⟩
      rcases h4 with h4 | h4
      · exact .inr (.inl h4)
      · exact .inr (.inr h4)
def Chg (d d' : Dk) (Y : Rc → Prop) : Prop := d'.n = d.n ∧ ∀ i : Nat, i < 2 * d.n → d'.read (i : Int) = d.read (i : Int) ∨ ∃ y k t, Y y ∧ k < y.h.total ∧ t < 2 ∧ i = ix d y k t ∧ d.read (i : Int) ≠ some (pcB y k) ∧ (d'.read (i : Int) = some (pcB y k) ∨ d'.read (i : Int) = none)
theorem Chg.ix {d d' : Dk} {Y : Rc → Prop} (h : Chg d d' Y) (r : Rc) (k t : Nat) : ix d' r k t = ix d r k t := by unfold Ytlplogplicgfiaa.ix; rw [h.1]
theorem Chg.iss {d d' : Dk} {Y : Rc → Prop} {I : List Rc} (h : Chg d d' Y) (hI : Iss d I) (hY : ∀ y, Y y → y ∈ I) : Iss d' I := by
  refine ⟨fun r hr => by rw [h.1]; exact hI.ok r hr, hI.uniq, fun pl u g j dt hp hu hj => ?_⟩
  rw [h.1] at hp hj ⊢
  have hi : pl + u * d.n < 2 * d.n := by
    have h2 : u * d.n ≤ 1 * d.n := Nat.mul_le_mul_right _ (by omega)
    omega
  rcases h.2 _ hi with h1 | ⟨y, k, t, h1, h2, h3, h4, h5, h6 | h6⟩
  · have e : tk d' ((pl + u * d.n : Nat) : Int) = tk d ((pl + u * d.n : Nat) : Int) := by unfold tk; rw [h1]
    rw [e] at hj
    exact hI.pcs pl u g j dt hp hu hj
  · have hK := hI.ok y (hY y h1)
    have := (ix_inj hp (Nat.mod_lt (y.at_ + k) (by omega)) h4).1
    rw [tk_read h6, take_pc hK h2] at hj
    simp only [Option.some.injEq, Prod.mk.injEq] at hj
    obtain ⟨rfl, rfl, rfl⟩ := hj
    exact ⟨y, hY y h1, rfl, h2, this, rfl⟩
  · rw [tk_none h6] at hj; exact absurd hj (by simp)
theorem Chg.cmp {d d' : Dk} {Y : Rc → Prop} {I : List Rc} {q : Rc} (h : Chg d d' Y) (hI : Iss d I) (hY : ∀ y, Y y → y ∈ I) (hq : q ∈ I) (hne : ¬ Y q) (hn : 0 < d.n) (hc : Cmp d' q) : Cmp d q := fun j hj => by
  obtain ⟨u, hu, h1⟩ := hc j hj
  refine ⟨u, hu, ?_⟩
  have hi := ix_lt (d := d) (r := q) (k := j) hn hu
  rw [At1_iff, h.ix] at h1
  rw [At1_iff]
  rcases h.2 _ hi with h2 | ⟨y, k, t, h2, h3, h4, h5, h6, h7 | h7⟩
  · unfold tk at h1 ⊢; rw [h2] at h1; exact h1
  · rw [tk_read h7, take_pc (hI.ok y (hY y h2)) h3] at h1
    simp only [Option.some.injEq, Prod.mk.injEq] at h1
    have e := hI.uniq y (hY y h2) q hq h1.1
    rw [e] at h2
    exact absurd h2 hne
  · rw [tk_none h7] at h1; exact absurd h1 (by simp)
theorem Chg.lv {d d' : Dk} {Y : Rc → Prop} {q : Rc} (h : Chg d d' Y) (hn : 0 < d.n) (hq : Lv d q) (hd : ∀ y k j, Y y → k < y.h.total → j < q.h.total → (q.at_ + j) % d.n = (y.at_ + k) % d.n → pcB q j = pcB y k) : Lv d' q := by
  have key : ∀ j u, j < q.h.total → u < 2 → GB d q j u → GB d' q j u := fun j u hj hu hg => by
    unfold GB at *
    rw [h.ix]
    rcases h.2 _ (ix_lt (d := d) (r := q) (k := j) hn hu) with h1 | ⟨y, k, t, h1, h2, h3, h4, h5, h6⟩
    · rw [h1]; exact hg
    · have := (ix_inj (Nat.mod_lt _ hn) (Nat.mod_lt _ hn) h4).1
      rw [hg, hd y k j h1 h2 hj this] at h5
      exact absurd rfl h5
  refine ⟨fun j u hj hu => ?_, fun j hj => ?_⟩
  · rcases hq.all j u hj hu with h1 | h1
    · exact .inl (key j u hj hu h1)
    · unfold BB GB at *
      rw [h.ix]
      rcases h.2 _ (ix_lt (d := d) (r := q) (k := j) hn hu) with h2 | ⟨y, k, t, h2, h3, h4, h5, h6, h7⟩
      · right; rw [h2]; exact h1
      · have := (ix_inj (Nat.mod_lt _ hn) (Nat.mod_lt _ hn) h5).1
        rw [hd y k j h2 h3 hj this]; exact h7
  · obtain ⟨u, hu, h1⟩ := hq.one_ j hj
    exact ⟨u, hu, key j u hj hu h1⟩
def AG (d : Dk) (r : Rc) : Prop := ∀ k t, k < r.h.total → t < 2 → GB d r k t
theorem AG.lv {d : Dk} {r : Rc} (h : AG d r) : Lv d r := ⟨fun k t hk ht => .inl (h k t hk ht), fun k hk => ⟨0, by decide, h k 0 hk (by decide)⟩⟩
theorem Chg.ag {d d' : Dk} {Y : Rc → Prop} {q : Rc} (h : Chg d d' Y) (hn : 0 < d.n) (hq : AG d q) (hd : ∀ y k j, Y y → k < y.h.total → j < q.h.total → (q.at_ + j) % d.n = (y.at_ + k) % d.n → pcB q j = pcB y k) : AG d' q := fun j u hj hu => by
  have hg := hq j u hj hu
  unfold GB at *
  rw [h.ix]
  rcases h.2 _ (ix_lt (d := d) (r := q) (k := j) hn hu) with h1 | ⟨y, k, t, h1, h2, h3, h4, h5, h6⟩
  · rw [h1]; exact hg
  · have := (ix_inj (Nat.mod_lt _ hn) (Nat.mod_lt _ hn) h4).1
    rw [hg, hd y k j h1 h2 hj this] at h5
    exact absurd rfl h5
structure Con (n : Nat) (R : List Rc) : Prop where
  at_ : ∀ i, i < R.length → (R.getD i Rc0).at_ < n
  con : ∀ i, i + 1 < R.length → (R.getD (i + 1) Rc0).at_ = ((R.getD i Rc0).at_ + (R.getD i Rc0).h.total) % n
  free : totalL R ≤ n
theorem Con.off {n : Nat} {R : List Rc} (h : Con n R) : ∀ {i : Nat}, i < R.length → (R.getD i Rc0).at_ = ((R.getD 0 Rc0).at_ + totalL (R.take i)) % n
  | 0, hi => by rw [List.take_zero]; show _ = (_ + 0) % n; rw [Nat.add_zero, Nat.mod_eq_of_lt (h.at_ 0 hi)]
  | i + 1, hi => by
    have ih := h.off (i := i) (by omega)
    rw [h.con i hi, ih, totalL_take (by omega), Nat.mod_add_mod, Nat.add_assoc]
theorem totalL_take_le {R : List Rc} {i j : Nat} (h : i ≤ j) : totalL (R.take i) ≤ totalL (R.take j) := by
  have e : R.take j = R.take i ++ (R.take j).drop i := by
    have := List.take_append_drop i (R.take j)
    rw [List.take_take, Nat.min_eq_left h] at this
    exact this.symm
  rw [e, totalL_app]; omega
theorem totalL_take_all {R : List Rc} {i : Nat} : totalL (R.take i) ≤ totalL R := by
  have e := totalL_app (R.take i) (R.drop i)
  rw [List.take_append_drop] at e; omega
theorem mod_inj {n a x y : Nat} (hx : x < n) (hy : y < n) (h : (a + x) % n = (a + y) % n) : x = y := by
  have h1 := Nat.div_add_mod (a + x) n
  have h2 := Nat.div_add_mod (a + y) n
  rw [h] at h1
  have h3 : (a + x) / n = (a + y) / n := by
    rcases Nat.lt_trichotomy ((a + x) / n) ((a + y) / n) with h4 | h4 | h4
    · have := Nat.mul_le_mul_left n (Nat.succ_le_of_lt h4)
      rw [Nat.mul_succ] at this; omega
    · exact h4
    · have := Nat.mul_le_mul_left n (Nat.succ_le_of_lt h4)
      rw [Nat.mul_succ] at this; omega
  rw [h3] at h1
  omega
theorem Con.disj {n : Nat} {R : List Rc} (h : Con n R) {i j k l : Nat} (hi : i < R.length) (hj : j < R.length) (hk : k < (R.getD i Rc0).h.total) (hl : l < (R.getD j Rc0).h.total) (e : ((R.getD i Rc0).at_ + k) % n = ((R.getD j Rc0).at_ + l) % n) : i = j ∧ k = l := by
  rw [h.off hi, h.off hj, Nat.mod_add_mod, Nat.mod_add_mod, Nat.add_assoc, Nat.add_assoc] at e
  have h1 := totalL_take (l := R) hi
  have h2 := totalL_take (l := R) hj
  have h3 := totalL_take_all (R := R) (i := i + 1)
  have h4 := totalL_take_all (R := R) (i := j + 1)
  have h5 := h.free
  have e2 := mod_inj (by omega) (by omega) e
  rcases Nat.lt_trichotomy i j with h6 | h6 | h6
  · have := totalL_take_le (R := R) (show i + 1 ≤ j by omega); omega
  · subst h6; exact ⟨rfl, by omega⟩
  · have := totalL_take_le (R := R) (show j + 1 ≤ i by omega); omega
theorem mem_jobsR {n : Nat} {y : Rc} {x : Nat × List Nat} : x ∈ jobsR n y ↔ ∃ k t, k < y.h.total ∧ t < 2 ∧ x = ((y.at_ + k) % n + t * n, pcB y k) := by
  unfold jobsR
  rw [List.mem_flatMap]
  constructor
  · rintro ⟨k, hk, hx⟩
    have hk := List.mem_range.1 hk
    simp only [jobs2, List.mem_cons, List.not_mem_nil, or_false] at hx
    rcases hx with rfl | rfl
    · exact ⟨k, 0, hk, by decide, by rw [Nat.zero_mul, Nat.add_zero]⟩
    · exact ⟨k, 1, hk, by decide, by rw [Nat.one_mul]⟩
  · rintro ⟨k, t, hk, ht, rfl⟩
    refine ⟨k, List.mem_range.2 hk, ?_⟩
    rcases (show t = 0 ∨ t = 1 by omega) with rfl | rfl
    · rw [Nat.zero_mul, Nat.add_zero]; simp [jobs2]
    · rw [Nat.one_mul]; simp [jobs2]
theorem mem_jobsL {n : Nat} {l : List Rc} {x : Nat × List Nat} : x ∈ jobsL n l ↔ ∃ y ∈ l, ∃ k t, k < y.h.total ∧ t < 2 ∧ x = ((y.at_ + k) % n + t * n, pcB y k) := by
  unfold jobsL
  rw [List.mem_flatMap]
  constructor
  · rintro ⟨y, hy, hx⟩; exact ⟨y, hy, mem_jobsR.1 hx⟩
  · rintro ⟨y, hy, hx⟩; exact ⟨y, hy, mem_jobsR.2 hx⟩
theorem mem_ajobs {n : Nat} {y : Rc} {x : Nat × List Nat} : x ∈ ajobs n y ↔ ∃ k t, k < y.h.total ∧ t < 2 ∧ x = ((y.at_ + k) % n + t * n, pcB y k) := by
  unfold ajobs
  rw [List.mem_map]
  constructor
  · rintro ⟨i, hi, rfl⟩
    have hi := List.mem_range.1 hi
    have h0 : 0 < y.h.total := by omega
    exact ⟨i % y.h.total, i / y.h.total, Nat.mod_lt _ h0, (Nat.div_lt_iff_lt_mul h0).2 hi, rfl⟩
  · rintro ⟨k, t, hk, ht, rfl⟩
    have h1 : t * y.h.total ≤ 1 * y.h.total := Nat.mul_le_mul_right _ (by omega)
    refine ⟨k + t * y.h.total, List.mem_range.2 (by omega), ?_⟩
    unfold ajob
    rw [Nat.add_mul_mod_self_right, Nat.mod_eq_of_lt hk, Nat.add_mul_div_right _ _ (by omega), Nat.div_eq_of_lt hk, Nat.zero_add]
theorem getD_mem {R : List Rc} {y : Rc} (h : y ∈ R) : ∃ i, i < R.length ∧ y = R.getD i Rc0 := by
  obtain ⟨i, hi, rfl⟩ := List.mem_iff_getElem.1 h
  exact ⟨i, hi, by rw [List.getD_eq_getElem?_getD, List.getElem?_eq_getElem hi]; rfl⟩
theorem mem_getD {R : List Rc} {i : Nat} (h : i < R.length) : R.getD i Rc0 ∈ R := by
  rw [List.getD_eq_getElem?_getD, List.getElem?_eq_getElem h]; exact List.getElem_mem h
theorem Con.mem {n : Nat} {R : List Rc} (h : Con n R) {y q : Rc} (hy : y ∈ R) (hq : q ∈ R) {k l : Nat} (hk : k < y.h.total) (hl : l < q.h.total) (e : (y.at_ + k) % n = (q.at_ + l) % n) : y = q ∧ k = l := by
  obtain ⟨i, hi, rfl⟩ := getD_mem hy
  obtain ⟨j, hj, rfl⟩ := getD_mem hq
  obtain ⟨h1, h2⟩ := h.disj hi hj hk hl e
  exact ⟨by rw [h1], h2⟩
theorem Con.fn {n : Nat} {R l : List Rc} (hn : 0 < n) (h : Con n R) (hl : ∀ y ∈ l, y ∈ R) : Fn (jobsL n l) := fun i b c h1 h2 => by
  obtain ⟨y, hy, k, t, hk, ht, e1⟩ := mem_jobsL.1 h1
  obtain ⟨q, hq, j, u, hj, hu, e2⟩ := mem_jobsL.1 h2
  simp only [Prod.mk.injEq] at e1 e2
  obtain ⟨rfl, rfl⟩ := e1
  obtain ⟨e3, rfl⟩ := e2
  obtain ⟨rfl, rfl⟩ := h.mem (hl y hy) (hl q hq) hk hj (ix_inj (Nat.mod_lt _ hn) (Nat.mod_lt _ hn) e3).1
  rfl
theorem Ch.chg {d d' : Dk} {J : List (Nat × List Nat)} {Y : Rc → Prop} (h : Ch d d' J) (hJ : ∀ x ∈ J, ∃ y, Y y ∧ ∃ k t, k < y.h.total ∧ t < 2 ∧ x = ((y.at_ + k) % d.n + t * d.n, pcB y k)) : Chg d d' Y := ⟨h.1, fun i hi => by
  rcases h.2 i hi with h | ⟨b, h1, h2, h3⟩
  · exact .inl h
  · obtain ⟨y, hy, k, t, hk, ht, e⟩ := hJ _ h1
    simp only [Prod.mk.injEq] at e
    obtain ⟨rfl, rfl⟩ := e
    exact .inr ⟨y, k, t, hy, hk, ht, rfl, h2, h3⟩⟩
theorem jobsL_in {n : Nat} {l : List Rc} (hn : 0 < n) : ∀ x ∈ jobsL n l, x.1 < 2 * n := fun x hx => by
  obtain ⟨y, hy, k, t, hk, ht, rfl⟩ := mem_jobsL.1 hx
  have h1 := Nat.mod_lt (y.at_ + k) hn
  have h3 : t * n ≤ 1 * n := Nat.mul_le_mul_right _ (by omega)
  show (y.at_ + k) % n + t * n < 2 * n
  omega
theorem mend_chg {d d' : Dk} {R l : List Rc} {m : Nat} {b : Bool} (hn : 0 < d.n) (h : Con d.n R) (hl : ∀ y ∈ l, y ∈ R) (hm : mendL (jobsL d.n l) d 0 = (d', m, b)) : Chg d d' (fun y => y ∈ l) ∧ (b = true → ∀ y ∈ l, AG d' y) := by
  obtain ⟨q1, q2⟩ := mend_ch (m := 0) (h.fn hn hl) (jobsL_in hn)
  rw [hm] at q1 q2
  refine ⟨q1.chg (fun x hx => mem_jobsL.1 hx), fun hb y hy k t hk ht => ?_⟩
  have := q2 hb ((y.at_ + k) % d.n + t * d.n, pcB y k) (mem_jobsL.2 ⟨y, hy, k, t, hk, ht, rfl⟩)
  unfold GB ix
  rw [q1.1]; exact this
theorem nodup_map {α β : Type} {f : α → β} {l : List α} (h : l.Nodup) (hf : ∀ a ∈ l, ∀ b ∈ l, f a = f b → a = b) : (l.map f).Nodup := by
  induction l with
  | nil => exact List.nodup_nil
  | cons a l ih =>
    rw [List.nodup_cons] at h
    rw [List.map_cons, List.nodup_cons]
    refine ⟨fun hm => ?_, ih h.2 (fun x hx y hy => hf x (List.mem_cons_of_mem _ hx) y (List.mem_cons_of_mem _ hy))⟩
    obtain ⟨b, hb, e⟩ := List.mem_map.1 hm
    have := hf b (List.mem_cons_of_mem _ hb) a List.mem_cons_self e
    exact h.1 (this ▸ hb)
theorem ajobs_nodup {n : Nat} {r : Rc} (hn : 0 < n) (ht : r.h.total ≤ n) : ((ajobs n r).map Prod.fst).Nodup := by
  unfold ajobs
  rw [List.map_map]
  refine nodup_map List.nodup_range (fun a ha b hb e => ?_)
  have ha := List.mem_range.1 ha
  have hb := List.mem_range.1 hb
  have h0 : 0 < r.h.total := by omega
  simp only [Function.comp, ajob] at e
  obtain ⟨e1, e2⟩ := ix_inj (Nat.mod_lt _ hn) (Nat.mod_lt _ hn) e
  have h1 := Nat.mod_lt a h0
  have h2 := Nat.mod_lt b h0
  have e3 := mod_inj (by omega) (by omega) e1
  have := Nat.div_add_mod a r.h.total
  have := Nat.div_add_mod b r.h.total
  rw [e2, e3] at *
  omega
theorem write_chg {d d' : Dk} {I : List Rc} {r : Rc} {b : Bool} (hn : 0 < d.n) (hI : Iss d I) (hK : RcK d.n r) (hf : ∀ q ∈ I, q.h ≠ r.h) (hw : writeL (ajobs d.n r) d = (d', b)) : Chg d d' (fun y => y = r) ∧ (b = true → AG d' r) := by
  have hfn : Fn (ajobs d.n r) := fun i b c h1 h2 => by
    obtain ⟨k, t, hk, ht, e1⟩ := mem_ajobs.1 h1
    obtain ⟨j, u, hj, hu, e2⟩ := mem_ajobs.1 h2
    simp only [Prod.mk.injEq] at e1 e2
    obtain ⟨rfl, rfl⟩ := e1
    obtain ⟨e3, rfl⟩ := e2
    have htn := hK.totn
    rw [mod_inj (by omega) (by omega) (ix_inj (Nat.mod_lt _ hn) (Nat.mod_lt _ hn) e3).1]
  obtain ⟨q1, q2⟩ := write_ch (d := d) hfn (ajobs_nodup hn hK.totn) (fun x hx => by
    refine ⟨ajobs_in hn hK.pos x hx, fun e => ?_⟩
    obtain ⟨k, t, hk, ht, rfl⟩ := mem_ajobs.1 hx
    have h1 : tk d (((r.at_ + k) % d.n + t * d.n : Nat) : Int) = some (r.h, k, dataL r.dat k) := by rw [tk_read e, take_pc hK hk]
    obtain ⟨q, hq, h2, _⟩ := hI.pcs _ t _ _ _ (Nat.mod_lt _ hn) ht h1
    exact hf q hq h2)
  rw [hw] at q1 q2
  refine ⟨q1.chg (fun x hx => ⟨r, rfl, mem_ajobs.1 hx⟩), fun hb k t hk ht => ?_⟩
  have := q2 hb ((r.at_ + k) % d.n + t * d.n, pcB r k) (mem_ajobs.2 ⟨k, t, hk, ht, rfl⟩)
  unfold GB ix
  rw [q1.1]; exact this
theorem Iss.cons {d : Dk} {I : List Rc} {r : Rc} (hI : Iss d I) (hK : RcK d.n r) (hf : ∀ q ∈ I, q.h ≠ r.h) : Iss d (r :: I) := by
  refine ⟨fun q hq => ?_, fun a ha b hb e => ?_, fun pl t g k dt hp ht hk => ?_⟩
  · rcases List.mem_cons.1 hq with rfl | hq
    · exact hK
    · exact hI.ok q hq
  · rcases List.mem_cons.1 ha with ha1 | ha1 <;> rcases List.mem_cons.1 hb with hb1 | hb1
    · rw [ha1, hb1]
    · rw [ha1] at e; exact absurd e.symm (hf b hb1)
    · rw [hb1] at e; exact absurd e (hf a ha1)
    · exact hI.uniq a ha1 b hb1 e
  · obtain ⟨q, hq, h⟩ := hI.pcs pl t g k dt hp ht hk
    exact ⟨q, List.mem_cons_of_mem _ hq, h⟩
theorem Iss.prune {d : Dk} {I : List Rc} (hI : Iss d I) : ∃ I', Iss d I' ∧ (∀ r ∈ I', r ∈ I ∧ ∃ (pl t k : Nat) (dt : List Nat), pl < d.n ∧ t < 2 ∧ tk d ((pl + t * d.n : Nat) : Int) = some (r.h, k, dt)) ∧ (∀ r ∈ I, (∃ (pl t k : Nat) (dt : List Nat), pl < d.n ∧ t < 2 ∧ tk d ((pl + t * d.n : Nat) : Int) = some (r.h, k, dt)) → r ∈ I') := by
  classical
  refine ⟨I.filter (fun r => decide (∃ (pl t k : Nat) (dt : List Nat), pl < d.n ∧ t < 2 ∧ tk d ((pl + t * d.n : Nat) : Int) = some (r.h, k, dt))), ⟨fun r hr => hI.ok r (List.mem_filter.1 hr).1, fun a ha b hb e => hI.uniq a (List.mem_filter.1 ha).1 b (List.mem_filter.1 hb).1 e, fun pl t g k dt hp ht hk => ?_⟩, fun r hr => ⟨(List.mem_filter.1 hr).1, of_decide_eq_true (List.mem_filter.1 hr).2⟩, fun r hr h => List.mem_filter.2 ⟨hr, decide_eq_true h⟩⟩
  obtain ⟨q, hq, h1, h2⟩ := hI.pcs pl t g k dt hp ht hk
  exact ⟨q, List.mem_filter.2 ⟨hq, decide_eq_true ⟨pl, t, k, dt, hp, ht, by rw [h1]; exact hk⟩⟩, h1, h2⟩
end Go.Proofs.Ytlplogplicgfiaa
