import Derived.Test.YtlplogplicgfiaaZ10KR
namespace Go.Proofs.Ytlplogplicgfiaa
open Go Go.RowKit
theorem CI.openW {n c : Nat} {s : Sp} {j : Jn} {d2 : Dk} {I : List Rc} (hJ : JInv n j s.live s.first) (hd2 : d2.n = n) (hn : 0 < n) (hp : d2.pw = -1) (h : CI d2 I j.live NoP) (hlam : ∀ r ∈ I, r.h.life ≤ c) (hc : c < 4294967294) {m : Nat} (hm : (jobsL n j.live).countP (todo d2) = m) :
    ∃ d' life, openL (d2.setPw (-1)) = (d', 0, some ⟨j.live, life, m, false⟩) ∧ HoldP ⟨j.live, life, m, false⟩ s.live s.first ∧ WI n { s with d := d', waits := false } ⟨j.live, life, m, false⟩ (c + 1) ∧ d'.pw = -1 ∧ ∃ I0, JI d' I0 ⟨j.live, life, m, false⟩ ∧ (∀ r ∈ I0, r ∈ I) ∧ (∀ q ∈ j.live, AG d' q) := by
  obtain ⟨d', I0, h1, h2, h3, h4, h5, h6⟩ := h.open_cnt (by omega) (fun r hr => by have := hlam r hr; omega) (by omega)
  have hll : (lastL d2 d2.n).2 ≤ c := h.life hlam
  rw [hd2] at h1 h3
  rw [hd2] at hll
  rw [hm] at h1 h3
  have hJ2 := hJ.re (life := (lastL d2 n).2 + 1) (m := m) (by omega)
  exact ⟨d', (lastL d2 n).2 + 1, by rw [setPw_same hp]; exact h1, hJ2.h, ⟨by show d'.n = n; omega, hJ2, rfl, I0, h3, h5, by show 1 ≤ _ + 1; omega, by show _ + 1 ≤ c + 1; omega⟩, by omega, I0, h3, h4, h5⟩
theorem KA.one {s : Sp} {j : Jn} {I : List Rc} {c : Nat} (h : KA s j I c) (hn : 0 < s.d.n) {y : Rc} (hy : y ∈ j.live) {k : Nat} (hk : k < y.h.total) : CI (rotD s.d (ix s.d y k 0)) I j.live NoP ∧ (jobsL s.d.n j.live).countP (todo (rotD s.d (ix s.d y k 0))) = 1 := by
  have hi : ix s.d y k 0 < 2 * s.d.n := ix_lt hn (by decide)
  have hpl := Nat.mod_lt (y.at_ + k) hn
  have ht := twin_ix (n := s.d.n) (pl := (y.at_ + k) % s.d.n) (t := 0) hpl (by decide)
  have hb : s.d.bad.getD ((ix s.d y k 0 + s.d.n) % (2 * s.d.n)) true = false := by
    have e : (ix s.d y k 0 + s.d.n) % (2 * s.d.n) = ix s.d y k 1 := ht
    rw [e]
    have hg := h.ag y hy k 1 hk (by decide)
    unfold GB Dk.read at hg
    have h2 : ix s.d y k 1 < 2 * s.d.n := ix_lt hn (by decide)
    rw [if_pos ⟨by omega, by omega⟩, Int.toNat_natCast] at hg
    cases hb : s.d.bad.getD (ix s.d y k 1) true with
    | false => rfl
    | true => rw [hb] at hg; simp at hg
  refine ⟨h.ji.ci.less hn (rotD_less _ hi) (fun q hq => rotD_lv hn hi hb (h.ji.ci.lv q hq)), ?_⟩
  refine cnt_one (x := (ix s.d y k 0, pcB y k)) (jobs_pair hn h.ji.ci.con) (mem_jobsL.2 ⟨y, hy, k, 0, hk, by decide, rfl⟩) (fun z hz => ?_)
  obtain ⟨q, hq, l, u, hl, hu, rfl⟩ := mem_jobsL.1 hz
  unfold todo
  by_cases e : (q.at_ + l) % s.d.n + u * s.d.n = ix s.d y k 0
  · show decide ((rotD s.d (ix s.d y k 0)).read (((q.at_ + l) % s.d.n + u * s.d.n : Nat) : Int) ≠ some (pcB q l)) = decide ((q.at_ + l) % s.d.n + u * s.d.n = ix s.d y k 0)
    rw [e, rotD_self hi]; simp
  · show decide ((rotD s.d (ix s.d y k 0)).read (((q.at_ + l) % s.d.n + u * s.d.n : Nat) : Int) ≠ some (pcB q l)) = decide ((q.at_ + l) % s.d.n + u * s.d.n = ix s.d y k 0)
    rw [rotD_ne e, show s.d.read (((q.at_ + l) % s.d.n + u * s.d.n : Nat) : Int) = some (pcB q l) from h.ag q hq l u hl hu, decide_eq_false e]
    simp
theorem ix_of_n {d d' : Dk} (h : d'.n = d.n) (r : Rc) (k t : Nat) : ix d' r k t = ix d r k t := by unfold ix; rw [h]
theorem KA.rot {s : Sp} {j : Jn} {I : List Rc} {c : Nat} (h : KA s j I c) (hn : 0 < s.d.n) {m k : Nat} (hm : m + 1 < j.live.length) (hk : k < (j.live.getD m Rc0).h.total) : openL (rotD (rotD s.d (ix s.d (j.live.getD m Rc0) k 0)) (ix s.d (j.live.getD m Rc0) k 1)) = (rotD (rotD s.d (ix s.d (j.live.getD m Rc0) k 0)) (ix s.d (j.live.getD m Rc0) k 1), 421, none) := by
  have hy := mem_getD (R := j.live) (show m < j.live.length by omega)
  have h0 : ix s.d (j.live.getD m Rc0) k 0 < 2 * s.d.n := ix_lt hn (by decide)
  have h1 : ix s.d (j.live.getD m Rc0) k 1 < 2 * s.d.n := ix_lt hn (by decide)
  have hne : ix s.d (j.live.getD m Rc0) k 0 ≠ ix s.d (j.live.getD m Rc0) k 1 := fun e => by have := (ix_inj (Nat.mod_lt _ hn) (Nat.mod_lt _ hn) e).2; omega
  have hdn : (rotD (rotD s.d (ix s.d (j.live.getD m Rc0) k 0)) (ix s.d (j.live.getD m Rc0) k 1)).n = s.d.n := (rotD_n _ _).trans (rotD_n _ _)
  have hl1 := rotD_less s.d h0
  have hl2 := rotD_less (rotD s.d (ix s.d (j.live.getD m Rc0) k 0)) (i := ix s.d (j.live.getD m Rc0) k 1) (by rw [rotD_n]; exact h1)
  have hci := h.ji.ci
  have hI := hl2.iss (hl1.iss hci.iss)
  refine openL_rot (by omega) ?_
  refine openC_rot (L := j.live) (I := I) (m := m) hI (by omega) (by rw [hdn]; exact hci.row) ?_ hm (fun i hi1 hi2 => ?_) ?_
  · intro r hr hc
    have hc0 := hl1.cmp hn (hl2.cmp (by rw [rotD_n]; exact hn) hc)
    rcases hci.only r hr hc0 with h2 | h2 | h2
    · exact .inl (getD_mem h2)
    · exact .inr h2
    · exact h2.elim
  · intro l hl
    refine ⟨0, by decide, ?_⟩
    have hq := mem_getD (R := j.live) hi2
    have hg := h.ag _ hq l 0 hl (by decide)
    rw [At1_iff]
    have hix : ix (rotD (rotD s.d (ix s.d (j.live.getD m Rc0) k 0)) (ix s.d (j.live.getD m Rc0) k 1)) (j.live.getD i Rc0) l 0 = ix s.d (j.live.getD i Rc0) l 0 := ix_of_n hdn _ _ _
    have hd : ∀ t, t < 2 → ix s.d (j.live.getD i Rc0) l 0 ≠ ix s.d (j.live.getD m Rc0) k t := fun t _ e => by
      have := (hci.con.disj hi2 (show m < j.live.length by omega) hl hk (ix_inj (Nat.mod_lt _ hn) (Nat.mod_lt _ hn) e).1).1
      omega
    rw [hix]
    unfold GB at hg
    have hr : (rotD (rotD s.d (ix s.d (j.live.getD m Rc0) k 0)) (ix s.d (j.live.getD m Rc0) k 1)).read ((ix s.d (j.live.getD i Rc0) l 0 : Nat) : Int) = some (pcB (j.live.getD i Rc0) l) := by
      rw [rotD_ne (hd 1 (by decide)), rotD_ne (hd 0 (by decide))]; exact hg
    rw [tk_read hr, take_pc (hci.iss.ok _ (hci.mem hq)) hl]
  · intro hc
    obtain ⟨t, ht, h2⟩ := hc k hk
    rw [At1_iff] at h2
    have hix : ix (rotD (rotD s.d (ix s.d (j.live.getD m Rc0) k 0)) (ix s.d (j.live.getD m Rc0) k 1)) (j.live.getD m Rc0) k t = ix s.d (j.live.getD m Rc0) k t := ix_of_n hdn _ _ _
    rw [hix] at h2
    have hr : (rotD (rotD s.d (ix s.d (j.live.getD m Rc0) k 0)) (ix s.d (j.live.getD m Rc0) k 1)).read ((ix s.d (j.live.getD m Rc0) k t : Nat) : Int) = none := by
      rcases (show t = 0 ∨ t = 1 by omega) with rfl | rfl
      · rw [rotD_ne hne]; exact rotD_self h0
      · exact rotD_self (by rw [rotD_n]; exact h1)
    rw [tk_none hr] at h2
    exact absurd h2 (by simp)
theorem off_find : ∀ {R : List Rc} {x : Nat}, x < totalL R → ∃ m k, m < R.length ∧ k < (R.getD m Rc0).h.total ∧ x = totalL (R.take m) + k
  | [], x, hx => by simp [totalL] at hx
  | y :: R, x, hx => by
    rw [totalL_cons] at hx
    rcases Nat.lt_or_ge x y.h.total with h | h
    · exact ⟨0, x, by simp, h, by simp [totalL]⟩
    · obtain ⟨m, k, h1, h2, h3⟩ := off_find (R := R) (x := x - y.h.total) (by omega)
      refine ⟨m + 1, k, by simpa using h1, by simpa using h2, ?_⟩
      rw [List.take_succ_cons, totalL_cons]; omega
theorem mod_less {n a T w : Nat} (hn : 0 < n) (hw : w + 1 ≤ T) (hT : T ≤ n) : ((a + T) % n + n - 1 - w) % n = (a + (T - 1 - w)) % n := by
  have h1 := Nat.div_add_mod (a + T) n
  have h2 := Nat.mod_lt (a + T) hn
  have e : a + (T - 1 - w) + n = n * ((a + T) / n) + ((a + T) % n + n - 1 - w) := by omega
  have e2 : (a + (T - 1 - w)) % n = (a + (T - 1 - w) + n) % n := (Nat.add_mod_right _ _).symm
  rw [e2, e, Nat.mul_add_mod]
theorem back_place {n : Nat} {R : List Rc} (hn : 0 < n) (h : Con n R) (h2 : 2 ≤ R.length) {w : Nat} (hw : w < totalL R - (R.getD (R.length - 1) Rc0).h.total) :
    ∃ m k, m + 1 < R.length ∧ k < (R.getD m Rc0).h.total ∧ ((R.getD (R.length - 1) Rc0).at_ + n - 1 - w) % n = ((R.getD m Rc0).at_ + k) % n := by
  have hoff := h.off (i := R.length - 1) (by omega)
  have hT := totalL_take (l := R) (i := R.length - 1) (by omega)
  rw [show R.length - 1 + 1 = R.length by omega, List.take_of_length_le (Nat.le_refl _)] at hT
  have hfree := h.free
  obtain ⟨m, k, h3, h4, h5⟩ := off_find (R := R.take (R.length - 1)) (x := totalL (R.take (R.length - 1)) - 1 - w) (by omega)
  rw [List.length_take] at h3
  have hm : m < R.length - 1 := by omega
  have e1 : (R.take (R.length - 1)).getD m Rc0 = R.getD m Rc0 := by
    simp only [List.getD_eq_getElem?_getD, List.getElem?_take]
    rw [if_pos hm]
  have e2 : (R.take (R.length - 1)).take m = R.take m := by rw [List.take_take, Nat.min_eq_left (by omega)]
  rw [e1] at h4
  rw [e2] at h5
  refine ⟨m, k, by omega, h4, ?_⟩
  rw [hoff, h.off (i := m) (by omega), Nat.mod_add_mod, mod_less hn (by omega) (by omega), h5, Nat.add_assoc]
theorem KC.place {s : Sp} {j : Jn} {I : List Rc} {c : Nat} (hC : KC s j I) (h : KA s j I c) (hn : 0 < s.d.n) (h0 : 0 < j.live.length) {i : Nat} (hi : i < s.d.n) :
    ((s.d.read (i : Int)).isSome = true ∧ (blkO (s.d.read (i : Int))).getD 0 0 = 1 ∧ (blkO (s.d.read (i : Int))).getD 1 0 = 0 ∧ wordL ((blkO (s.d.read (i : Int))).drop 4) = lastN j.live) ↔ i = (j.live.getD (j.live.length - 1) Rc0).at_ := by
  have hq := mem_getD (R := j.live) (i := j.live.length - 1) (by omega)
  have hqI := h.ji.ci.mem hq
  have hK := h.ji.ci.iss.ok _ hqI
  have hdat : ∀ r ∈ I, ∀ k, k < r.h.total → (pcB r k).getD 0 0 = 1 ∧ (pcB r k).getD 1 0 = k ∧ wordL ((pcB r k).drop 4) = r.h.number := fun r hr k hk => by
    have hKr := h.ji.ci.iss.ok r hr
    have ht := hKr.tot
    have hlen := hKr.len
    unfold cntL at ht
    have e := pieceB_eq (t := r.h.total) (n := r.h.number) (l := r.h.life) (f := r.h.first) (k := k) (dt := dataL r.dat k)
    refine ⟨by unfold pcB; rw [e]; rfl, by unfold pcB; rw [e]; show k % 256 = k; omega, ?_⟩
    unfold pcB; rw [e]
    exact word_be4 (xs := be4 r.h.life ++ be4 r.h.first ++ (dataL r.dat k ++ List.replicate (48 - (dataL r.dat k).length) 0)) hKr.number
  constructor
  · rintro ⟨h1, h2, h3, h4⟩
    rcases hC.cl i (by omega) with e | ⟨r, hr, k, t, hk, ht, hix, e⟩
    · rw [e] at h2
      exact absurd h2 (by decide)
    · rw [e] at h2 h3 h4
      obtain ⟨e1, e2, e3⟩ := hdat r hr k hk
      have h3' : k = 0 := by rw [← e2]; exact h3
      have h4' : r.h.number = lastN j.live := by rw [← e3]; exact h4
      subst h3'
      have hrq := hC.nu r hr _ hqI h4'
      unfold ix at hix
      have hat := (h.ji.ci.iss.ok r hr).at_
      rw [Nat.add_zero, Nat.mod_eq_of_lt hat] at hix
      rcases (show t = 0 ∨ t = 1 by omega) with rfl | rfl
      · rw [← hrq]; omega
      · omega
  · intro e
    have hat := hK.at_
    have hg := h.ag _ hq 0 0 hK.pos (by decide)
    unfold GB ix at hg
    rw [Nat.add_zero, Nat.mod_eq_of_lt hat, Nat.zero_mul, Nat.add_zero, ← e] at hg
    rw [hg]
    obtain ⟨e1, e2, e3⟩ := hdat _ hqI 0 hK.pos
    exact ⟨rfl, e1, e2, e3⟩
end Go.Proofs.Ytlplogplicgfiaa
