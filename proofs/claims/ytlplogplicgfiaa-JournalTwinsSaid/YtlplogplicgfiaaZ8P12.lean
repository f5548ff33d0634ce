import Derived.Test.YtlplogplicgfiaaZ8KR
namespace Go.Proofs.Ytlplogplicgfiaa
open Go Go.RowKit
def rotK (d : Dk) (n t : Nat) : Nat → Dk
  | 0 => d
  | k + 1 => rotD (rotK d n t k) (k + t * n)
theorem rotK_n {d : Dk} {n t : Nat} : ∀ k : Nat, (rotK d n t k).n = d.n
  | 0 => rfl
  | k + 1 => (rotD_n _ _).trans (rotK_n k)
theorem rotK_pw {d : Dk} {n t : Nat} : ∀ k : Nat, (rotK d n t k).pw = d.pw
  | 0 => rfl
  | k + 1 => rotK_pw k
theorem rotK_read {d : Dk} {t : Nat} (ht : t < 2) : ∀ {k : Nat}, k ≤ d.n → ∀ {pl u : Nat}, pl < d.n → u < 2 → (rotK d d.n t k).read ((pl + u * d.n : Nat) : Int) = if u = t ∧ pl < k then none else d.read ((pl + u * d.n : Nat) : Int)
  | 0, _, pl, u, _, _ => by rw [if_neg (by omega)]; rfl
  | k + 1, hk, pl, u, hp, hu => by
    have ih := rotK_read (d := d) ht (k := k) (by omega) hp hu
    show (rotD (rotK d d.n t k) (k + t * d.n)).read _ = _
    have h2 : t * d.n ≤ 1 * d.n := Nat.mul_le_mul_right _ (by omega)
    by_cases e : pl + u * d.n = k + t * d.n
    · obtain ⟨e1, e2⟩ := ix_inj hp (by omega) e
      rw [e, rotD_self (by rw [rotK_n]; omega), if_pos (by omega)]
    · rw [rotD_ne e, ih]
      by_cases h : u = t ∧ pl < k
      · rw [if_pos h, if_pos (by omega)]
      · rw [if_neg h, if_neg (fun h3 => by
          obtain ⟨rfl, h4⟩ := h3
          have : pl = k := by omega
          subst this; exact e rfl)]
theorem rotK_ix {d : Dk} {t : Nat} (ht : t < 2) (hn : 0 < d.n) (q : Rc) (j u : Nat) (hu : u < 2) : (rotK d d.n t d.n).read ((ix d q j u : Nat) : Int) = if u = t then none else d.read ((ix d q j u : Nat) : Int) := by
  have h := Nat.mod_lt (q.at_ + j) hn
  have := rotK_read (d := d) ht (Nat.le_refl _) h hu
  unfold ix
  rw [this]
  by_cases e : u = t
  · rw [if_pos e, if_pos ⟨e, h⟩]
  · rw [if_neg e, if_neg (fun h => e h.1)]
theorem rotK_less {d : Dk} {t : Nat} (ht : t < 2) : ∀ {k : Nat}, k ≤ d.n → Less d (rotK d d.n t k)
  | k, hk => ⟨rotK_n k, fun i hi => by
    have hn : 0 < d.n := by omega
    have e : i = i % d.n + i / d.n * d.n := by rw [Nat.mul_comm]; exact (Nat.mod_add_div i d.n).symm
    have h1 : i / d.n < 2 := (Nat.div_lt_iff_lt_mul hn).2 hi
    have := rotK_read (d := d) ht hk (Nat.mod_lt i hn) h1
    rw [← e] at this
    split at this
    · exact .inl (tk_none this)
    · right; unfold tk; rw [this]⟩
theorem todo_T {d : Dk} {i : Nat} {b : List Nat} (h : d.read ((i : Nat) : Int) = none) : todo d (i, b) = true := decide_eq_true (by show d.read ((i : Nat) : Int) ≠ some b; rw [h]; simp)
theorem todo_F {d : Dk} {i : Nat} {b : List Nat} (h : d.read ((i : Nat) : Int) = some b) : ¬ todo d (i, b) = true := fun e => (of_decide_eq_true e : d.read ((i : Nat) : Int) ≠ some b) h
theorem KA.twins {s : Sp} {j : Jn} {I : List Rc} {c t : Nat} (h : KA s j I c) (hn : 0 < s.d.n) (ht : t < 2) : CI (rotK s.d s.d.n t s.d.n) I j.live NoP ∧ (jobsL s.d.n j.live).countP (todo (rotK s.d s.d.n t s.d.n)) = totalL j.live := by
  have hix : ∀ q k u, ix (rotK s.d s.d.n t s.d.n) q k u = ix s.d q k u := fun q k u => by unfold ix; rw [rotK_n]
  have hrd : ∀ q ∈ j.live, ∀ k u, k < q.h.total → u < 2 → (rotK s.d s.d.n t s.d.n).read ((ix s.d q k u : Nat) : Int) = if u = t then none else some (pcB q k) := fun q hq k u hk hu => by
    rw [rotK_ix ht hn q k u hu, h.ag q hq k u hk hu]
  refine ⟨h.ji.ci.less hn (rotK_less ht (Nat.le_refl _)) (fun q hq => ⟨fun k u hk hu => ?_, fun k hk => ⟨1 - t, by omega, ?_⟩⟩), ?_⟩
  · unfold GB BB
    rw [hix, hrd q hq k u hk hu]
    by_cases e : u = t
    · right; rw [if_pos e]
    · left; rw [if_neg e]
  · unfold GB
    rw [hix, hrd q hq k (1 - t) hk (by omega), if_neg (by omega)]
  · have hc := cnt_all (d := rotK s.d s.d.n t s.d.n) (L := j.live) (fun y hy k hk => ?_)
    · rw [rotK_n] at hc; exact hc
    · rw [rotK_n]
      have h0 := hrd y hy k 0 hk (by decide)
      have h1 := hrd y hy k 1 hk (by decide)
      unfold ix at h0 h1
      rw [Nat.zero_mul, Nat.add_zero] at h0
      rw [Nat.one_mul] at h1
      unfold jobs2
      rcases (show t = 0 ∨ t = 1 by omega) with rfl | rfl
      · rw [if_pos rfl] at h0
        rw [if_neg (by decide)] at h1
        rw [List.countP_cons_of_pos (todo_T h0), List.countP_cons_of_neg (todo_F h1)]; rfl
      · rw [if_neg (by decide)] at h0
        rw [if_pos rfl] at h1
        rw [List.countP_cons_of_neg (todo_F h0), List.countP_cons_of_pos (todo_T h1)]; rfl
theorem CI.openW {n c : Nat} {s : Sp} {j : Jn} {d2 : Dk} {I : List Rc} (hJ : JInv n j s.live s.first) (hd2 : d2.n = n) (hn : 0 < n) (hp : d2.pw = -1) (h : CI d2 I j.live NoP) (hlam : ∀ r ∈ I, r.h.life ≤ c) (hc : c < 4294967294) {m : Nat} (hm : (jobsL n j.live).countP (todo d2) = m) :
    ∃ d' life, openL (d2.setPw (-1)) = (d', 0, some ⟨j.live, life, m, false⟩) ∧ HoldP ⟨j.live, life, m, false⟩ s.live s.first ∧ WI n { s with d := d', waits := false } ⟨j.live, life, m, false⟩ (c + 1) ∧ d'.pw = -1 ∧ ∃ I0, JI d' I0 ⟨j.live, life, m, false⟩ ∧ (∀ r ∈ I0, r ∈ I) ∧ (∀ q ∈ j.live, AG d' q) := by
  obtain ⟨d', I0, h1, h2, h3, h4, h5, h6⟩ := h.open_cnt (by omega) (fun r hr => by have := hlam r hr; omega) (by omega)
  have hll : (lastL d2 d2.n).2 ≤ c := h.life hlam
  rw [hd2] at h1 h3
  rw [hd2] at hll
  rw [hm] at h1 h3
  have hJ2 := hJ.re (life := (lastL d2 n).2 + 1) (m := m) (by omega)
  exact ⟨d', (lastL d2 n).2 + 1, by rw [setPw_same hp]; exact h1, hJ2.h, ⟨by show d'.n = n; omega, hJ2, rfl, I0, h3, h5, by show 1 ≤ _ + 1; omega, by show _ + 1 ≤ c + 1; omega⟩, by omega, I0, h3, h4, h5⟩
theorem KA.one {s : Sp} {j : Jn} {I : List Rc} {c : Nat} (h : KA s j I c) (hn : 0 < s.d.n) {y : Rc} (hy : y ∈ j.live) {k : Nat} (hk : k < y.h.total) : CI (rotD s.d (ix s.d y k 0)) I j.live NoP ∧ (jobsL s.d.n j.live).countP (todo (rotD s.d (ix s.d y k 0))) = 1 := by
  have hi : ix s.d y k 0 < 2 * s.d.n := ix_lt hn (by decide)
  have hpl := Nat.mod_lt (y.at_ + k) hn
  have ht := twin_ix (n := s.d.n) (pl := (y.at_ + k) % s.d.n) (t := 0) hpl (by decide)
  have hb : s.d.bad.getD ((ix s.d y k 0 + s.d.n) % (2 * s.d.n)) true = false := by
    have e : (ix s.d y k 0 + s.d.n) % (2 * s.d.n) = ix s.d y k 1 := ht
    rw [e]
    have hg := h.ag y hy k 1 hk (by decide)
    unfold GB Dk.read at hg
    have h2 : ix s.d y k 1 < 2 * s.d.n := ix_lt hn (by decide)
    rw [if_pos ⟨by omega, by omega⟩, Int.toNat_natCast] at hg
    cases hb : s.d.bad.getD (ix s.d y k 1) true with
    | false => rfl
    | true => rw [hb] at hg; simp at hg
  refine ⟨h.ji.ci.less hn (rotD_less _ hi) (fun q hq => rotD_lv hn hi hb (h.ji.ci.lv q hq)), ?_⟩
  refine cnt_one (x := (ix s.d y k 0, pcB y k)) (jobs_pair hn h.ji.ci.con) (mem_jobsL.2 ⟨y, hy, k, 0, hk, by decide, rfl⟩) (fun z hz => ?_)
  obtain ⟨q, hq, l, u, hl, hu, rfl⟩ := mem_jobsL.1 hz
  unfold todo
  by_cases e : (q.at_ + l) % s.d.n + u * s.d.n = ix s.d y k 0
  · show decide ((rotD s.d (ix s.d y k 0)).read (((q.at_ + l) % s.d.n + u * s.d.n : Nat) : Int) ≠ some (pcB q l)) = decide ((q.at_ + l) % s.d.n + u * s.d.n = ix s.d y k 0)
    rw [e, rotD_self hi]; simp
  · show decide ((rotD s.d (ix s.d y k 0)).read (((q.at_ + l) % s.d.n + u * s.d.n : Nat) : Int) ≠ some (pcB q l)) = decide ((q.at_ + l) % s.d.n + u * s.d.n = ix s.d y k 0)
    rw [rotD_ne e, show s.d.read (((q.at_ + l) % s.d.n + u * s.d.n : Nat) : Int) = some (pcB q l) from h.ag q hq l u hl hu, decide_eq_false e]
    simp
end Go.Proofs.Ytlplogplicgfiaa
