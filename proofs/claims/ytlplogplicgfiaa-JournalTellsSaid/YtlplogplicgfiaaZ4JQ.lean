import Derived.Test.YtlplogplicgfiaaZ4JP
namespace Go.Proofs.Ytlplogplicgfiaa
open Go Go.RowKit
theorem getD_lt {xs : List Nat} (h : ∀ x ∈ xs, x < 256) (i : Nat) : xs.getD i 0 < 256 := by
  rw [List.getD_eq_getElem?_getD]
  cases hx : xs[i]? with
  | none => simp
  | some v => exact h v (List.mem_of_getElem? hx)
theorem wordL_lt {xs : List Nat} (h : ∀ x ∈ xs, x < 256) : wordL xs < 4294967296 := by
  have h0 := getD_lt h 0; have h1 := getD_lt h 1; have h2 := getD_lt h 2; have h3 := getD_lt h 3; unfold wordL; omega
def okD (d : Dk) : Prop := ∀ b ∈ d.bl, BlockP b
theorem tk_ok {d : Dk} (hd : okD d) {i : Int} {g : Hd} {j : Nat} {dt : List Nat} (h : tk d i = some (g, j, dt)) : g.number ≤ 4294967295 ∧ g.life ≤ 4294967295 ∧ (∀ x ∈ dt, x < 256) ∧ (j + 1 ≠ g.total → dt.length = 48) ∧ (j ≠ 0 → 0 < dt.length) := by
  have hB := Dk.okO (i := i) hd; unfold tk takeL at h
  split at h
  · exact absurd h (by simp)
  · rename_i hb
    have hb2 : ¬ _ := fun h2 => hb (by unfold badB; exact decide_eq_true h2)
    split at h
    · exact absurd h (by simp)
    · have h2 := Option.some.inj h; simp only [Prod.mk.injEq] at h2; obtain ⟨rfl, rfl, rfl⟩ := h2; have h4 := wordL_lt (xs := (blkO (d.read i)).drop 4) (fun x hx => hB.2 x (List.mem_of_mem_drop hx)); have h8 := wordL_lt (xs := (blkO (d.read i)).drop 8) (fun x hx => hB.2 x (List.mem_of_mem_drop hx)); have hl := hB.1; refine ⟨by simp only [headL]; omega, by simp only [headL]; omega, fun x hx => hB.2 x (List.mem_of_mem_drop (List.mem_of_mem_take hx)), fun hj => ?_, fun hj => ?_⟩
      · simp only [headL] at hj; simp only [List.length_take, List.length_drop]; have : leastB (blkO (d.read i)) = 48 := by unfold leastB; rw [if_neg hj]
        omega
      · simp only [List.length_take, List.length_drop]; have : 1 ≤ leastB (blkO (d.read i)) := by unfold leastB; split <;> omega
        omega
theorem hitL_some {o : Option (Hd × Nat × List Nat)} {h : Hd} {k : Nat} {dt : List Nat} (hh : hitL o h k = some dt) : o = some (h, k, dt) := by
  unfold hitL at hh
  split at hh
  · rename_i g j d'
    split at hh
    · rename_i hc; cases hh; rw [hc.1, hc.2]
    · exact absurd hh (by simp)
  · exact absurd hh (by simp)
theorem partL_tk {d : Dk} {pl k : Nat} {h : Hd} {dt : List Nat} (hp : partL d pl h k = some dt) : ∃ i : Int, tk d i = some (h, k, dt) := by
  unfold partL at hp
  split at hp
  · rename_i x h1; cases hp; exact ⟨_, hitL_some h1⟩
  · exact ⟨_, hitL_some hp⟩
theorem foundL_parts {d : Dk} {a : Nat} {h : Hd} : ∀ {m : Nat} {l : List (List Nat)}, foundL d a h m = some l → l.length = m ∧ ∀ i, i < m → partL d ((a + i) % d.n) h i = some (l.getD i [])
  | 0, l, hl => by cases hl; exact ⟨rfl, fun i hi => absurd hi (Nat.not_lt_zero _)⟩
  | m + 1, l, hl => by
    simp only [foundL] at hl
    split at hl
    · exact absurd hl (by simp)
    · rename_i l' h1
      split at hl
      · exact absurd hl (by simp)
      · rename_i x h2
        cases hl; obtain ⟨q1, q2⟩ := foundL_parts h1; refine ⟨by simp [q1], fun i hi => ?_⟩; rcases Nat.lt_or_ge i m with h3 | h3
        · rw [q2 i h3]; congr 1; simp only [List.getD_eq_getElem?_getD]; rw [List.getElem?_append_left (by omega)]
        · obtain rfl : i = m := by omega
          rw [h2]; congr 1; simp only [List.getD_eq_getElem?_getD]; rw [List.getElem?_append_right (by omega)]; simp [q1]
theorem flat_drop : ∀ {l : List (List Nat)} {k : Nat}, k < l.length → (∀ i, i + 1 < l.length → (l.getD i []).length = 48) → l.flatten.drop (48 * k) = (l.drop k).flatten ∧ 48 * k ≤ l.flatten.length
  | [], k, hk, _ => by simp at hk
  | x :: l, 0, _, _ => by simp
  | x :: l, k + 1, hk, h => by
    have hx : x.length = 48 := by have := h 0 (by simp only [List.length_cons] at hk ⊢; omega); simpa using this
    obtain ⟨h1, h2⟩ := flat_drop (l := l) (k := k) (by simpa using hk) (fun i hi => by have := h (i + 1) (by simp; omega); simpa using this); refine ⟨?_, ?_⟩
    · rw [List.flatten_cons, show 48 * (k + 1) = x.length + 48 * k by omega, ← List.drop_drop, List.drop_left, h1]; rfl
    · rw [List.flatten_cons, List.length_append]; omega
theorem flat_data {l : List (List Nat)} {k : Nat} (hk : k < l.length) (h : ∀ i, i + 1 < l.length → (l.getD i []).length = 48) (hl : ∀ i, i < l.length → (l.getD i []).length ≤ 48) : dataL l.flatten k = l.getD k [] := by
  obtain ⟨h1, h2⟩ := flat_drop hk h; unfold dataL; rw [h1, List.drop_eq_getElem_cons hk, List.flatten_cons]; have hg : l.getD k [] = l[k] := by rw [List.getD_eq_getElem?_getD, List.getElem?_eq_getElem hk]; rfl
  rw [hg]; have hlen : l.flatten.length = 48 * k + l[k].length + (l.drop (k + 1)).flatten.length := by
    have e := congrArg List.length h1; rw [List.drop_eq_getElem_cons hk, List.flatten_cons, List.length_append, List.length_drop] at e; omega
  have hk48 := hl k hk; rw [hg] at hk48; rcases Nat.lt_or_ge (k + 1) l.length with h3 | h3
  · have h4 := h k h3; rw [hg] at h4; rw [show min (48 * (k + 1)) l.flatten.length - 48 * k = l[k].length by omega, List.take_left]
  · rw [List.drop_of_length_le h3] at hlen ⊢; simp only [List.flatten_nil, List.length_nil, Nat.add_zero, List.append_nil] at hlen ⊢; rw [List.take_of_length_le (by omega)]
structure RcD (r : Rc) : Prop where
  len48 : ∀ k, k < r.h.total → 48 * k ≤ r.dat.length
  lenle : r.dat.length ≤ 48 * r.h.total
  byt : ∀ x ∈ r.dat, x < 256
  lenlt : 1 < r.h.total → 48 * (r.h.total - 1) < r.dat.length
structure RcP (d : Dk) (r : Rc) : Prop where
  tot0 : 0 < r.h.total
  tot : r.h.total ≤ 84
  totn : r.h.total ≤ d.n
  life : r.h.life ≤ 4294967295
  life1 : 1 ≤ r.h.life
  first : 1 ≤ r.h.first
  num : r.h.first ≤ r.h.number
  numb : r.h.number ≤ 4294967295
  at_ : r.at_ < d.n
  find : findL d r.at_ r.h = some r.dat
  d : RcD r
theorem findL_rcd {d : Dk} (hd : okD d) {r : Rc} (_h0 : 0 < r.h.total) (hf : findL d r.at_ r.h = some r.dat) : RcD r ∧ r.h.total ≤ d.n := by
  unfold findL at hf
  split at hf
  · exact absurd hf (by simp)
  · rename_i hn
    cases hl : foundL d r.at_ r.h r.h.total with
    | none => rw [hl] at hf; exact absurd hf (by simp)
    | some l =>
      rw [hl] at hf; have hdat : l.flatten = r.dat := by simpa using hf
      obtain ⟨q1, q2⟩ := foundL_parts hl; have hp : ∀ i, i < l.length → (∀ x ∈ l.getD i [], x < 256) ∧ (i + 1 ≠ r.h.total → (l.getD i []).length = 48) ∧ (i ≠ 0 → 0 < (l.getD i []).length) ∧ (l.getD i []).length ≤ 48 := fun i hi => by
        have h1 := q2 i (by omega); obtain ⟨z, hz⟩ := partL_tk h1; have h2 := tk_ok hd hz; exact ⟨h2.2.2.1, h2.2.2.2.1, h2.2.2.2.2, partL_len h1⟩
      have h48 : ∀ i, i + 1 < l.length → (l.getD i []).length = 48 := fun i hi => (hp i (by omega)).2.1 (by omega); refine ⟨⟨fun k hk => ?_, ?_, ?_, fun h1 => ?_⟩, by omega⟩
      · rw [← hdat]; exact (flat_drop (by omega) h48).2
      · rw [← hdat, ← q1]; have := foundL_len hl; omega
      · rw [← hdat]; intro x hx; obtain ⟨y, hy, hxy⟩ := List.mem_flatten.1 hx; obtain ⟨i, hi, rfl⟩ := List.mem_iff_getElem.1 hy; refine (hp i hi).1 x ?_; rw [List.getD_eq_getElem?_getD, List.getElem?_eq_getElem hi]; exact hxy
      · have h2 := flat_drop (l := l) (k := r.h.total - 1) (by omega) h48; have h3 := (hp (r.h.total - 1) (by omega)).2.2.1 (by omega); have e := congrArg List.length h2.1; rw [List.length_drop, List.drop_eq_getElem_cons (by omega), List.flatten_cons, List.length_append] at e; rw [List.getD_eq_getElem?_getD, List.getElem?_eq_getElem (by omega)] at h3; simp only [Option.getD_some] at h3; rw [← hdat]; omega
theorem RcP.of {d : Dk} (hd : okD d) {i : Int} {r : Rc} {j : Nat} {dt : List Nat} (ht : tk d i = some (r.h, j, dt)) (ha : r.at_ < d.n) (hf : findL d r.at_ r.h = some r.dat) : RcP d r := by
  have h1 := tk_total ht; have h2 := tk_ok hd ht; obtain ⟨h3, h4⟩ := findL_rcd hd (by omega) hf; exact ⟨by omega, by omega, h4, by omega, by omega, by omega, by omega, by omega, ha, hf, h3⟩
theorem lstep_P {d : Dk} (hd : okD d) {pl : Nat} (hpl : pl < d.n) {s : Rc × Nat} {i : Int} (hs : (s.1 = Rc0 ∨ RcP d s.1) ∧ s.2 ≤ 4294967295) : ((lstep d pl s (tk d i)).1 = Rc0 ∨ RcP d (lstep d pl s (tk d i)).1) ∧ (lstep d pl s (tk d i)).2 ≤ 4294967295 := by
  rcases takeCases (blkO (d.read i)) with h | ⟨g, j, dt, h⟩
  · have h' : tk d i = none := h; rw [h']; exact hs
  · have h' : tk d i = some (g, j, dt) := h; have hlf := (tk_ok hd h').2.1; rw [h']; simp only [lstep]
    split
    · exact ⟨hs.1, by simp only; omega⟩
    · split
      · exact ⟨hs.1, by simp only; omega⟩
      · rename_i rec hr
        exact ⟨.inr (RcP.of (r := ⟨g, pl, rec⟩) hd h' hpl hr), by simp only; omega⟩
theorem lastL_P {d : Dk} (hd : okD d) : ∀ {p : Nat}, p ≤ d.n → ((lastL d p).1 = Rc0 ∨ RcP d (lastL d p).1) ∧ (lastL d p).2 ≤ 4294967295
  | 0, _ => ⟨.inl rfl, by simp [lastL]⟩
  | p + 1, hp => by
    have h := lastL_P hd (p := p) (by omega); simp only [lastL, lpl]; exact lstep_P hd (by omega) (lstep_P hd (by omega) h)
theorem bAt_P {d : Dk} (hd : okD d) (hn : 0 < d.n) {e num i : Nat} {r : Rc} (h : bAt d e num i = some r) : RcP d r ∧ r.h.number + 1 = num := by
  unfold bAt at h; rcases takeCases (blkO (d.read ((e + i * d.n : Nat) : Int))) with h1 | ⟨g, j, dt, h1⟩
  · have h' : tk d ((e + i * d.n : Nat) : Int) = none := h1; rw [h'] at h; exact absurd h (by simp [bst])
  · have h' : tk d ((e + i * d.n : Nat) : Int) = some (g, j, dt) := h1; rw [h'] at h; simp only [bst] at h
    split at h
    · exact absurd h (by simp)
    · rename_i hc
      split at h
      · exact absurd h (by simp)
      · rename_i rec hr
        cases h; exact ⟨RcP.of (r := ⟨g, _, rec⟩) hd h' (Nat.mod_lt _ hn) hr, by simp only; omega⟩
theorem beforeL_P {d : Dk} (hd : okD d) (hn : 0 < d.n) {a num : Nat} {r : Rc} (h : beforeL d a num = some r) : RcP d r ∧ r.h.number + 1 = num := by
  unfold beforeL beforeE at h
  split at h
  · rename_i x h1; cases h; exact bAt_P hd hn h1
  · exact bAt_P hd hn h
def chainL (d : Dk) : Nat → List Rc → Option (List Rc)
  | 0, l => some l
  | f + 1, l => match beforeL d (l.getD 0 Rc0).at_ (l.getD 0 Rc0).h.number with
    | none => none
    | some z => if freeI d.n (z :: l) < 0 then none else chainL d f (z :: l)
def chainS (d : Dk) (x : Rc) (l : List Rc) : Option (List Rc) := if x.h.number = 0 then some l else chainL d ((l.getD 0 Rc0).h.number - x.h.first) l
def openC (d : Dk) : Option (List Rc) := chainS d (lastL d d.n).1 (if (lastL d d.n).1.h.number = 0 then [] else [(lastL d d.n).1])
def pcB (y : Rc) (k : Nat) : List Nat := pieceB y.h.total y.h.number y.h.life y.h.first (dataL y.dat k) k
def jobs2 (n : Nat) (y : Rc) (k : Nat) : List (Nat × List Nat) := [((y.at_ + k) % n, pcB y k), ((y.at_ + k) % n + n, pcB y k)]
def jobsR (n : Nat) (y : Rc) : List (Nat × List Nat) := (List.range y.h.total).flatMap (jobs2 n y)
def jobsL (n : Nat) (l : List Rc) : List (Nat × List Nat) := l.flatMap (jobsR n)
def mendL : List (Nat × List Nat) → Dk → Nat → Dk × Nat × Bool
  | [], d, m => (d, m, true)
  | (i, b) :: l, d, m => if d.read i = some b then mendL l d m else
    if (d.write i b).2 then mendL l (d.write i b).1 (m + 1) else ((d.write i b).1, m, false)
def openL (d : Dk) : Dk × Nat × Option Jn :=
  if d.n = 0 then (d, 2, none) else
  match openC d with
  | none => (d, 421, none)
  | some l => if (lastL d d.n).2 = 4294967295 then (d, 4, none) else
    match mendL (jobsL d.n l) d 0 with
    | (d', m, true) => (d', 0, some ⟨l, (lastL d d.n).2 + 1, m, false⟩)
    | (d', _, false) => (d', 420, none)
structure Chn (d : Dk) (x : Rc) (l : List Rc) : Prop where
  zero : x.h.number = 0 → l = []
  ne : 0 < x.h.number → 0 < l.length
  rc : ∀ i, i < l.length → RcP d (l.getD i Rc0)
  num : ∀ i, i < l.length → (l.getD i Rc0).h.number = (l.getD 0 Rc0).h.number + i
  lst : 0 < x.h.number → l.getD (l.length - 1) Rc0 = x
  free : 0 ≤ freeI d.n l
  fst : 0 < x.h.number → x.h.first ≤ (l.getD 0 Rc0).h.number
theorem totalL_cons (y : Rc) (l : List Rc) : totalL (y :: l) = y.h.total + totalL l := by simp [totalL]
theorem totalL_ge : ∀ {l : List Rc}, (∀ i, i < l.length → 0 < (l.getD i Rc0).h.total) → l.length ≤ totalL l
  | [], _ => by simp
  | y :: l, h => by
    have h0 := h 0 (by simp); have ih := totalL_ge (l := l) (fun i hi => by have := h (i + 1) (by simpa using hi); simpa using this); rw [totalL_cons, List.length_cons]; have h1 : (y :: l).getD 0 Rc0 = y := rfl; rw [h1] at h0; omega
theorem Chn.len {d : Dk} {x : Rc} {l : List Rc} (h : Chn d x l) : l.length ≤ d.n := by
  have h1 := totalL_ge (l := l) (fun i hi => (h.rc i hi).tot0); have h2 := h.free; unfold freeI at h2; omega
theorem firstN_cons {l : List Rc} (h : 0 < l.length) : firstN l = (l.getD 0 Rc0).h.number := by unfold firstN; rw [if_neg (by omega)]
structure Lst (l : List Rc) : Prop where
  len : l.length ≤ 2000
  tot : ∀ i, i < l.length → (l.getD i Rc0).h.total ≤ 84
  num : ∀ i, i < l.length → (l.getD i Rc0).h.number = (l.getD 0 Rc0).h.number + i
  n1 : 0 < l.length → 1 ≤ (l.getD 0 Rc0).h.number
  mx : ∀ i, i < l.length → (l.getD i Rc0).h.number ≤ 4294967295
theorem Lst.ok {l : List Rc} (h : Lst l) {life m : Nat} {b : Bool} (hl : life ≤ 4294967296) : JOK ⟨l, life, m, b⟩ := by
  rcases Nat.eq_zero_or_pos l.length with h0 | h0
  · have e : l = [] := List.length_eq_zero_iff.1 h0; subst e; exact ⟨by simp, by simp, by simp, by simp [firstN], by simp [lastN, Rc0], hl⟩
  · have hf := firstN_cons h0; exact ⟨h.len, h.tot, fun i hi => by simp only at hi ⊢; rw [hf]; exact h.num i hi, by simp only; rw [hf]; exact h.n1 h0, by simp only [lastN]; exact h.mx _ (by omega), hl⟩
theorem Chn.lst' {d : Dk} {x : Rc} {l : List Rc} (h : Chn d x l) : Lst l := ⟨by have := h.len; have := d.n_le; omega, fun i hi => (h.rc i hi).tot, h.num, fun h0 => by have := (h.rc 0 h0).first; have := (h.rc 0 h0).num; omega, fun i hi => (h.rc i hi).numb⟩
theorem getD_cons_lt {y : Rc} {l : List Rc} {i : Nat} (hi : i < (y :: l).length) : (i = 0 ∧ (y :: l).getD i Rc0 = y) ∨ ∃ k, i = k + 1 ∧ k < l.length ∧ (y :: l).getD i Rc0 = l.getD k Rc0 := by
  cases i with
  | zero => exact .inl ⟨rfl, rfl⟩
  | succ k => exact .inr ⟨k, rfl, by simpa using hi, rfl⟩
theorem Chn.cons' {d : Dk} {x y : Rc} {l : List Rc} (h : Chn d x l) (_hx : 0 < x.h.number) (hy : RcP d y) (hn : y.h.number + 1 = (l.getD 0 Rc0).h.number) : Lst (y :: l) := by
  have hl := h.len; have hd := d.n_le; refine ⟨by simp only [List.length_cons]; omega, fun i hi => ?_, fun i hi => ?_, fun _ => ?_, fun i hi => ?_⟩
  · rcases getD_cons_lt hi with ⟨_, e⟩ | ⟨k, _, hk, e⟩
    · rw [e]; exact hy.tot
    · rw [e]; exact (h.rc k hk).tot
  · rcases getD_cons_lt hi with ⟨e0, e⟩ | ⟨k, e0, hk, e⟩
    · rw [e, e0]; rfl
    · rw [e, h.num k hk, e0]; show _ = y.h.number + (k + 1); omega
  · have := hy.first; have := hy.num; show 1 ≤ y.h.number; omega
  · rcases getD_cons_lt hi with ⟨_, e⟩ | ⟨k, _, hk, e⟩
    · rw [e]; exact hy.numb
    · rw [e]; exact (h.rc k hk).numb
theorem Chn.cons {d : Dk} {x y : Rc} {l : List Rc} (h : Chn d x l) (hx : 0 < x.h.number) (hy : RcP d y) (hn : y.h.number + 1 = (l.getD 0 Rc0).h.number) (hf : x.h.first < (l.getD 0 Rc0).h.number) (hfr : 0 ≤ freeI d.n (y :: l)) : Chn d x (y :: l) := by
  have hl0 := h.ne hx; have hL := h.cons' hx hy hn; refine ⟨fun h0 => by omega, fun _ => by simp, fun i hi => ?_, hL.num, fun _ => ?_, hfr, fun _ => ?_⟩
  · rcases getD_cons_lt hi with ⟨_, e⟩ | ⟨k, _, hk, e⟩
    · rw [e]; exact hy
    · rw [e]; exact h.rc k hk
  · have h1 := h.lst hx; rw [← h1]; show (y :: l).getD (l.length + 1 - 1) Rc0 = _; obtain ⟨m, hm⟩ : ∃ m, l.length = m + 1 := ⟨l.length - 1, by omega⟩; rw [hm]; rfl
  · show x.h.first ≤ y.h.number; omega
theorem chainS_stop {d : Dk} {x : Rc} {l : List Rc} (h : x.h.number = 0 ∨ (l.getD 0 Rc0).h.number ≤ x.h.first) : chainS d x l = some l := by
  unfold chainS
  split
  · rfl
  · rw [show (l.getD 0 Rc0).h.number - x.h.first = 0 by omega]; rfl
theorem chainS_rot {d : Dk} {x : Rc} {l : List Rc} (hx : 0 < x.h.number) (hf : x.h.first < (l.getD 0 Rc0).h.number) (hb : beforeL d (l.getD 0 Rc0).at_ (l.getD 0 Rc0).h.number = none) : chainS d x l = none := by
  unfold chainS; rw [if_neg (by omega)]; obtain ⟨f, e⟩ : ∃ f, (l.getD 0 Rc0).h.number - x.h.first = f + 1 := ⟨(l.getD 0 Rc0).h.number - x.h.first - 1, by omega⟩; rw [e]; simp only [chainL, hb]
theorem chainS_full {d : Dk} {x y : Rc} {l : List Rc} (hx : 0 < x.h.number) (hf : x.h.first < (l.getD 0 Rc0).h.number) (hb : beforeL d (l.getD 0 Rc0).at_ (l.getD 0 Rc0).h.number = some y) (hfr : freeI d.n (y :: l) < 0) : chainS d x l = none := by
  unfold chainS; rw [if_neg (by omega)]; obtain ⟨f, e⟩ : ∃ f, (l.getD 0 Rc0).h.number - x.h.first = f + 1 := ⟨(l.getD 0 Rc0).h.number - x.h.first - 1, by omega⟩; rw [e]; simp only [chainL, hb, if_pos hfr]
theorem chainS_step {d : Dk} {x y : Rc} {l : List Rc} (hx : 0 < x.h.number) (hf : x.h.first < (l.getD 0 Rc0).h.number) (hb : beforeL d (l.getD 0 Rc0).at_ (l.getD 0 Rc0).h.number = some y) (hn : y.h.number + 1 = (l.getD 0 Rc0).h.number) (hfr : ¬ freeI d.n (y :: l) < 0) : chainS d x (y :: l) = chainS d x l := by
  unfold chainS; rw [if_neg (by omega), if_neg (by omega)]; obtain ⟨f, e⟩ : ∃ f, (l.getD 0 Rc0).h.number - x.h.first = f + 1 := ⟨(l.getD 0 Rc0).h.number - x.h.first - 1, by omega⟩; have e2 : ((y :: l).getD 0 Rc0).h.number - x.h.first = f := by show y.h.number - x.h.first = f; omega
  rw [e, e2]; simp only [chainL, hb, if_neg hfr]
theorem Chn.start {d : Dk} {x : Rc} (h : x = Rc0 ∨ RcP d x) : Chn d x (if x.h.number = 0 then [] else [x]) := by
  split
  · rename_i h0
    exact ⟨fun _ => rfl, fun h1 => by omega, by simp, by simp, fun h1 => by omega, by simp [freeI, totalL], fun h1 => by omega⟩
  · rename_i h0
    have hP : RcP d x := h.resolve_left (fun e => h0 (by rw [e]; rfl)); have h1 := hP.totn; refine ⟨fun h1 => absurd h1 h0, fun _ => by simp, fun i hi => ?_, fun i hi => ?_, fun _ => rfl, ?_, fun _ => hP.num⟩
    · obtain rfl : i = 0 := by simpa using hi
      exact hP
    · obtain rfl : i = 0 := by simpa using hi
      rfl
    · simp [freeI, totalL]; omega
theorem Dk.write_n (d : Dk) (i : Int) (b : List Nat) : (d.write i b).1.n = d.n := by
  unfold Dk.write
  split
  · split <;> simp [Dk.n]
  · rfl
theorem Dk.write_pw (d : Dk) (i : Int) (b : List Nat) {z : Int} (_hz : 0 ≤ z) (h : d.pw ≤ z) : (d.write i b).1.pw ≤ z := by
  unfold Dk.write
  split
  · split
    · exact h
    · simp only; split <;> omega
  · exact h
theorem pieceB_len {t n l f k : Nat} {dt : List Nat} (h : dt.length ≤ 48) : (pieceB t n l f dt k).length = 64 := by
  unfold pieceB; rw [lput_len, lput_len, lput_len, lput_len]
  all_goals simp [lput, be4, headB]
  all_goals omega
theorem lput_lt {xs ys : List Nat} {o : Nat} (h1 : ∀ x ∈ xs, x < 256) (h2 : ∀ x ∈ ys, x < 256) : ∀ x ∈ lput xs o ys, x < 256 := by
  intro x hx; simp only [lput, List.mem_append] at hx; rcases hx with (hx | hx) | hx
  · exact h1 x (List.mem_of_mem_take hx)
  · exact h2 x hx
  · exact h1 x (List.mem_of_mem_drop hx)
theorem be4_lt {n : Nat} : ∀ x ∈ be4 n, x < 256 := by
  intro x hx; simp only [be4, List.mem_cons, List.not_mem_nil, or_false] at hx; rcases hx with rfl | rfl | rfl | rfl <;> exact Nat.mod_lt _ (by decide)
theorem headB_lt {t k n : Nat} : ∀ x ∈ headB t k n, x < 256 := by
  intro x hx; simp only [headB, List.mem_append, List.mem_cons, List.not_mem_nil, or_false, List.mem_replicate] at hx; rcases hx with (rfl | rfl | rfl | rfl) | ⟨_, rfl⟩
  · decide
  all_goals first | exact Nat.mod_lt _ (by decide) | decide
theorem pieceB_ok {t n l f k : Nat} {dt : List Nat} (h : dt.length ≤ 48) (hb : ∀ x ∈ dt, x < 256) : BlockP (pieceB t n l f dt k) :=
  ⟨pieceB_len h, lput_lt (lput_lt (lput_lt (lput_lt headB_lt be4_lt) be4_lt) be4_lt) hb⟩
theorem dataL_le {rec : List Nat} {k : Nat} : (dataL rec k).length ≤ 48 := by simp only [dataL, List.length_take, List.length_drop]; omega
theorem pcB_ok {y : Rc} (h : ∀ x ∈ y.dat, x < 256) (k : Nat) : BlockP (pcB y k) := pieceB_ok dataL_le (fun x hx => h x (List.mem_of_mem_drop (List.mem_of_mem_take hx)))
end Go.Proofs.Ytlplogplicgfiaa
