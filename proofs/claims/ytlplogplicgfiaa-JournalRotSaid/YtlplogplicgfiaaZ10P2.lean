import Derived.Test.YtlplogplicgfiaaZ10KL
namespace Go.Proofs.Ytlplogplicgfiaa
open Go Go.RowKit
theorem ShM.up {X : Nat → Prop} {w w' : World} {p pd : Nat} {vb vd jp : Value} {s : Sp} (h : ShM w p pd vb vd jp s) (u : Upd X w w') (hX : ∀ b ty cs, Blk w b ty cs → (ty = 69 ∨ ty = 25 ∨ ty = 27 ∨ ty = 4 ∨ ty = 55 ∨ ty = 5) → ¬ X b) : ShM w' p pd vb vd jp s := by
  obtain ⟨⟨vL, uL, vp, hB, hV, hP⟩, hD⟩ := h
  refine ⟨⟨vL, uL, vp, hB.up u (hX _ _ _ hB (.inl rfl)), hV.up u (fun x hx e => ?_), hP.up u (fun x e => ?_)⟩, hD.blk.up u (hX _ _ _ hD.blk (.inr (.inl rfl))), hD.bls.up u (fun x e => ?_), hD.bds.up u (fun x e => ?_), hD.ok⟩
  · obtain ⟨ty, c, q, h1⟩ := hV.pb e
    exact hX _ _ _ q (by rcases h1 with rfl | rfl <;> simp) hx
  · obtain ⟨c, q⟩ := hP.blk e; exact hX _ _ _ q (by simp)
  · obtain ⟨c, q⟩ := hD.bls.blk e; exact hX _ _ _ q (by simp)
  · obtain ⟨c, q⟩ := hD.bds.blk e; exact hX _ _ _ q (by simp)
theorem ShG.ext {w w' : World} {N p : Nat} {s : Sp} {j : Jn} (h : ShG w N p s j) (u : Ext w w') : ShG w' N p s j := by
  obtain ⟨pd, vb, vd, pj, vl, us, h1, h2, h3⟩ := h
  exact ⟨pd, vb, vd, pj, vl, us, h1.up u (fun _ _ _ _ _ e => e.elim), h2.ext u, h3⟩
theorem ShG.upT {w w' : World} {N p b : Nat} {s : Sp} {j : Jn} {ty : TypeId} {cs : Array Value} (h : ShG w N p s j) (u : Upd (one b) w w') (hB : Blk w b ty cs) (hne : ty ≠ 69 ∧ ty ≠ 25 ∧ ty ≠ 27 ∧ ty ≠ 4 ∧ ty ≠ 55 ∧ ty ≠ 5 ∧ 86 ≠ ty ∧ 106 ≠ ty ∧ 5 ≠ ty) : ShG w' N p s j := by
  obtain ⟨pd, vb, vd, pj, vl, us, h1, h2, h3⟩ := h
  refine ⟨pd, vb, vd, pj, vl, us, h1.up u (fun x ty' cs' q h4 e => ?_), h2.upT u hB ⟨hne.2.2.2.2.2.2.1, hne.2.2.2.2.2.2.2.1, hne.2.2.2.2.2.2.2.2⟩, h3⟩
  have e1 : x = b := e
  subst e1
  have := (q.inj hB).2
  subst this
  obtain ⟨n1, n2, n3, n4, n5, n6, _⟩ := hne
  rcases h4 with h | h | h | h | h | h <;> contradiction
theorem setPw_same {d : Dk} {p : Int} (h : d.pw = p) : d.setPw p = d := by subst h; rfl
theorem append_inv {d d' : Dk} {j j' : Jn} {l : List (List Nat)} {f g k : Nat} {rec : List Nat} (hd : 0 < d.n) (h : JInv d.n j l f) (hg : f ≤ g) (hg2 : g ≤ f + l.length) (hrec : rec.length ≤ 4032) (hb : ∀ x ∈ rec, x < 256) (hm : f + l.length ≤ 4294967295)
    (ha : appendL d j rec ((g : Nat) : Int) = (d', j', k, 0)) : (cntL rec.length : Int) ≤ freeI d.n j.live ∧ writeL (ajobs d.n (newR d.n j rec g)) d = (d', true) ∧ j' = ⟨j.live.drop (g - firstN j.live) ++ [newR d.n j rec g], j.life, j.mended, j.down⟩ ∧ JInv d.n j' (l.drop (g - f) ++ [rec]) g ∧ d'.n = d.n ∧ (d.pw < 0 → d'.pw = d.pw) := by
  have hlst := h.h.lst
  have hfst := h.h.fst
  rcases (show freeI d.n j.live < (cntL rec.length : Int) ∨ (cntL rec.length : Int) ≤ freeI d.n j.live by omega) with hfr | hfr
  · unfold appendL at ha
    rw [if_neg (by rw [h.down]; simp), if_neg (by omega), if_neg (by omega), if_pos (.inl hfr)] at ha
    simp at ha
  · cases hw : writeL (ajobs d.n (newR d.n j rec g)) d with
    | mk d2 b =>
      have hA := appendL_w (d := d) (j := j) (rec := rec) (f := g) h.down (by omega) (by omega) (by omega) hw
      rw [ha] at hA
      cases b with
      | false => simp at hA
      | true =>
        simp only [if_true, Prod.mk.injEq] at hA
        obtain ⟨rfl, rfl, _⟩ := hA
        have hn := writeL_n (L := ajobs d.n (newR d.n j rec g)) (d := d)
        rw [hw] at hn
        refine ⟨hfr, rfl, rfl, newJ_inv hd h hg hg2 hrec hb hm hfr, hn, fun hp => ?_⟩
        have := (writeL_neg (L := ajobs d.n (newR d.n j rec g)) (d := d) hp (ajobs_in hd (cntL_pos _))).2
        rw [hw] at this
        exact this
def GRec (s s' : Sp) (j j' : Jn) (g : Nat) (rec : List Nat) : Prop :=
  (appendL s.d j rec ((g : Nat) : Int) = (s.d, j, 0, 4) ∧ s' = { s with cnt := s.cnt + 1 } ∧ j' = j) ∨
  (∃ d', appendL s.d j rec ((g : Nat) : Int) = (d', j', s.first + s.live.length, 0) ∧ s' = { s with d := d', live := s.live.drop (g - s.first) ++ [rec], first := g, cnt := s.cnt + 1 })
theorem gappend_ (w : World) {N b902 m p : Nat} {s : Sp} {j : Jn} (hG : ShG w N b902 s j) (hI : JInv s.d.n j s.live s.first) (hd : 0 < s.d.n) (hpw : s.d.pw = -1) (hm : m ≤ 4032) (hp : p ≤ 1000000) (hcnt : s.cnt ≤ 1000000) (hf : s.first + s.live.length ≤ 4294967295) :
    Calls Try.prog 30 #[.pointer (some ⟨b902, 0, none⟩), .int .i64 (m : Nat), .int .i64 (p : Nat), .int .i64 (-1)] w (Ret fun r w' => Upd (fun x => N ≤ x) w w' ∧ r = .bool true ∧ ∃ rec s' j', rec.length = m ∧ (∀ x ∈ rec, x < 256) ∧ GRec s s' j j' (s.first + p % (s.live.length + 1)) rec ∧ ShG w' N b902 s' j') := by
  obtain ⟨pd, vb, vd, pj, vl, us, h1, h2, h3, h4, h5⟩ := hG
  have hsame := setPw_same hpw
  have hmod := Nat.mod_lt p (show 0 < s.live.length + 1 by omega)
  have hnl := s.d.n_le
  refine (sappend_ w h1 h2 hI.h (by omega) hp hcnt (by decide) (fun i hi => by have := hI.at_ i hi; omega) (fun rec hr hb => appC hd hI (by omega) (by omega) (by omega) hb hf (by decide))).mono ?_
  rintro e w' ⟨v, hv, hU, hr, rec, hl, hb, hS⟩
  refine ⟨v, hv, hU.mono (fun x _ hx => ?_), hr, rec, ?_⟩
  · rcases hx with rfl | rfl | hx
    · exact h3
    · exact h4
    · exact h5 x hx
  · unfold SRes at hS
    rw [hsame] at hS
    rcases hS with ⟨q1, ⟨vl', us', q2⟩, q3⟩ | ⟨d', j', q1, ⟨vl', us', q2⟩, q3⟩ | ⟨d', j', q1, _⟩
    · exact ⟨_, _, hl, hb, .inl ⟨q1, rfl, rfl⟩, pd, vb, vd, pj, vl', us', q3, q2, h3, h4, h5⟩
    · exact ⟨_, _, hl, hb, .inr ⟨d', q1, rfl⟩, pd, vb, vd, pj, vl', us', q3, q2, h3, h4, h5⟩
    · have hc := appC (power := -1) hd hI (show s.first ≤ s.first + p % (s.live.length + 1) by omega) (by omega) (show rec.length ≤ 4032 by omega) hb hf (by decide)
      rw [hsame] at hc
      rcases hc with ⟨c1, _⟩ | ⟨_, _, c1, _⟩ | ⟨_, _, _, _, _, c1, _⟩
      · rw [c1] at q1; simp at q1
      · rw [c1] at q1; simp at q1
      · exact absurd c1 (by decide)
end Go.Proofs.Ytlplogplicgfiaa

namespace Go.Proofs.Ytlplogplicgfiaa
open Go Go.RowKit
theorem pieceB_eq {t n l f k : Nat} {dt : List Nat} : pieceB t n l f dt k = ([1, k % 256, t % 256, dt.length % 256] ++ be4 n ++ be4 l ++ be4 f) ++ (dt ++ List.replicate (48 - dt.length) 0) := by
  have e : lput (lput (lput (headB t k dt.length) 4 (be4 n)) 8 (be4 l)) 12 (be4 f) = ([1, k % 256, t % 256, dt.length % 256] ++ be4 n ++ be4 l ++ be4 f) ++ List.replicate 48 0 := rfl
  have hl : ([1, k % 256, t % 256, dt.length % 256] ++ be4 n ++ be4 l ++ be4 f).length = 16 := rfl
  unfold pieceB
  rw [e]
  show (_ ++ List.replicate 48 0).take 16 ++ dt ++ (_ ++ List.replicate 48 0).drop (16 + dt.length) = _
  rw [List.take_append_of_le_length (by rw [hl]; exact Nat.le_refl _), List.take_of_length_le (by rw [hl]; exact Nat.le_refl _), ← List.drop_drop, List.drop_left' hl, List.drop_replicate, List.append_assoc]
theorem word_be4 {n : Nat} {xs : List Nat} (h : n < 4294967296) : wordL (be4 n ++ xs) = n := by
  unfold wordL
  show n / 2 ^ 24 % 256 * 16777216 + n / 2 ^ 16 % 256 * 65536 + n / 2 ^ 8 % 256 * 256 + n % 256 = n
  omega
structure RcK (n : Nat) (r : Rc) : Prop where
  tot : r.h.total = cntL r.dat.length
  len : r.dat.length ≤ 4032
  totn : r.h.total ≤ n
  number : r.h.number < 4294967296
  life : r.h.life < 4294967296
  life1 : 1 ≤ r.h.life
  first1 : 1 ≤ r.h.first
  first : r.h.first ≤ r.h.number
  byt : ∀ x ∈ r.dat, x < 256
  at_ : r.at_ < n
theorem any_zero {m : Nat} : (List.replicate m 0).any (fun c => decide (c ≠ 0)) = false := by
  rw [List.any_eq_false]
  intro x hx
  rw [List.eq_of_mem_replicate hx]; simp
theorem take_pc {n : Nat} {r : Rc} {k : Nat} (h : RcK n r) (hk : k < r.h.total) : takeL (pcB r k) = some (r.h, k, dataL r.dat k) := by
  have ht := h.tot
  have hlen := h.len
  have hn := h.number
  have hl := h.life
  have h1 := h.life1
  have h2 := h.first1
  have h3 := h.first
  unfold cntL at ht
  have hdl := dataL_len (rec := r.dat) (k := k) (by omega)
  have ht84 : r.h.total ≤ 84 := by omega
  have hd48 : (dataL r.dat k).length ≤ 48 := dataL_le
  have e := pieceB_eq (t := r.h.total) (n := r.h.number) (l := r.h.life) (f := r.h.first) (k := k) (dt := dataL r.dat k)
  have b0 : (pcB r k).getD 0 0 = 1 := by unfold pcB; rw [e]; rfl
  have b1 : (pcB r k).getD 1 0 = k := by unfold pcB; rw [e]; show k % 256 = k; omega
  have b2 : (pcB r k).getD 2 0 = r.h.total := by unfold pcB; rw [e]; show r.h.total % 256 = _; omega
  have b3 : (pcB r k).getD 3 0 = (dataL r.dat k).length := by unfold pcB; rw [e]; show _ % 256 = _; omega
  have w4 : wordL ((pcB r k).drop 4) = r.h.number := by
    unfold pcB; rw [e]; exact word_be4 (xs := be4 r.h.life ++ be4 r.h.first ++ (dataL r.dat k ++ List.replicate (48 - (dataL r.dat k).length) 0)) hn
  have w8 : wordL ((pcB r k).drop 8) = r.h.life := by
    unfold pcB; rw [e]; exact word_be4 (xs := be4 r.h.first ++ (dataL r.dat k ++ List.replicate (48 - (dataL r.dat k).length) 0)) hl
  have w12 : wordL ((pcB r k).drop 12) = r.h.first := by
    unfold pcB; rw [e]; exact word_be4 (xs := dataL r.dat k ++ List.replicate (48 - (dataL r.dat k).length) 0) (by omega)
  have d16 : (pcB r k).drop 16 = dataL r.dat k ++ List.replicate (48 - (dataL r.dat k).length) 0 := by unfold pcB; rw [e]; rfl
  have hb : badB (pcB r k) = false := by
    unfold badB leastB
    rw [b0, b1, b2, b3, w4, w8, w12]
    refine decide_eq_false ?_
    split <;> omega
  have ha : ((pcB r k).drop (16 + (dataL r.dat k).length)).any (fun c => decide (c ≠ 0)) = false := by
    rw [← List.drop_drop, d16, List.drop_left]; exact any_zero
  unfold takeL
  rw [hb, b3, ha, d16, List.take_left, b1]
  show some (headL (pcB r k), k, dataL r.dat k) = _
  unfold headL
  rw [b2, w4, w8, w12]
end Go.Proofs.Ytlplogplicgfiaa

namespace Go.Proofs.Ytlplogplicgfiaa
open Go Go.RowKit
def At1 (d : Dk) (r : Rc) (k t : Nat) : Prop := tk d (((r.at_ + k) % d.n + t * d.n : Nat) : Int) = some (r.h, k, dataL r.dat k)
def Cmp (d : Dk) (r : Rc) : Prop := ∀ k, k < r.h.total → ∃ t, t < 2 ∧ At1 d r k t
structure Iss (d : Dk) (I : List Rc) : Prop where
  ok : ∀ r ∈ I, RcK d.n r
  uniq : ∀ r ∈ I, ∀ q ∈ I, r.h = q.h → r = q
  pcs : ∀ (pl t : Nat) (g : Hd) (k : Nat) (dt : List Nat), pl < d.n → t < 2 → tk d ((pl + t * d.n : Nat) : Int) = some (g, k, dt) → ∃ r ∈ I, r.h = g ∧ k < g.total ∧ pl = (r.at_ + k) % d.n ∧ dt = dataL r.dat k
theorem RcK.pos {n : Nat} {r : Rc} (h : RcK n r) : 0 < r.h.total := by rw [h.tot]; exact cntL_pos _
theorem hitL_iff {o : Option (Hd × Nat × List Nat)} {h : Hd} {k : Nat} {x : List Nat} : hitL o h k = some x ↔ o = some (h, k, x) := by
  constructor
  · exact hitL_some
  · rintro rfl; exact hitL_hit rfl rfl
theorem part_iss {d : Dk} {I : List Rc} (hI : Iss d I) {pl k : Nat} {h : Hd} {x : List Nat} (hp : pl < d.n) (hx : partL d pl h k = some x) : ∃ r ∈ I, r.h = h ∧ k < h.total ∧ pl = (r.at_ + k) % d.n ∧ x = dataL r.dat k ∧ ∃ t, t < 2 ∧ At1 d r k t := by
  have key : ∀ t, t < 2 → tk d ((pl + t * d.n : Nat) : Int) = some (h, k, x) → ∃ r ∈ I, r.h = h ∧ k < h.total ∧ pl = (r.at_ + k) % d.n ∧ x = dataL r.dat k ∧ ∃ t, t < 2 ∧ At1 d r k t := by
    intro t ht e
    obtain ⟨r, hr, q1, q2, q3, q4⟩ := hI.pcs pl t h k x hp ht e
    refine ⟨r, hr, q1, q2, q3, q4, t, ht, ?_⟩
    unfold At1
    rw [← q3, e, q1, q4]
  unfold partL at hx
  cases h1 : hitL (tk d ((pl : Nat) : Int)) h k with
  | some y =>
    rw [h1] at hx
    cases hx
    exact key 0 (by decide) (by rw [Nat.zero_mul, Nat.add_zero]; exact hitL_some h1)
  | none =>
    rw [h1] at hx
    exact key 1 (by decide) (by rw [Nat.one_mul]; exact hitL_some hx)
theorem part_of {d : Dk} {I : List Rc} (hI : Iss d I) {r : Rc} (hr : r ∈ I) {k t : Nat} (ht : t < 2) (h : At1 d r k t) (hn : 0 < d.n) : partL d ((r.at_ + k) % d.n) r.h k = some (dataL r.dat k) := by
  have hp := Nat.mod_lt (r.at_ + k) hn
  have some_ : ∃ x, partL d ((r.at_ + k) % d.n) r.h k = some x := by
    unfold partL
    cases h1 : hitL (tk d ((((r.at_ + k) % d.n : Nat)) : Int)) r.h k with
    | some y => exact ⟨y, rfl⟩
    | none =>
      refine ⟨dataL r.dat k, ?_⟩
      unfold At1 at h
      rcases (show t = 0 ∨ t = 1 by omega) with rfl | rfl
      · rw [Nat.zero_mul, Nat.add_zero] at h
        rw [h] at h1
        rw [hitL_hit rfl rfl] at h1
        exact absurd h1 (by simp)
      · rw [Nat.one_mul] at h
        exact hitL_iff.2 h
  obtain ⟨x, hx⟩ := some_
  obtain ⟨q, hq, q1, _, _, q4, _⟩ := part_iss hI hp hx
  have := hI.uniq q hq r hr q1
  subst this
  rw [hx, q4]
theorem foundL_all {d : Dk} {a : Nat} {h : Hd} {f : Nat → List Nat} : ∀ {m : Nat}, (∀ k, k < m → partL d ((a + k) % d.n) h k = some (f k)) → foundL d a h m = some ((List.range m).map f)
  | 0, _ => rfl
  | m + 1, hp => by
    rw [foundL_step (foundL_all (m := m) (fun k hk => hp k (by omega))) (hp m (by omega)), List.range_succ, List.map_append]; rfl
theorem data_app {rec : List Nat} : ∀ m : Nat, ((List.range m).map (dataL rec)).flatten = rec.take (48 * m)
  | 0 => by simp
  | m + 1 => by
    rw [List.range_succ, List.map_append, List.flatten_append, data_app m]
    simp only [List.map_cons, List.map_nil, List.flatten_cons, List.flatten_nil, List.append_nil, dataL]
    rw [show 48 * (m + 1) = 48 * m + 48 by omega, List.take_add]
    congr 1
    rw [List.take_eq_take_iff, List.length_drop]
    omega
theorem data_flat {n : Nat} {r : Rc} (h : RcK n r) : ((List.range r.h.total).map (dataL r.dat)).flatten = r.dat := by
  rw [data_app, List.take_of_length_le]
  rw [h.tot]; unfold cntL; omega
theorem find_of {d : Dk} {I : List Rc} (hI : Iss d I) {r : Rc} (hr : r ∈ I) (hc : Cmp d r) (hn : 0 < d.n) : findL d r.at_ r.h = some r.dat := by
  have hk := hI.ok r hr
  unfold findL
  rw [if_neg (by have := hk.totn; omega), foundL_all (f := dataL r.dat) (fun k hk => by obtain ⟨t, ht, h⟩ := hc k hk; exact part_of hI hr ht h hn), Option.map_some, data_flat hk]
theorem find_some {d : Dk} {I : List Rc} (hI : Iss d I) {p : Nat} {h : Hd} {rec : List Nat} (hp : p < d.n) (h0 : 0 < h.total) (hf : findL d p h = some rec) : ∃ r ∈ I, r.h = h ∧ r.at_ = p ∧ rec = r.dat ∧ Cmp d r := by
  unfold findL at hf
  split at hf
  · exact absurd hf (by simp)
  · cases hl : foundL d p h h.total with
    | none => rw [hl] at hf; exact absurd hf (by simp)
    | some l =>
      rw [hl] at hf
      obtain ⟨q1, q2⟩ := foundL_parts hl
      have hn : 0 < d.n := by omega
      have p0 := q2 0 h0
      obtain ⟨r, hr, e1, _, e3, _, _⟩ := part_iss hI (Nat.mod_lt _ hn) p0
      have hk := hI.ok r hr
      have hat : r.at_ = p := by
        have := hk.at_
        rw [Nat.add_zero, Nat.add_zero, Nat.mod_eq_of_lt hp, Nat.mod_eq_of_lt this] at e3
        exact e3.symm
      have hc : Cmp d r := by
        intro k hk2
        rw [e1] at hk2
        obtain ⟨q, hq, f1, _, _, _, t, ht, f6⟩ := part_iss hI (Nat.mod_lt _ hn) (q2 k hk2)
        have := hI.uniq q hq r hr (f1.trans e1.symm)
        subst this
        exact ⟨t, ht, f6⟩
      refine ⟨r, hr, e1, hat, ?_, hc⟩
      have := find_of hI hr hc hn
      unfold findL at this
      rw [e1, hat, if_neg (by omega), hl] at this
      rw [this] at hf
      exact (Option.some.inj hf).symm
def Dom (x r : Rc) : Prop := r.h.number < x.h.number ∨ (r.h.number = x.h.number ∧ r.h.life ≤ x.h.life)
theorem Dom.trans {x y z : Rc} (h1 : Dom x y) (h2 : Dom y z) : Dom x z := by unfold Dom at *; omega
theorem lstep_ok {d : Dk} {I : List Rc} (hI : Iss d I) {pl t : Nat} (hp : pl < d.n) {s : Rc × Nat} (hs : s.1 = Rc0 ∨ (s.1 ∈ I ∧ Cmp d s.1)) :
    let s' := lstep d pl s (tk d ((pl + t * d.n : Nat) : Int))
    (s'.1 = Rc0 ∨ (s'.1 ∈ I ∧ Cmp d s'.1)) ∧ Dom s'.1 s.1 ∧ s.2 ≤ s'.2 ∧ (∀ r ∈ I, Cmp d r → r.at_ = pl → At1 d r 0 t → Dom s'.1 r) ∧ (∀ g k dt, tk d ((pl + t * d.n : Nat) : Int) = some (g, k, dt) → g.life ≤ s'.2) ∧ (∀ lam, s.2 ≤ lam → (∀ g k dt, tk d ((pl + t * d.n : Nat) : Int) = some (g, k, dt) → g.life ≤ lam) → s'.2 ≤ lam) := by
  have hn : 0 < d.n := by omega
  have hat : ∀ r ∈ I, r.at_ = pl → (r.at_ + 0) % d.n = pl := fun r _ e => by rw [Nat.add_zero, e, Nat.mod_eq_of_lt hp]
  cases hk : tk d ((pl + t * d.n : Nat) : Int) with
  | none =>
    refine ⟨hs, .inr ⟨rfl, Nat.le_refl _⟩, Nat.le_refl _, fun r hr hc e h => ?_, fun g k dt e => absurd e (by simp), fun lam h _ => h⟩
    unfold At1 at h
    rw [hat r hr e, hk] at h
    exact absurd h (by simp)
  | some x =>
    obtain ⟨g, k, dt⟩ := x
    have hlife : ∀ g' k' dt', some (g, k, dt) = some (g', k', dt') → g'.life ≤ max s.2 g.life := fun g' k' dt' e => by
      simp only [Option.some.injEq, Prod.mk.injEq] at e
      obtain ⟨rfl, _, _⟩ := e
      omega
    have hlam : ∀ lam, s.2 ≤ lam → (∀ g' k' dt', some (g, k, dt) = some (g', k', dt') → g'.life ≤ lam) → max s.2 g.life ≤ lam := fun lam h1 h2 => by
      have := h2 g k dt rfl
      omega
    have hAt : ∀ r ∈ I, r.at_ = pl → At1 d r 0 t → r.h = g ∧ k = 0 := fun r hr e h => by
      unfold At1 at h
      rw [hat r hr e, hk] at h
      simp only [Option.some.injEq, Prod.mk.injEq] at h
      exact ⟨h.1.symm, h.2.1⟩
    simp only [lstep]
    split
    · rename_i hc
      refine ⟨hs, .inr ⟨rfl, Nat.le_refl _⟩, by show s.2 ≤ max s.2 g.life; omega, fun r hr _ e h => ?_, hlife, hlam⟩
      obtain ⟨e1, e2⟩ := hAt r hr e h
      show r.h.number < s.1.h.number ∨ (r.h.number = s.1.h.number ∧ r.h.life ≤ s.1.h.life)
      rw [e1]
      omega
    · rename_i hc
      cases hf : findL d pl g with
      | none =>
        refine ⟨hs, .inr ⟨rfl, Nat.le_refl _⟩, by show s.2 ≤ max s.2 g.life; omega, fun r hr hcm e h => ?_, hlife, hlam⟩
        obtain ⟨e1, e2⟩ := hAt r hr e h
        have := find_of hI hr hcm hn
        rw [e, e1, hf] at this
        exact absurd this (by simp)
      | some rec =>
        have h0 := (tk_total hk)
        obtain ⟨r0, hr0, f1, f2, f3, f4⟩ := find_some hI hp (by omega) hf
        have e0 : (⟨g, pl, rec⟩ : Rc) = r0 := by rw [← f1, ← f2, f3]
        refine ⟨.inr ?_, ?_, by show s.2 ≤ max s.2 g.life; omega, fun r hr hcm e h => ?_, hlife, hlam⟩
        · show (⟨g, pl, rec⟩ : Rc) ∈ I ∧ Cmp d ⟨g, pl, rec⟩
          rw [e0]; exact ⟨hr0, f4⟩
        · show s.1.h.number < g.number ∨ (s.1.h.number = g.number ∧ s.1.h.life ≤ g.life)
          omega
        · obtain ⟨e1, _⟩ := hAt r hr e h
          show r.h.number < g.number ∨ (r.h.number = g.number ∧ r.h.life ≤ g.life)
          rw [e1]; omega
end Go.Proofs.Ytlplogplicgfiaa
