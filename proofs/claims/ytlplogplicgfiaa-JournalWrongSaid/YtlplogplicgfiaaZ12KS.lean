import Derived.Test.YtlplogplicgfiaaZ12KL
namespace Go.Proofs.Ytlplogplicgfiaa
open Go Go.RowKit
theorem ShM.up {X : Nat → Prop} {w w' : World} {p pd : Nat} {vb vd jp : Value} {s : Sp} (h : ShM w p pd vb vd jp s) (u : Upd X w w') (hX : ∀ b ty cs, Blk w b ty cs → (ty = 69 ∨ ty = 25 ∨ ty = 27 ∨ ty = 4 ∨ ty = 55 ∨ ty = 5) → ¬ X b) : ShM w' p pd vb vd jp s := by
  obtain ⟨⟨vL, uL, vp, hB, hV, hP⟩, hD⟩ := h
  refine ⟨⟨vL, uL, vp, hB.up u (hX _ _ _ hB (.inl rfl)), hV.up u (fun x hx e => ?_), hP.up u (fun x e => ?_)⟩, hD.blk.up u (hX _ _ _ hD.blk (.inr (.inl rfl))), hD.bls.up u (fun x e => ?_), hD.bds.up u (fun x e => ?_), hD.ok⟩
  · obtain ⟨ty, c, q, h1⟩ := hV.pb e
    exact hX _ _ _ q (by rcases h1 with rfl | rfl <;> simp) hx
  · obtain ⟨c, q⟩ := hP.blk e; exact hX _ _ _ q (by simp)
  · obtain ⟨c, q⟩ := hD.bls.blk e; exact hX _ _ _ q (by simp)
  · obtain ⟨c, q⟩ := hD.bds.blk e; exact hX _ _ _ q (by simp)
theorem ShG.ext {w w' : World} {N p : Nat} {s : Sp} {j : Jn} (h : ShG w N p s j) (u : Ext w w') : ShG w' N p s j := by
  obtain ⟨pd, vb, vd, pj, vl, us, h1, h2, h3⟩ := h
  exact ⟨pd, vb, vd, pj, vl, us, h1.up u (fun _ _ _ _ _ e => e.elim), h2.ext u, h3⟩
theorem ShG.upT {w w' : World} {N p b : Nat} {s : Sp} {j : Jn} {ty : TypeId} {cs : Array Value} (h : ShG w N p s j) (u : Upd (one b) w w') (hB : Blk w b ty cs) (hne : ty ≠ 69 ∧ ty ≠ 25 ∧ ty ≠ 27 ∧ ty ≠ 4 ∧ ty ≠ 55 ∧ ty ≠ 5 ∧ 86 ≠ ty ∧ 106 ≠ ty ∧ 5 ≠ ty) : ShG w' N p s j := by
  obtain ⟨pd, vb, vd, pj, vl, us, h1, h2, h3⟩ := h
  refine ⟨pd, vb, vd, pj, vl, us, h1.up u (fun x ty' cs' q h4 e => ?_), h2.upT u hB ⟨hne.2.2.2.2.2.2.1, hne.2.2.2.2.2.2.2.1, hne.2.2.2.2.2.2.2.2⟩, h3⟩
  have e1 : x = b := e
  subst e1
  have := (q.inj hB).2
  subst this
  obtain ⟨n1, n2, n3, n4, n5, n6, _⟩ := hne
  rcases h4 with h | h | h | h | h | h <;> contradiction
theorem setPw_same {d : Dk} {p : Int} (h : d.pw = p) : d.setPw p = d := by subst h; rfl
theorem append_inv {d d' : Dk} {j j' : Jn} {l : List (List Nat)} {f g k : Nat} {rec : List Nat} (hd : 0 < d.n) (h : JInv d.n j l f) (hg : f ≤ g) (hg2 : g ≤ f + l.length) (hrec : rec.length ≤ 4032) (hb : ∀ x ∈ rec, x < 256) (hm : f + l.length ≤ 4294967295)
    (ha : appendL d j rec ((g : Nat) : Int) = (d', j', k, 0)) : (cntL rec.length : Int) ≤ freeI d.n j.live ∧ writeL (ajobs d.n (newR d.n j rec g)) d = (d', true) ∧ j' = ⟨j.live.drop (g - firstN j.live) ++ [newR d.n j rec g], j.life, j.mended, j.down⟩ ∧ JInv d.n j' (l.drop (g - f) ++ [rec]) g ∧ d'.n = d.n ∧ (d.pw < 0 → d'.pw = d.pw) := by
  have hlst := h.h.lst
  have hfst := h.h.fst
  rcases (show freeI d.n j.live < (cntL rec.length : Int) ∨ (cntL rec.length : Int) ≤ freeI d.n j.live by omega) with hfr | hfr
  · unfold appendL at ha
    rw [if_neg (by rw [h.down]; simp), if_neg (by omega), if_neg (by omega), if_pos (.inl hfr)] at ha
    simp at ha
  · cases hw : writeL (ajobs d.n (newR d.n j rec g)) d with
    | mk d2 b =>
      have hA := appendL_w (d := d) (j := j) (rec := rec) (f := g) h.down (by omega) (by omega) (by omega) hw
      rw [ha] at hA
      cases b with
      | false => simp at hA
      | true =>
        simp only [if_true, Prod.mk.injEq] at hA
        obtain ⟨rfl, rfl, _⟩ := hA
        have hn := writeL_n (L := ajobs d.n (newR d.n j rec g)) (d := d)
        rw [hw] at hn
        refine ⟨hfr, rfl, rfl, newJ_inv hd h hg hg2 hrec hb hm hfr, hn, fun hp => ?_⟩
        have := (writeL_neg (L := ajobs d.n (newR d.n j rec g)) (d := d) hp (ajobs_in hd (cntL_pos _))).2
        rw [hw] at this
        exact this
def GRec (s s' : Sp) (j j' : Jn) (g : Nat) (rec : List Nat) : Prop :=
  (appendL s.d j rec ((g : Nat) : Int) = (s.d, j, 0, 4) ∧ s' = { s with cnt := s.cnt + 1 } ∧ j' = j) ∨
  (∃ d', appendL s.d j rec ((g : Nat) : Int) = (d', j', s.first + s.live.length, 0) ∧ s' = { s with d := d', live := s.live.drop (g - s.first) ++ [rec], first := g, cnt := s.cnt + 1 })
theorem gappend_ (w : World) {N b902 m p : Nat} {s : Sp} {j : Jn} (hG : ShG w N b902 s j) (hI : JInv s.d.n j s.live s.first) (hd : 0 < s.d.n) (hpw : s.d.pw = -1) (hm : m ≤ 4032) (hp : p ≤ 1000000) (hcnt : s.cnt ≤ 1000000) (hf : s.first + s.live.length ≤ 4294967295) :
    Calls Try.prog 30 #[.pointer (some ⟨b902, 0, none⟩), .int .i64 (m : Nat), .int .i64 (p : Nat), .int .i64 (-1)] w (Ret fun r w' => Upd (fun x => N ≤ x) w w' ∧ r = .bool true ∧ ∃ rec s' j', rec.length = m ∧ (∀ x ∈ rec, x < 256) ∧ GRec s s' j j' (s.first + p % (s.live.length + 1)) rec ∧ ShG w' N b902 s' j') := by
  obtain ⟨pd, vb, vd, pj, vl, us, h1, h2, h3, h4, h5⟩ := hG
  have hsame := setPw_same hpw
  have hmod := Nat.mod_lt p (show 0 < s.live.length + 1 by omega)
  have hnl := s.d.n_le
  refine (sappend_ w h1 h2 hI.h (by omega) hp hcnt (by decide) (fun i hi => by have := hI.at_ i hi; omega) (fun rec hr hb => appC hd hI (by omega) (by omega) (by omega) hb hf (by decide))).mono ?_
  rintro e w' ⟨v, hv, hU, hr, rec, hl, hb, hS⟩
  refine ⟨v, hv, hU.mono (fun x _ hx => ?_), hr, rec, ?_⟩
  · rcases hx with rfl | rfl | hx
    · exact h3
    · exact h4
    · exact h5 x hx
  · unfold SRes at hS
    rw [hsame] at hS
    rcases hS with ⟨q1, ⟨vl', us', q2⟩, q3⟩ | ⟨d', j', q1, ⟨vl', us', q2⟩, q3⟩ | ⟨d', j', q1, _⟩
    · exact ⟨_, _, hl, hb, .inl ⟨q1, rfl, rfl⟩, pd, vb, vd, pj, vl', us', q3, q2, h3, h4, h5⟩
    · exact ⟨_, _, hl, hb, .inr ⟨d', q1, rfl⟩, pd, vb, vd, pj, vl', us', q3, q2, h3, h4, h5⟩
    · have hc := appC (power := -1) hd hI (show s.first ≤ s.first + p % (s.live.length + 1) by omega) (by omega) (show rec.length ≤ 4032 by omega) hb hf (by decide)
      rw [hsame] at hc
      rcases hc with ⟨c1, _⟩ | ⟨_, _, c1, _⟩ | ⟨_, _, _, _, _, c1, _⟩
      · rw [c1] at q1; simp at q1
      · rw [c1] at q1; simp at q1
      · exact absurd c1 (by decide)
end Go.Proofs.Ytlplogplicgfiaa

namespace Go.Proofs.Ytlplogplicgfiaa
open Go Go.RowKit
structure Stp where
  kd : Nat
  pw : Nat
  bl : Nat
  dr : Nat
  sz : Nat
def stpC (x : Stp) : List Value := [.int .u8 ((x.kd : Nat) : Int), .int .u8 ((x.pw : Nat) : Int), .int .u8 ((x.bl : Nat) : Int), .int .u8 ((x.dr : Nat) : Int), .int .u16 ((x.sz : Nat) : Int)]
def stpsC (l : List Stp) : List Value := l.flatMap stpC
def Stp0 : Stp := ⟨0, 0, 0, 0, 0⟩
def okS (x : Stp) : Prop := x.kd < 256 ∧ x.pw < 256 ∧ x.bl < 256 ∧ x.dr < 256 ∧ x.sz < 65536
theorem stpsC_len : ∀ l : List Stp, (stpsC l).length = l.length * 5
  | [] => rfl
  | x :: l => by
    have := stpsC_len l
    simp only [stpsC, List.flatMap_cons, List.length_append, List.length_cons] at this ⊢
    rw [this]; simp [stpC]; omega
theorem stps_drop : ∀ (k : Nat) (l : List Stp), (stpsC l).drop (k * 5) = stpsC (l.drop k)
  | 0, l => by simp
  | k + 1, [] => by simp [stpsC]
  | k + 1, x :: l => by
    have := stps_drop k l
    rw [show (k + 1) * 5 = (stpC x).length + k * 5 by simp [stpC]; omega]
    simp only [stpsC, List.flatMap_cons] at this ⊢
    rw [← List.drop_drop, List.drop_left, this]; rfl
theorem stps_take : ∀ (k : Nat) (l : List Stp), (stpsC l).take (k * 5) = stpsC (l.take k)
  | 0, l => by simp [stpsC]
  | k + 1, [] => by simp [stpsC]
  | k + 1, x :: l => by
    have := stps_take k l
    rw [show (k + 1) * 5 = (stpC x).length + k * 5 by simp [stpC]; omega]
    simp only [stpsC, List.flatMap_cons, List.take_succ_cons] at this ⊢
    rw [List.take_append, List.take_of_length_le (by omega), Nat.add_sub_cancel_left, this]
theorem stps_at {l : List Stp} {i : Nat} (hi : i < l.length) : ((stpsC l).drop (i * 5)).take 5 = stpC (l.getD i Stp0) := by
  have e : (l.drop i).take 1 = [l[i]] := by rw [List.drop_eq_getElem_cons hi]; rfl
  rw [stps_drop]
  have h1 := stps_take 1 (l.drop i)
  rw [Nat.one_mul] at h1
  rw [h1, e, List.getD_eq_getElem?_getD, List.getElem?_eq_getElem hi]
  simp [stpsC]
structure KInv (n i : Nat) (s : Sp) (j : Jn) : Prop where
  dn : s.d.n = n
  pw : s.d.pw = -1
  inv : JInv n j s.live s.first
  waits : s.waits = false
  cnt : s.cnt ≤ i
  num : s.first + s.live.length ≤ 1 + i
theorem KInv.new {n : Nat} (h : 4 ≤ n) (h2 : n ≤ 1000) : KInv n 0 { sp0 n with d := (newDk n).setPw (-1) } ⟨[], 1, 0, false⟩ := ⟨newDk_n h h2, rfl, jinv_new, rfl, Nat.le_refl _, Nat.le_refl _⟩
theorem KInv.app {n i g : Nat} {s s' : Sp} {j j' : Jn} {rec : List Nat} (hn : 0 < n) (h : KInv n i s j) (hg : s.first ≤ g) (hg2 : g ≤ s.first + s.live.length) (hl : rec.length ≤ 4032) (hb : ∀ x ∈ rec, x < 256) (hi : i ≤ 1000) (hr : GRec s s' j j' g rec) : KInv n (i + 1) s' j' := by
  have hnum := h.num
  have hcnt := h.cnt
  have hinv := h.inv
  rw [← h.dn] at hinv
  rcases hr with ⟨_, rfl, rfl⟩ | ⟨d', q1, rfl⟩
  · exact ⟨h.dn, h.pw, h.inv, h.waits, by show s.cnt + 1 ≤ _; omega, by show s.first + s.live.length ≤ _; omega⟩
  · obtain ⟨_, _, _, q2, q3, q4⟩ := append_inv (by rw [h.dn]; exact hn) hinv hg hg2 hl hb (by omega) q1
    refine ⟨q3.trans h.dn, (q4 (by rw [h.pw]; decide)).trans h.pw, by rw [← h.dn]; exact q2, h.waits, by show s.cnt + 1 ≤ _; omega, ?_⟩
    show g + (s.live.drop (g - s.first) ++ [rec]).length ≤ _
    simp only [List.length_append, List.length_drop, List.length_cons, List.length_nil]
    omega
theorem kept_ (w : World) {pl : Nat} {v : Value} {l : List Stp} (Q : Nat → Sp → Jn → Prop) (hr : Row w 5 v l.length (stpsC l)) (hl : ∀ x ∈ l, okS x) (hpl : pl < 256) (hll : l.length ≤ 9223372036854775807)
    (hQ0 : Q 0 { sp0 (4 + pl % 8) with d := (newDk (4 + pl % 8)).setPw (-1) } ⟨[], 1, 0, false⟩)
    (hQs : ∀ i s j rec s' j' g, KInv (4 + pl % 8) i s j → Q i s j → s.first ≤ g → g ≤ s.first + s.live.length → rec.length < 200 → (∀ x ∈ rec, x < 256) → GRec s s' j j' g rec → Q (i + 1) s' j') :
    Calls Try.prog 33 #[.int .u8 (pl : Nat), v] w (Ret fun r w' => Ext w w' ∧ ∃ p s j i, i ≤ 30 ∧ r = .tuple #[.pointer (some ⟨p, 0, none⟩), .bool true] ∧ ShG w' w.heap.size p s j ∧ KInv (4 + pl % 8) i s j ∧ Q i s j) := by
  refine calls_E (args := [.int .u8 ((pl : Nat) : Int), v]) 43 Try.func33 rfl rfl (by simp) ?_
  have hE : Ext w w := Upd.refl w
  refine E.seq ?_
  refine E.regionP rfl ?_
  refine R.assign ?_
  refine R.assign ?_
  refine R.nil ?_
  refine E.seq ?_
  refine E.regionP rfl ?_
  refine R.move ?_
  refine R.toI (n := pl) Try.underlying5 Try.underlying3 rfl (by omega) ?_
  refine R.remN (m := pl) (n := 8) rfl rfl (by omega) ?_
  refine R.addN (m := 4) (n := (pl % 8)) rfl rfl (by omega) ?_
  refine R.callE1 ent29 (begin_ _ (by omega) (by omega)) rfl nofun ?_
  rintro v15 w1 hx1 ⟨b902, rfl, hG0⟩
  have hsz0 := hE.size
  replace hE := hE.ext hx1
  have hG : ∃ s j, ShG w1 w.heap.size b902 s j ∧ KInv (4 + pl % 8) 0 s j ∧ Q 0 s j := ⟨_, _, by obtain ⟨pd, vb, vd, pj, vl, us, h1, h2, h3, h4, h5⟩ := hG0; exact ⟨pd, vb, vd, pj, vl, us, h1, h2, Nat.le_trans hsz0 h3, Nat.le_trans hsz0 h4, fun x hx => Nat.le_trans hsz0 (h5 x hx)⟩, KInv.new (by omega) (by omega), hQ0⟩
  obtain ⟨s, j, hG, hK, hQ⟩ := hG
  refine R.move ?_
  refine R.extract rfl rfl ?_
  refine R.extract rfl rfl ?_
  refine R.assign ?_
  refine R.assign ?_
  refine R.nil ?_
  refine E.seq ?_
  refine E.seq ?_
  refine E.regionP rfl ?_
  refine R.move ?_
  refine R.move ?_
  refine R.len Try.underlying59 hr rfl ?_
  refine R.minN (m := l.length) (n := 30) rfl rfl ?_
  have hsl9 := (hr.ext hE)
  obtain ⟨ar, cr, hvr, hcr, _, hcase⟩ := hsl9
  refine R.slc (l := 0) (r := min l.length 30) Try.underlying59 t65 rfl hvr rfl ⟨_, rfl⟩ (by omega) (by omega) ?_
  have hr2 : Row w 5 (Ytlplogplicgfiaa.cut 5 v 0 (min l.length 30)) (l.take (min l.length 30)).length (stpsC (l.take (min l.length 30))) := by
    have h1 := hr.cut (l := 0) (r := min l.length 30) (by omega) (by omega)
    rw [Nat.zero_mul, List.drop_zero, Nat.sub_zero, stps_take] at h1
    rw [List.length_take, show min (min l.length 30) l.length = min l.length 30 by omega]; exact h1
  refine R.len Try.underlying59 hr2 rfl ?_
  refine R.move ?_
  refine R.nil ?_
  refine E.block ?_
  refine E.loop (fun n e wr => ∃ (i : Nat) (s : Sp) (j : Jn), n = (l.take (min l.length 30)).length - i ∧ i ≤ (l.take (min l.length 30)).length ∧ KInv (4 + pl % 8) i s j ∧ Q i s j ∧ ShG wr w.heap.size b902 s j ∧ Ext w wr ∧ Has e [(6, .pointer (some ⟨b902, 0, none⟩)), (7, .bool (true)), (22, (Ytlplogplicgfiaa.cut 5 v 0 (min l.length 30))), (23, .int .i64 (((l.take (min l.length 30)).length : Nat) : Int)), (24, .int .i64 ((i : Nat) : Int))]) ((l.take (min l.length 30)).length) ?_ ?_
  · exact ⟨0, s, j, rfl, by omega, hK, hQ, hG, hE, rfl, rfl, rfl, rfl, rfl, trivial⟩
  · rintro n e wr ⟨i, s, j, rfl, hi, hK, hQ, hG, hE, hH⟩
    obtain ⟨e, rfl⟩ := hH.ex
    clear hH
    refine E.seq ?_
    refine E.regionP rfl ?_
    refine R.lss (b := decide ((((i : Nat) : Int)) < ((((l.take (min l.length 30)).length : Nat) : Int)))) rfl rfl rfl ?_
    refine R.nil ?_
    refine E.seq ?_
    refine E.cond (b := decide ((((i : Nat) : Int)) < ((((l.take (min l.length 30)).length : Nat) : Int)))) rfl (fun hc25 => ?_) (fun hc25 => ?_)
    · replace hc25 := dT hc25
      have hx := hl ((l.take (min l.length 30)).getD i Stp0) (by rw [List.getD_eq_getElem?_getD, List.getElem?_eq_getElem (by omega)]; exact List.mem_of_mem_take (List.getElem_mem _))
      obtain ⟨hx1, hx2, hx3, hx4, hx5⟩ := hx
      have hi30 : i < 30 := by have := List.length_take_le (min l.length 30) l; omega
      refine E.skip ?_
      refine E.seq ?_
      refine E.block ?_
      refine E.seq ?_
      refine E.regionP rfl ?_
      refine R.ix (m := i) Try.underlying59 t65 (by decide) hr2 rfl rfl (by omega) ?_
      refine R.loadE t65 (by decide) (hr2.ext hE) rfl (stps_at (by omega)) rfl rfl (fun _ _ => trivial) ?_
      refine R.alloc t65 nofun ?_
      intro b9 w2 hb9 hx2 hB9
      replace hb9 := Nat.le_trans hE.size hb9
      replace hG := hG.ext hx2
      replace hE := hE.ext hx2
      replace hB9 : Blk _ b9 65 #[.int .u8 0, .int .u8 0, .int .u8 0, .int .u8 0, .int .u16 0] := hB9
      refine R.storeA t65 hB9 rfl rfl rfl rfl (ones5 rfl rfl rfl rfl rfl) nofun ?_
      intro w3 hU3 hs3 hN3
      replace hG := hG.upT hU3 hB9 (by decide)
      replace hE := hE.own hU3 hb9
      replace hB9 : Blk _ b9 65 #[.int .u8 ((((l.take (min l.length 30)).getD i Stp0).kd : Nat) : Int), .int .u8 ((((l.take (min l.length 30)).getD i Stp0).pw : Nat) : Int), .int .u8 ((((l.take (min l.length 30)).getD i Stp0).bl : Nat) : Int), .int .u8 ((((l.take (min l.length 30)).getD i Stp0).dr : Nat) : Int), .int .u16 ((((l.take (min l.length 30)).getD i Stp0).sz : Nat) : Int)] := hN3
      clear hN3
      refine R.nil ?_
      refine E.regionP rfl ?_
      refine R.move ?_
      refine R.move ?_
      refine R.gT rfl rfl ?_
      refine R.move ?_
      refine R.gT rfl rfl ?_
      refine R.fld fa65_4 rfl ?_
      refine R.gT rfl rfl ?_
      refine R.loadB t63 hB9 rfl rfl rfl trivial ?_
      refine R.gT rfl rfl ?_
      refine R.toI (n := ((l.take (min l.length 30)).getD i Stp0).sz) Try.underlying63 Try.underlying3 rfl (by omega) ?_
      refine R.gT rfl rfl ?_
      refine R.remN (m := (((l.take (min l.length 30)).getD i Stp0).sz)) (n := 200) rfl rfl (by omega) ?_
      refine R.gT rfl rfl ?_
      refine R.fld fa65_3 rfl ?_
      refine R.gT rfl rfl ?_
      refine R.loadB t5 hB9 rfl rfl rfl trivial ?_
      refine R.gT rfl rfl ?_
      refine R.toI (n := ((l.take (min l.length 30)).getD i Stp0).dr) Try.underlying5 Try.underlying3 rfl (by omega) ?_
      refine R.gT rfl rfl ?_
      refine R.call4 ent30 (gappend_ _ hG (by rw [hK.dn]; exact hK.inv) (by rw [hK.dn]; omega) hK.pw (by omega) (by omega) (by have := hK.cnt; omega) (by have := hK.num; omega)) rfl rfl rfl rfl ?_
      rintro v38 w4 ⟨hU4, rfl, rec38, s2, j2, hl38, hb38, hr38, hG238⟩
      refine ⟨nofun, ?_⟩
      have hmod := Nat.mod_lt ((l.take (min l.length 30)).getD i Stp0).dr (show 0 < s.live.length + 1 by omega)
      replace hE := hE.trans hU4 (fun x hx h => absurd hx (Nat.not_lt.2 h))
      have hK2 := KInv.app (by omega) hK (by omega) (by omega) (show rec38.length ≤ 4032 by omega) hb38 (by omega) hr38
      have hQ2 := hQs i s j rec38 s2 j2 _ hK hQ (by omega) (by omega) (by omega) hb38 hr38
      clear hG
      have hG := hG238
      refine R.pickT rfl ?_
      refine R.assign ?_
      refine R.nil ?_
      refine E.forget [(6, .pointer (some ⟨b902, 0, none⟩)), (7, .bool (true)), (22, (Ytlplogplicgfiaa.cut 5 v 0 (min l.length 30))), (23, .int .i64 (((l.take (min l.length 30)).length : Nat) : Int)), (24, .int .i64 ((i : Nat) : Int))] ⟨rfl, rfl, rfl, rfl, rfl, trivial⟩ (fun e => ?_)
      refine E.regionP rfl ?_
      refine R.addN (m := i) (n := 1) rfl rfl (by omega) ?_
      refine R.move ?_
      refine R.nil ?_
      exact ⟨(l.take (min l.length 30)).length - (i + 1), by omega, i + 1, s2, j2, rfl, by omega, hK2, hQ2, hG, hE, rfl, rfl, rfl, rfl, rfl, trivial⟩
    · replace hc25 := dF hc25
      refine E.exit ?_
      refine E.seq ?_
      refine E.regionP rfl ?_
      refine R.move ?_
      refine R.move ?_
      refine R.assign ?_
      refine R.assign ?_
      refine R.nil ?_
      refine E.ret ?_
      refine ret2 (.pointer (some ⟨b902, 0, none⟩)) (.bool (true)) rfl rfl rfl ⟨_, rfl, ?_⟩
      refine ⟨hE, _, _, _, i, by have := List.length_take_le (min l.length 30) l; omega, rfl, hG, hK, hQ⟩
end Go.Proofs.Ytlplogplicgfiaa

namespace Go.Proofs.Ytlplogplicgfiaa
open Go Go.RowKit
def cntS (l : List (List Nat)) : Nat := (l.map (fun x => cntL x.length)).sum
theorem cntS_take {l : List (List Nat)} {i : Nat} (h : i < l.length) : cntS (l.take (i + 1)) = cntS (l.take i) + cntL (l.getD i []).length := by
  unfold cntS
  rw [List.take_add_one, List.map_append, List.sum_append, List.getD_eq_getElem?_getD, List.getElem?_eq_getElem h]
  simp
theorem totalL_takeS {n : Nat} {j : Jn} {l : List (List Nat)} {f : Nat} (h : JInv n j l f) : ∀ {i : Nat}, i ≤ l.length → totalL (j.live.take i) = cntS (l.take i)
  | 0, _ => rfl
  | i + 1, hi => by
    have hl := h.h.len
    rw [totalL_take (by omega), cntS_take (by omega), totalL_takeS h (by omega), h.tot i (by omega), h.h.dat i (by omega)]
theorem totalL_S {n : Nat} {j : Jn} {l : List (List Nat)} {f : Nat} (h : JInv n j l f) : totalL j.live = cntS l := by
  have h1 := totalL_takeS h (Nat.le_refl l.length)
  have hl := h.h.len
  rw [List.take_of_length_le (by omega), List.take_of_length_le (by omega)] at h1
  exact h1
end Go.Proofs.Ytlplogplicgfiaa

namespace Go.Proofs.Ytlplogplicgfiaa
open Go Go.RowKit
theorem NoJ.upT {w w' : World} {v : Value} {b : Nat} {ty : TypeId} {cs : Array Value} (h : NoJ w v) (u : Upd (one b) w w') (hB : Blk w b ty cs) (hne : 86 ≠ ty) : NoJ w' v := h.elim .inl (fun ⟨c, e, hC⟩ => .inr ⟨c, e, hC.upT u hB hne⟩)
theorem appendN_ (w : World) {v vr : Value} {rec : List Nat} {first : Int} (hN : NoJ w v) (hr : RU8 w vr rec) (hrl : rec.length ≤ 100000) : Calls Try.prog 36 #[v, vr, .int .i64 first] w (Ret fun r w' => Ext w w' ∧ r = .tuple #[.int .i64 ((0 : Nat) : Int), .int .i64 ((1 : Nat) : Int)]) := by
  refine calls_E (args := [v, vr, .int .i64 (first)]) 156 Try.func36 rfl rfl (by simp) ?_
  have hE : Ext w w := Upd.refl w
  refine E.seq ?_
  refine E.regionP rfl ?_
  refine R.assign ?_
  refine R.assign ?_
  refine R.nil ?_
  refine E.seq ?_
  refine E.regionP rfl ?_
  refine R.move ?_
  refine R.len Try.underlying55 hr.row rfl ?_
  refine R.addN (m := rec.length) (n := 48) rfl rfl (by omega) ?_
  refine R.subN (m := (rec.length + 48)) (n := 1) rfl rfl (by omega) (by omega) ?_
  refine R.quoN (m := ((rec.length + 48) - 1)) (n := 48) rfl rfl (by omega) (by omega) ?_
  refine R.maxN (m := 1) (n := (((rec.length + 48) - 1) / 48)) rfl rfl ?_
  refine R.move ?_
  refine R.callE1 ent37 (lastNN_ _ hN) rfl nofun ?_
  rintro v21 w1 hx1 rfl
  replace hN := hN.ext hx1
  replace hr := hr.ext hx1
  replace hE := hE.ext hx1
  refine R.addN (m := 0) (n := 1) rfl rfl (by omega) ?_
  refine R.move ?_
  refine R.build (bld103_0_1_3 rfl rfl rfl) rfl ?_
  refine R.alloc t103 nofun ?_
  intro b8 w2 hb8 hx2 hB8
  replace hb8 := Nat.le_trans hE.size hb8
  replace hN := hN.ext hx2
  replace hr := hr.ext hx2
  replace hE := hE.ext hx2
  replace hB8 : Blk _ b8 103 #[.int .i64 ((0 : Nat) : Int), .int .i64 ((0 : Nat) : Int), .int .i64 ((0 : Nat) : Int), .int .i64 ((0 : Nat) : Int)] := hB8
  refine R.storeA t103 hB8 rfl rfl rfl rfl (ones4 rfl rfl rfl rfl) nofun ?_
  intro w3 hU3 hs3 hN3
  replace hN := hN.upT hU3 hB8 (by decide)
  replace hr := hr.upT hU3 hB8 (by decide)
  replace hE := hE.own hU3 hb8
  replace hB8 : Blk _ b8 103 #[.int .i64 ((max 1 (((rec.length + 48) - 1) / 48) : Nat) : Int), .int .i64 ((0 + 1 : Nat) : Int), .int .i64 ((0 : Nat) : Int), .int .i64 (first)] := hN3
  clear hN3
  refine R.nil ?_
  refine E.seq ?_
  refine E.block ?_
  refine E.seq ?_
  refine E.regionP rfl ?_
  refine R.move ?_
  refine R.callE1 ent51 (thereN_ _ hN) rfl nofun ?_
  rintro v27 w4 hx4 rfl
  replace hN := hN.ext hx4
  replace hr := hr.ext hx4
  replace hB8 := hB8.ext hx4
  replace hE := hE.ext hx4
  refine R.not rfl ?_
  refine R.assign ?_
  refine R.nil ?_
  refine E.condT rfl ?_
  refine E.seq ?_
  refine E.forget [] trivial (fun e => ?_)
  refine E.regionP rfl ?_
  refine R.assign ?_
  refine R.assign ?_
  refine R.nil ?_
  refine E.ret ?_
  refine ret2 (.int .i64 ((0 : Nat) : Int)) (.int .i64 ((1 : Nat) : Int)) rfl rfl rfl ⟨_, rfl, ?_⟩
  exact ⟨hE, rfl⟩
theorem openN_ (w : World) : Calls Try.prog 39 #[.pointer none] w (Ret fun r w' => Ext w w' ∧ r = .tuple #[.pointer none, .int .i64 ((2 : Nat) : Int)]) := by
  refine calls_E (args := [.pointer none]) 149 Try.func39 rfl rfl (by simp) ?_
  have hE : Ext w w := Upd.refl w
  refine E.seq ?_
  refine E.regionP rfl ?_
  refine R.assign ?_
  refine R.assign ?_
  refine R.nil ?_
  refine E.seq ?_
  refine E.seq ?_
  refine E.regionP rfl ?_
  refine R.move ?_
  refine R.callE1 ent43 (places0 _) rfl nofun ?_
  rintro v18 w1 hx1 rfl
  replace hE := hE.ext hx1
  refine R.eql (b := true) rfl rfl (by decide) ?_
  refine R.nil ?_
  refine E.condT rfl ?_
  refine E.seq ?_
  refine E.regionP rfl ?_
  refine R.assign ?_
  refine R.assign ?_
  refine R.nil ?_
  refine E.ret ?_
  refine ret2 (.pointer none) (.int .i64 ((2 : Nat) : Int)) rfl rfl rfl ⟨_, rfl, ?_⟩
  exact ⟨hE, rfl⟩
theorem openZ_ (w : World) {b900 : Nat} {vb vd : Value} {d : Dk} (hD : DM w b900 vb vd d) (h0 : d.n = 0) : Calls Try.prog 39 #[.pointer (some ⟨b900, 0, none⟩)] w (Ret fun r w' => Ext w w' ∧ r = .tuple #[.pointer none, .int .i64 ((2 : Nat) : Int)]) := by
  refine calls_E (args := [.pointer (some ⟨b900, 0, none⟩)]) 149 Try.func39 rfl rfl (by simp) ?_
  have hE : Ext w w := Upd.refl w
  refine E.seq ?_
  refine E.regionP rfl ?_
  refine R.assign ?_
  refine R.assign ?_
  refine R.nil ?_
  refine E.seq ?_
  refine E.seq ?_
  refine E.regionP rfl ?_
  refine R.move ?_
  refine R.callE1 ent43 (places_ _ hD) rfl nofun ?_
  rintro v18 w1 hx1 rfl
  replace hD := hD.ext hx1
  replace hE := hE.ext hx1
  refine R.eql (b := decide ((((d.n : Nat) : Int)) = (((0 : Nat) : Int)))) rfl rfl rfl ?_
  refine R.nil ?_
  refine E.cond (b := decide ((((d.n : Nat) : Int)) = (((0 : Nat) : Int)))) rfl (fun hc19 => ?_) (fun hc19 => ?_)
  · replace hc19 := dT hc19
    refine E.seq ?_
    refine E.regionP rfl ?_
    refine R.assign ?_
    refine R.assign ?_
    refine R.nil ?_
    refine E.ret ?_
    refine ret2 (.pointer none) (.int .i64 ((2 : Nat) : Int)) rfl rfl rfl ⟨_, rfl, ?_⟩
    exact ⟨hE, rfl⟩
  · replace hc19 := dF hc19
    exact absurd h0 (by omega)
end Go.Proofs.Ytlplogplicgfiaa
