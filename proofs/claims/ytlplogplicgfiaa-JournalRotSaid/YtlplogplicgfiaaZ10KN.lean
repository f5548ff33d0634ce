import Derived.Test.YtlplogplicgfiaaZ10P2
namespace Go.Proofs.Ytlplogplicgfiaa
open Go Go.RowKit
structure Stp where
  kd : Nat
  pw : Nat
  bl : Nat
  dr : Nat
  sz : Nat
def stpC (x : Stp) : List Value := [.int .u8 ((x.kd : Nat) : Int), .int .u8 ((x.pw : Nat) : Int), .int .u8 ((x.bl : Nat) : Int), .int .u8 ((x.dr : Nat) : Int), .int .u16 ((x.sz : Nat) : Int)]
def stpsC (l : List Stp) : List Value := l.flatMap stpC
def Stp0 : Stp := ⟨0, 0, 0, 0, 0⟩
def okS (x : Stp) : Prop := x.kd < 256 ∧ x.pw < 256 ∧ x.bl < 256 ∧ x.dr < 256 ∧ x.sz < 65536
theorem stpsC_len : ∀ l : List Stp, (stpsC l).length = l.length * 5
  | [] => rfl
  | x :: l => by
    have := stpsC_len l
    simp only [stpsC, List.flatMap_cons, List.length_append, List.length_cons] at this ⊢
    rw [this]; simp [stpC]; omega
theorem stps_drop : ∀ (k : Nat) (l : List Stp), (stpsC l).drop (k * 5) = stpsC (l.drop k)
  | 0, l => by simp
  | k + 1, [] => by simp [stpsC]
  | k + 1, x :: l => by
    have := stps_drop k l
    rw [show (k + 1) * 5 = (stpC x).length + k * 5 by simp [stpC]; omega]
    simp only [stpsC, List.flatMap_cons] at this ⊢
    rw [← List.drop_drop, List.drop_left, this]; rfl
theorem stps_take : ∀ (k : Nat) (l : List Stp), (stpsC l).take (k * 5) = stpsC (l.take k)
  | 0, l => by simp [stpsC]
  | k + 1, [] => by simp [stpsC]
  | k + 1, x :: l => by
    have := stps_take k l
    rw [show (k + 1) * 5 = (stpC x).length + k * 5 by simp [stpC]; omega]
    simp only [stpsC, List.flatMap_cons, List.take_succ_cons] at this ⊢
    rw [List.take_append, List.take_of_length_le (by omega), Nat.add_sub_cancel_left, this]
theorem stps_at {l : List Stp} {i : Nat} (hi : i < l.length) : ((stpsC l).drop (i * 5)).take 5 = stpC (l.getD i Stp0) := by
  have e : (l.drop i).take 1 = [l[i]] := by rw [List.drop_eq_getElem_cons hi]; rfl
  rw [stps_drop]
  have h1 := stps_take 1 (l.drop i)
  rw [Nat.one_mul] at h1
  rw [h1, e, List.getD_eq_getElem?_getD, List.getElem?_eq_getElem hi]
  simp [stpsC]
structure KInv (n i : Nat) (s : Sp) (j : Jn) : Prop where
  dn : s.d.n = n
  pw : s.d.pw = -1
  inv : JInv n j s.live s.first
  waits : s.waits = false
  cnt : s.cnt ≤ i
  num : s.first + s.live.length ≤ 1 + i
theorem KInv.new {n : Nat} (h : 4 ≤ n) (h2 : n ≤ 1000) : KInv n 0 { sp0 n with d := (newDk n).setPw (-1) } ⟨[], 1, 0, false⟩ := ⟨newDk_n h h2, rfl, jinv_new, rfl, Nat.le_refl _, Nat.le_refl _⟩
theorem KInv.app {n i g : Nat} {s s' : Sp} {j j' : Jn} {rec : List Nat} (hn : 0 < n) (h : KInv n i s j) (hg : s.first ≤ g) (hg2 : g ≤ s.first + s.live.length) (hl : rec.length ≤ 4032) (hb : ∀ x ∈ rec, x < 256) (hi : i ≤ 1000) (hr : GRec s s' j j' g rec) : KInv n (i + 1) s' j' := by
  have hnum := h.num
  have hcnt := h.cnt
  have hinv := h.inv
  rw [← h.dn] at hinv
  rcases hr with ⟨_, rfl, rfl⟩ | ⟨d', q1, rfl⟩
  · exact ⟨h.dn, h.pw, h.inv, h.waits, by show s.cnt + 1 ≤ _; omega, by show s.first + s.live.length ≤ _; omega⟩
  · obtain ⟨_, _, _, q2, q3, q4⟩ := append_inv (by rw [h.dn]; exact hn) hinv hg hg2 hl hb (by omega) q1
    refine ⟨q3.trans h.dn, (q4 (by rw [h.pw]; decide)).trans h.pw, by rw [← h.dn]; exact q2, h.waits, by show s.cnt + 1 ≤ _; omega, ?_⟩
    show g + (s.live.drop (g - s.first) ++ [rec]).length ≤ _
    simp only [List.length_append, List.length_drop, List.length_cons, List.length_nil]
    omega
theorem kept_ (w : World) {pl : Nat} {v : Value} {l : List Stp} (Q : Nat → Sp → Jn → Prop) (hr : Row w 5 v l.length (stpsC l)) (hl : ∀ x ∈ l, okS x) (hpl : pl < 256) (hll : l.length ≤ 9223372036854775807)
    (hQ0 : Q 0 { sp0 (4 + pl % 8) with d := (newDk (4 + pl % 8)).setPw (-1) } ⟨[], 1, 0, false⟩)
    (hQs : ∀ i s j rec s' j' g, KInv (4 + pl % 8) i s j → Q i s j → s.first ≤ g → g ≤ s.first + s.live.length → rec.length < 200 → (∀ x ∈ rec, x < 256) → GRec s s' j j' g rec → Q (i + 1) s' j') :
    Calls Try.prog 33 #[.int .u8 (pl : Nat), v] w (Ret fun r w' => Ext w w' ∧ ∃ p s j i, i ≤ 30 ∧ r = .tuple #[.pointer (some ⟨p, 0, none⟩), .bool true] ∧ ShG w' w.heap.size p s j ∧ KInv (4 + pl % 8) i s j ∧ Q i s j) := by
  refine calls_E (args := [.int .u8 ((pl : Nat) : Int), v]) 43 Try.func33 rfl rfl (by simp) ?_
  have hE : Ext w w := Upd.refl w
  refine E.seq ?_
  refine E.regionP rfl ?_
  refine R.assign ?_
  refine R.assign ?_
  refine R.nil ?_
  refine E.seq ?_
  refine E.regionP rfl ?_
  refine R.move ?_
  refine R.toI (n := pl) Try.underlying5 Try.underlying3 rfl (by omega) ?_
  refine R.remN (m := pl) (n := 8) rfl rfl (by omega) ?_
  refine R.addN (m := 4) (n := (pl % 8)) rfl rfl (by omega) ?_
  refine R.callE1 ent29 (begin_ _ (by omega) (by omega)) rfl nofun ?_
  rintro v15 w1 hx1 ⟨b902, rfl, hG0⟩
  have hsz0 := hE.size
  replace hE := hE.ext hx1
  have hG : ∃ s j, ShG w1 w.heap.size b902 s j ∧ KInv (4 + pl % 8) 0 s j ∧ Q 0 s j := ⟨_, _, by obtain ⟨pd, vb, vd, pj, vl, us, h1, h2, h3, h4, h5⟩ := hG0; exact ⟨pd, vb, vd, pj, vl, us, h1, h2, Nat.le_trans hsz0 h3, Nat.le_trans hsz0 h4, fun x hx => Nat.le_trans hsz0 (h5 x hx)⟩, KInv.new (by omega) (by omega), hQ0⟩
  obtain ⟨s, j, hG, hK, hQ⟩ := hG
  refine R.move ?_
  refine R.extract rfl rfl ?_
  refine R.extract rfl rfl ?_
  refine R.assign ?_
  refine R.assign ?_
  refine R.nil ?_
  refine E.seq ?_
  refine E.seq ?_
  refine E.regionP rfl ?_
  refine R.move ?_
  refine R.move ?_
  refine R.len Try.underlying59 hr rfl ?_
  refine R.minN (m := l.length) (n := 30) rfl rfl ?_
  have hsl9 := (hr.ext hE)
  obtain ⟨ar, cr, hvr, hcr, _, hcase⟩ := hsl9
  refine R.slc (l := 0) (r := min l.length 30) Try.underlying59 t65 rfl hvr rfl ⟨_, rfl⟩ (by omega) (by omega) ?_
  have hr2 : Row w 5 (Ytlplogplicgfiaa.cut 5 v 0 (min l.length 30)) (l.take (min l.length 30)).length (stpsC (l.take (min l.length 30))) := by
    have h1 := hr.cut (l := 0) (r := min l.length 30) (by omega) (by omega)
    rw [Nat.zero_mul, List.drop_zero, Nat.sub_zero, stps_take] at h1
    rw [List.length_take, show min (min l.length 30) l.length = min l.length 30 by omega]; exact h1
  refine R.len Try.underlying59 hr2 rfl ?_
  refine R.move ?_
  refine R.nil ?_
  refine E.block ?_
  refine E.loop (fun n e wr => ∃ (i : Nat) (s : Sp) (j : Jn), n = (l.take (min l.length 30)).length - i ∧ i ≤ (l.take (min l.length 30)).length ∧ KInv (4 + pl % 8) i s j ∧ Q i s j ∧ ShG wr w.heap.size b902 s j ∧ Ext w wr ∧ Has e [(6, .pointer (some ⟨b902, 0, none⟩)), (7, .bool (true)), (22, (Ytlplogplicgfiaa.cut 5 v 0 (min l.length 30))), (23, .int .i64 (((l.take (min l.length 30)).length : Nat) : Int)), (24, .int .i64 ((i : Nat) : Int))]) ((l.take (min l.length 30)).length) ?_ ?_
  · exact ⟨0, s, j, rfl, by omega, hK, hQ, hG, hE, rfl, rfl, rfl, rfl, rfl, trivial⟩
  · rintro n e wr ⟨i, s, j, rfl, hi, hK, hQ, hG, hE, hH⟩
    obtain ⟨e, rfl⟩ := hH.ex
    clear hH
    refine E.seq ?_
    refine E.regionP rfl ?_
    refine R.lss (b := decide ((((i : Nat) : Int)) < ((((l.take (min l.length 30)).length : Nat) : Int)))) rfl rfl rfl ?_
    refine R.nil ?_
    refine E.seq ?_
    refine E.cond (b := decide ((((i : Nat) : Int)) < ((((l.take (min l.length 30)).length : Nat) : Int)))) rfl (fun hc25 => ?_) (fun hc25 => ?_)
    · replace hc25 := dT hc25
      have hx := hl ((l.take (min l.length 30)).getD i Stp0) (by rw [List.getD_eq_getElem?_getD, List.getElem?_eq_getElem (by omega)]; exact List.mem_of_mem_take (List.getElem_mem _))
      obtain ⟨hx1, hx2, hx3, hx4, hx5⟩ := hx
      have hi30 : i < 30 := by have := List.length_take_le (min l.length 30) l; omega
      refine E.skip ?_
      refine E.seq ?_
      refine E.block ?_
      refine E.seq ?_
      refine E.regionP rfl ?_
      refine R.ix (m := i) Try.underlying59 t65 (by decide) hr2 rfl rfl (by omega) ?_
      refine R.loadE t65 (by decide) (hr2.ext hE) rfl (stps_at (by omega)) rfl rfl (fun _ _ => trivial) ?_
      refine R.alloc t65 nofun ?_
      intro b9 w2 hb9 hx2 hB9
      replace hb9 := Nat.le_trans hE.size hb9
      replace hG := hG.ext hx2
      replace hE := hE.ext hx2
      replace hB9 : Blk _ b9 65 #[.int .u8 0, .int .u8 0, .int .u8 0, .int .u8 0, .int .u16 0] := hB9
      refine R.storeA t65 hB9 rfl rfl rfl rfl (ones5 rfl rfl rfl rfl rfl) nofun ?_
      intro w3 hU3 hs3 hN3
      replace hG := hG.upT hU3 hB9 (by decide)
      replace hE := hE.own hU3 hb9
      replace hB9 : Blk _ b9 65 #[.int .u8 ((((l.take (min l.length 30)).getD i Stp0).kd : Nat) : Int), .int .u8 ((((l.take (min l.length 30)).getD i Stp0).pw : Nat) : Int), .int .u8 ((((l.take (min l.length 30)).getD i Stp0).bl : Nat) : Int), .int .u8 ((((l.take (min l.length 30)).getD i Stp0).dr : Nat) : Int), .int .u16 ((((l.take (min l.length 30)).getD i Stp0).sz : Nat) : Int)] := hN3
      clear hN3
      refine R.nil ?_
      refine E.regionP rfl ?_
      refine R.move ?_
      refine R.move ?_
      refine R.gT rfl rfl ?_
      refine R.move ?_
      refine R.gT rfl rfl ?_
      refine R.fld fa65_4 rfl ?_
      refine R.gT rfl rfl ?_
      refine R.loadB t63 hB9 rfl rfl rfl trivial ?_
      refine R.gT rfl rfl ?_
      refine R.toI (n := ((l.take (min l.length 30)).getD i Stp0).sz) Try.underlying63 Try.underlying3 rfl (by omega) ?_
      refine R.gT rfl rfl ?_
      refine R.remN (m := (((l.take (min l.length 30)).getD i Stp0).sz)) (n := 200) rfl rfl (by omega) ?_
      refine R.gT rfl rfl ?_
      refine R.fld fa65_3 rfl ?_
      refine R.gT rfl rfl ?_
      refine R.loadB t5 hB9 rfl rfl rfl trivial ?_
      refine R.gT rfl rfl ?_
      refine R.toI (n := ((l.take (min l.length 30)).getD i Stp0).dr) Try.underlying5 Try.underlying3 rfl (by omega) ?_
      refine R.gT rfl rfl ?_
      refine R.call4 ent30 (gappend_ _ hG (by rw [hK.dn]; exact hK.inv) (by rw [hK.dn]; omega) hK.pw (by omega) (by omega) (by have := hK.cnt; omega) (by have := hK.num; omega)) rfl rfl rfl rfl ?_
      rintro v38 w4 ⟨hU4, rfl, rec38, s2, j2, hl38, hb38, hr38, hG238⟩
      refine ⟨nofun, ?_⟩
      have hmod := Nat.mod_lt ((l.take (min l.length 30)).getD i Stp0).dr (show 0 < s.live.length + 1 by omega)
      replace hE := hE.trans hU4 (fun x hx h => absurd hx (Nat.not_lt.2 h))
      have hK2 := KInv.app (by omega) hK (by omega) (by omega) (show rec38.length ≤ 4032 by omega) hb38 (by omega) hr38
      have hQ2 := hQs i s j rec38 s2 j2 _ hK hQ (by omega) (by omega) (by omega) hb38 hr38
      clear hG
      have hG := hG238
      refine R.pickT rfl ?_
      refine R.assign ?_
      refine R.nil ?_
      refine E.forget [(6, .pointer (some ⟨b902, 0, none⟩)), (7, .bool (true)), (22, (Ytlplogplicgfiaa.cut 5 v 0 (min l.length 30))), (23, .int .i64 (((l.take (min l.length 30)).length : Nat) : Int)), (24, .int .i64 ((i : Nat) : Int))] ⟨rfl, rfl, rfl, rfl, rfl, trivial⟩ (fun e => ?_)
      refine E.regionP rfl ?_
      refine R.addN (m := i) (n := 1) rfl rfl (by omega) ?_
      refine R.move ?_
      refine R.nil ?_
      exact ⟨(l.take (min l.length 30)).length - (i + 1), by omega, i + 1, s2, j2, rfl, by omega, hK2, hQ2, hG, hE, rfl, rfl, rfl, rfl, rfl, trivial⟩
    · replace hc25 := dF hc25
      refine E.exit ?_
      refine E.seq ?_
      refine E.regionP rfl ?_
      refine R.move ?_
      refine R.move ?_
      refine R.assign ?_
      refine R.assign ?_
      refine R.nil ?_
      refine E.ret ?_
      refine ret2 (.pointer (some ⟨b902, 0, none⟩)) (.bool (true)) rfl rfl rfl ⟨_, rfl, ?_⟩
      refine ⟨hE, _, _, _, i, by have := List.length_take_le (min l.length 30) l; omega, rfl, hG, hK, hQ⟩
end Go.Proofs.Ytlplogplicgfiaa
