import Derived.Test.YtlplogplicgfiaaZ10KJ
namespace Go.Proofs.Ytlplogplicgfiaa
open Go Go.RowKit
theorem writeL_n : ∀ {L : List (Nat × List Nat)} {d : Dk}, (writeL L d).1.n = d.n
  | [], d => rfl
  | (i, b) :: L, d => by
    simp only [writeL]
    split
    · rw [writeL_n, Dk.write_n]
    · exact Dk.write_n _ _ _
theorem writeL_pw {z : Int} (hz : 0 ≤ z) : ∀ {L : List (Nat × List Nat)} {d : Dk}, d.pw ≤ z → (writeL L d).1.pw ≤ z
  | [], d, h => h
  | (i, b) :: L, d, h => by
    simp only [writeL]
    split
    · exact writeL_pw hz (Dk.write_pw _ _ _ hz h)
    · exact Dk.write_pw _ _ _ hz h
theorem Dk.write_neg {d : Dk} {i : Nat} {b : List Nat} (h : d.pw < 0) (hi : i < 2 * d.n) : (d.write (i : Int) b).2 = true ∧ (d.write (i : Int) b).1.pw = d.pw := by
  unfold Dk.write
  rw [if_pos ⟨by omega, by omega⟩, if_neg (by omega)]
  refine ⟨rfl, ?_⟩
  show (if 0 < d.pw then d.pw - 1 else d.pw) = d.pw
  rw [if_neg (by omega)]
theorem writeL_neg : ∀ {L : List (Nat × List Nat)} {d : Dk}, d.pw < 0 → (∀ x ∈ L, x.1 < 2 * d.n) → (writeL L d).2 = true ∧ (writeL L d).1.pw = d.pw
  | [], d, _, _ => ⟨rfl, rfl⟩
  | (i, b) :: L, d, h, hL => by
    obtain ⟨h1, h2⟩ := Dk.write_neg (d := d) (i := i) (b := b) h (hL (i, b) List.mem_cons_self)
    simp only [writeL, if_pos h1]
    obtain ⟨h3, h4⟩ := writeL_neg (L := L) (d := (d.write (i : Int) b).1) (by omega) (fun x hx => by rw [Dk.write_n]; exact hL x (List.mem_cons_of_mem _ hx))
    exact ⟨h3, by omega⟩
theorem ajobs_in {n : Nat} {r : Rc} (hn : 0 < n) (ht : 0 < r.h.total) : ∀ x ∈ ajobs n r, x.1 < 2 * n := by
  intro x hx
  unfold ajobs at hx
  obtain ⟨i, hi, rfl⟩ := List.mem_map.1 hx
  have hi2 := List.mem_range.1 hi
  unfold ajob
  have h1 := Nat.mod_lt (r.at_ + i % r.h.total) hn
  have h2 : i / r.h.total < 2 := (Nat.div_lt_iff_lt_mul ht).2 hi2
  have h3 : i / r.h.total * n ≤ 1 * n := Nat.mul_le_mul_right _ (by omega)
  show (r.at_ + i % r.h.total) % n + i / r.h.total * n < 2 * n
  omega
theorem cntL_pos (m : Nat) : 1 ≤ cntL m := by unfold cntL; omega
theorem room_iff {n m : Nat} {l : List Rc} (hm : m ≤ 4032) : ((m : Int) ≤ roomI n l ↔ (cntL m : Int) ≤ freeI n l) := by
  unfold roomI cntL
  split <;> constructor <;> intro h <;> omega
structure JInv (n : Nat) (j : Jn) (l : List (List Nat)) (f : Nat) : Prop where
  h : HoldP j l f
  free : 0 ≤ freeI n j.live
  at_ : ∀ i, i < j.live.length → (j.live.getD i Rc0).at_ < n
  tot : ∀ i, i < j.live.length → (j.live.getD i Rc0).h.total = cntL (j.live.getD i Rc0).dat.length
  byt : ∀ i, i < j.live.length → ∀ x ∈ (j.live.getD i Rc0).dat, x < 256
  down : j.down = false
  con : ∀ i, i + 1 < j.live.length → (j.live.getD (i + 1) Rc0).at_ = ((j.live.getD i Rc0).at_ + (j.live.getD i Rc0).h.total) % n
theorem totalL_app (a b : List Rc) : totalL (a ++ b) = totalL a + totalL b := by simp [totalL]
theorem totalL_drop (l : List Rc) (k : Nat) : totalL (l.drop k) ≤ totalL l := by
  have h := totalL_app (l.take k) (l.drop k)
  rw [List.take_append_drop] at h
  omega
theorem getD_dropA {α : Type} (l : List α) (k i : Nat) (z : α) : (l.drop k).getD i z = l.getD (k + i) z := by
  simp only [List.getD_eq_getElem?_getD, List.getElem?_drop]
theorem getD_app {α : Type} {l : List α} {y z : α} {i : Nat} (hi : i < (l ++ [y]).length) : (i < l.length ∧ (l ++ [y]).getD i z = l.getD i z) ∨ (i = l.length ∧ (l ++ [y]).getD i z = y) := by
  simp only [List.length_append, List.length_cons, List.length_nil] at hi
  simp only [List.getD_eq_getElem?_getD]
  rcases Nat.lt_or_ge i l.length with h | h
  · left; refine ⟨h, ?_⟩; rw [List.getElem?_append_left h]
  · right; refine ⟨by omega, ?_⟩
    rw [List.getElem?_append_right h, show i - l.length = 0 by omega]; rfl
theorem JInv.len {n : Nat} {j : Jn} {l : List (List Nat)} {f : Nat} (h : JInv n j l f) : j.live.length ≤ n := by
  have h1 := totalL_ge (l := j.live) (fun i hi => by rw [h.tot i hi]; exact cntL_pos _)
  have h2 := h.free
  unfold freeI at h2
  omega
theorem newJ_inv {d : Dk} {j : Jn} {l : List (List Nat)} {f g : Nat} {rec : List Nat} (hd : 0 < d.n) (h : JInv d.n j l f) (hg : f ≤ g) (hg2 : g ≤ f + l.length) (hrec : rec.length ≤ 4032) (hb : ∀ x ∈ rec, x < 256) (hm : f + l.length ≤ 4294967295) (hfr : (cntL rec.length : Int) ≤ freeI d.n j.live) :
    JInv d.n ⟨j.live.drop (g - firstN j.live) ++ [newR d.n j rec g], j.life, j.mended, j.down⟩ (l.drop (g - f) ++ [rec]) g := by
  have hlen := h.h.len
  have hfst := h.h.fst
  have hlst := h.h.lst
  have hnl := d.n_le
  have hf1 := h.h.ok.fst
  rw [← hfst]
  have hdl : (j.live.drop (g - f)).length = l.length - (g - f) := by rw [List.length_drop, hlen]
  have hT : totalL (j.live.drop (g - f) ++ [newR d.n j rec g]) = totalL (j.live.drop (g - f)) + cntL rec.length := by rw [totalL_app]; rfl
  have hTd := totalL_drop j.live (g - f)
  have hfree : 0 ≤ freeI d.n (j.live.drop (g - f) ++ [newR d.n j rec g]) := by unfold freeI at *; rw [hT]; omega
  have hnum : ∀ i, i < (j.live.drop (g - f) ++ [newR d.n j rec g]).length → ((j.live.drop (g - f) ++ [newR d.n j rec g]).getD i Rc0).h.number = g + i := by
    intro i hi
    rcases getD_app (z := Rc0) hi with ⟨h1, e⟩ | ⟨h1, e⟩
    · rw [e, getD_dropA, h.h.ok.num _ (by omega)]; omega
    · rw [e]; show lastN j.live + 1 = _; omega
  have hF : firstN (j.live.drop (g - f) ++ [newR d.n j rec g]) = g := by
    rw [firstN_cons (by simp), hnum 0 (by simp)]; rfl
  have htot : ∀ i, i < (j.live.drop (g - f) ++ [newR d.n j rec g]).length → ((j.live.drop (g - f) ++ [newR d.n j rec g]).getD i Rc0).h.total = cntL ((j.live.drop (g - f) ++ [newR d.n j rec g]).getD i Rc0).dat.length := by
    intro i hi
    rcases getD_app (z := Rc0) hi with ⟨h1, e⟩ | ⟨h1, e⟩
    · rw [e, getD_dropA]; exact h.tot _ (by omega)
    · rw [e]; rfl
  have hdat : ∀ i, i < (j.live.drop (g - f) ++ [newR d.n j rec g]).length → ((j.live.drop (g - f) ++ [newR d.n j rec g]).getD i Rc0).dat.length ≤ 4032 := by
    intro i hi
    rcases getD_app (z := Rc0) hi with ⟨h1, e⟩ | ⟨h1, e⟩
    · rw [e, getD_dropA]; exact h.h.b _ (by omega)
    · rw [e]; exact hrec
  have hL : (j.live.drop (g - f) ++ [newR d.n j rec g]).length = l.length - (g - f) + 1 := by rw [List.length_append, hdl]; rfl
  have hge := totalL_ge (l := j.live.drop (g - f) ++ [newR d.n j rec g]) (fun i hi => by rw [htot i hi]; exact cntL_pos _)
  refine ⟨⟨⟨?_, ?_, ?_, ?_, ?_, h.h.ok.life⟩, hF.symm, ?_, ?_, hdat⟩, hfree, ?_, htot, ?_, h.down, ?_⟩
  · show (j.live.drop (g - f) ++ [newR d.n j rec g]).length ≤ 2000
    unfold freeI at hfree; omega
  · intro i hi
    show ((j.live.drop (g - f) ++ [newR d.n j rec g]).getD i Rc0).h.total ≤ 84
    rw [htot i hi]
    have := hdat i hi
    unfold cntL; omega
  · intro i hi
    show ((j.live.drop (g - f) ++ [newR d.n j rec g]).getD i Rc0).h.number = firstN (j.live.drop (g - f) ++ [newR d.n j rec g]) + i
    rw [hF]; exact hnum i hi
  · show 1 ≤ firstN (j.live.drop (g - f) ++ [newR d.n j rec g])
    rw [hF]; omega
  · show lastN (j.live.drop (g - f) ++ [newR d.n j rec g]) ≤ 4294967295
    unfold lastN
    rw [hnum _ (by omega)]; omega
  · show (j.live.drop (g - f) ++ [newR d.n j rec g]).length = (l.drop (g - f) ++ [rec]).length
    rw [hL, List.length_append, List.length_drop]; rfl
  · intro i hi
    have hi2 : i < (j.live.drop (g - f) ++ [newR d.n j rec g]).length := by rw [hL]; rw [List.length_append, List.length_drop] at hi; simpa using hi
    show ((j.live.drop (g - f) ++ [newR d.n j rec g]).getD i Rc0).dat = _
    rcases getD_app (z := Rc0) hi2 with ⟨h1, e⟩ | ⟨h1, e⟩
    · rcases getD_app (z := ([] : List Nat)) hi with ⟨h2, e2⟩ | ⟨h2, e2⟩
      · rw [e, e2, getD_dropA, getD_dropA]; exact h.h.dat _ (by omega)
      · rw [List.length_drop] at h2; omega
    · rcases getD_app (z := ([] : List Nat)) hi with ⟨h2, e2⟩ | ⟨h2, e2⟩
      · rw [List.length_drop] at h2; omega
      · rw [e, e2]; rfl
  · intro i hi
    show ((j.live.drop (g - f) ++ [newR d.n j rec g]).getD i Rc0).at_ < d.n
    rcases getD_app (z := Rc0) hi with ⟨h1, e⟩ | ⟨h1, e⟩
    · rw [e, getD_dropA]; exact h.at_ _ (by omega)
    · rw [e]; exact newAt_lt hd
  · intro i hi
    show ∀ x ∈ ((j.live.drop (g - f) ++ [newR d.n j rec g]).getD i Rc0).dat, x < 256
    rcases getD_app (z := Rc0) hi with ⟨h1, e⟩ | ⟨h1, e⟩
    · rw [e, getD_dropA]; exact h.byt _ (by omega)
    · rw [e]; exact hb
  · intro i hi
    show ((j.live.drop (g - f) ++ [newR d.n j rec g]).getD (i + 1) Rc0).at_ = (((j.live.drop (g - f) ++ [newR d.n j rec g]).getD i Rc0).at_ + ((j.live.drop (g - f) ++ [newR d.n j rec g]).getD i Rc0).h.total) % d.n
    have hi0 : i + 1 < (j.live.drop (g - f) ++ [newR d.n j rec g]).length := hi
    rcases getD_app (z := Rc0) (show i < _ from Nat.lt_of_succ_lt hi0) with ⟨h1, e⟩ | ⟨h1, e⟩
    · rcases getD_app (z := Rc0) hi0 with ⟨h2, e2⟩ | ⟨h2, e2⟩
      · rw [e, e2, getD_dropA, getD_dropA]; exact h.con (g - f + i) (by omega)
      · rw [e, e2, getD_dropA]
        show newAt d.n j.live = _
        unfold newAt
        rw [if_neg (by omega), show j.live.length - 1 = g - f + i by omega]
    · omega
theorem appC {d : Dk} {j : Jn} {l : List (List Nat)} {f g : Nat} {rec : List Nat} {power : Int} (hd : 0 < d.n) (h : JInv d.n j l f) (hg : f ≤ g) (hg2 : g ≤ f + l.length) (hrec : rec.length ≤ 4032) (hb : ∀ x ∈ rec, x < 256) (hm : f + l.length ≤ 4294967295) (hpw : power ≤ 9223372036854775807) :
    AppC (d.setPw power) j l f g power rec := by
  have hfst := h.h.fst
  have hlst := h.h.lst
  have hn : (d.setPw power).n = d.n := rfl
  have hr := room_iff (n := d.n) (l := j.live) hrec
  rcases (show freeI d.n j.live < (cntL rec.length : Int) ∨ (cntL rec.length : Int) ≤ freeI d.n j.live by omega) with hfr | hfr
  · left
    refine ⟨?_, by rw [hn]; omega⟩
    unfold appendL
    rw [if_neg (by rw [h.down]; simp), if_neg (by omega), if_neg (by omega), if_pos (.inl (by rw [hn]; exact hfr))]
  · right
    have hI := newJ_inv hd h hg hg2 hrec hb hm hfr
    cases hw : writeL (ajobs (d.setPw power).n (newR (d.setPw power).n j rec g)) (d.setPw power) with
    | mk d' b =>
      have hA := appendL_w (d := d.setPw power) (j := j) (rec := rec) (f := g) h.down (by omega) (by omega) (by rw [hn]; omega) hw
      cases b with
      | true =>
        left
        exact ⟨d', _, by rw [hA]; simp only [if_true]; rw [show lastN j.live + 1 = f + l.length from hlst]; rfl, by rw [hn]; omega, hI.h⟩
      | false =>
        right
        have hpd := writeL_pw (z := 9223372036854775807) (by decide) (L := ajobs (d.setPw power).n (newR (d.setPw power).n j rec g)) (d := d.setPw power) hpw
        rw [hw] at hpd
        refine ⟨d', ⟨j.live, j.life, j.mended, true⟩, by rw [hA]; rfl, by rw [hn]; omega, ⟨⟨h.h.ok.len, h.h.ok.tot, h.h.ok.num, h.h.ok.fst, h.h.ok.max, h.h.ok.life⟩, h.h.fst, h.h.len, h.h.dat, h.h.b⟩, ?_, rfl, hpd, rfl⟩
        rcases (show 0 ≤ power ∨ power < 0 by omega) with hp | hp
        · exact hp
        · have := writeL_neg (L := ajobs (d.setPw power).n (newR (d.setPw power).n j rec g)) (d := d.setPw power) hp (ajobs_in (by rw [hn]; exact hd) (cntL_pos _))
          rw [hw] at this
          exact absurd this.1 (by simp)
end Go.Proofs.Ytlplogplicgfiaa

namespace Go.Proofs.Ytlplogplicgfiaa
open Go Go.RowKit
theorem tk_new {n : Nat} (i : Int) {p : Int} : tk ((newDk n).setPw p) i = none := by
  have hb : blkO (((newDk n).setPw p).read i) = zeroB := by
    unfold Dk.read
    split
    · split
      · rfl
      · show (List.replicate (2 * n) zeroB).getD i.toNat [] = zeroB
        rename_i h1 h2
        have h3 : i.toNat < 2 * n := by
          rcases Nat.lt_or_ge i.toNat (2 * n) with h | h
          · exact h
          · exact absurd (show (List.replicate (2 * n) false).getD i.toNat true = true by rw [List.getD_eq_getElem?_getD, List.getElem?_eq_none (by simpa using h)]; rfl) h2
        rw [List.getD_eq_getElem?_getD, List.getElem?_replicate, if_pos h3]; rfl
    · rfl
  unfold tk
  rw [hb]
  decide
theorem last_new {n : Nat} {p : Int} : ∀ k : Nat, lastL ((newDk n).setPw p) k = (Rc0, 0)
  | 0 => rfl
  | k + 1 => by
    have h := last_new (n := n) (p := p) k
    simp only [lastL, lpl, h, tk_new, lstep]
theorem newDk_n {n : Nat} (h : 4 ≤ n) (h2 : n ≤ 1000) {p : Int} : ((newDk n).setPw p).n = n := by
  unfold Dk.n
  show (if (List.replicate (2 * n) zeroB).length ≠ (List.replicate (2 * n) false).length ∨ (List.replicate (2 * n) zeroB).length % 2 ≠ 0 ∨ (List.replicate (2 * n) zeroB).length < 8 ∨ 2000 < (List.replicate (2 * n) zeroB).length then 0 else (List.replicate (2 * n) zeroB).length / 2) = n
  simp only [List.length_replicate]
  rw [if_neg (by omega)]
  omega
theorem open_new {n : Nat} (h : 4 ≤ n) (h2 : n ≤ 1000) {p : Int} : openL ((newDk n).setPw p) = ((newDk n).setPw p, 0, some ⟨[], 1, 0, false⟩) := by
  have hn := newDk_n h h2 (p := p)
  have hl := last_new (n := n) (p := p) n
  have e := openL_ok (d := (newDk n).setPw p) (d' := (newDk n).setPw p) (l := []) (m := 0) (by omega) (by unfold openC; rw [hn, hl]; rfl) (by rw [hn, hl]; decide) rfl
  rw [hn, hl] at e
  exact e
theorem hold_new : HoldP ⟨[], 1, 0, false⟩ [] 1 := ⟨⟨by simp, by simp, by simp, by simp [firstN], by simp [lastN, Rc0], by decide⟩, rfl, rfl, by simp, by simp⟩
theorem jinv_new {n : Nat} : JInv n ⟨[], 1, 0, false⟩ [] 1 := ⟨hold_new, by simp [freeI, totalL], by simp, by simp, by simp, rfl, by simp⟩
def ShG (w : World) (N p : Nat) (s : Sp) (j : Jn) : Prop := ∃ pd vb vd pj vl us, ShM w p pd vb vd (.pointer (some ⟨pj, 0, none⟩)) s ∧ JM w pj pd vl us j ∧ N ≤ p ∧ N ≤ pj ∧ ∀ x, DB pd vb vd x → N ≤ x
def sp0 (n : Nat) : Sp := ⟨newDk n, [], 1, [], false, 0, 0⟩
theorem bld69_0_3 {x0 x3 : Value} (hx0 : x0.oneCell' = true) (hx3 : x3.oneCell' = true) (w : World) : (Instr.build 69 #[(0, x0), (3, x3)]).run Try.prog w = .ok (.agg #[x0, (.pointer none), (.slice none 0 0), x3, (.slice none 0 0), (.bool false), (.int .i64 0), (.int .i64 0)]) w := by
  simp [Instr.build, t69.zero, underlying, Try.underlying69, Instr.fill, cells_agg, t3.sizeOf, t32.sizeOf, cells_one hx0, cells_one hx3]
theorem begin_ (w : World) {n : Nat} (hn4 : 4 ≤ n) (hn9 : n ≤ 1000) : Calls Try.prog 29 #[.int .i64 (n : Nat)] w (Ret fun r w' => Ext w w' ∧ ∃ p, r = .tuple #[.pointer (some ⟨p, 0, none⟩), .bool true] ∧ ShG w' w.heap.size p { sp0 n with d := (newDk n).setPw (-1) } ⟨[], 1, 0, false⟩) := by
  have hbl : (newDk n).bl.length = 2 * n := List.length_replicate
  have hbd : (newDk n).bad.length = 2 * n := List.length_replicate
  refine calls_E (args := [.int .i64 ((n : Nat) : Int)]) 51 Try.func29 rfl rfl (by simp) ?_
  have hE : Ext w w := Upd.refl w
  refine E.seq ?_
  refine E.regionP rfl ?_
  refine R.assign ?_
  refine R.assign ?_
  refine R.nil ?_
  refine E.seq ?_
  refine E.regionP rfl ?_
  refine R.move ?_
  refine R.callE1 ent20 (newDisk_ _) rfl nofun ?_
  rintro v9 w1 hx1 hT9
  replace hE := hE.ext hx1
  unfold NRes at hT9
  rw [if_neg (by omega), Int.toNat_natCast] at hT9
  obtain ⟨b900, vb, vd, rfl, hD, hnD⟩ := hT9
  refine R.move ?_
  refine R.extract rfl rfl ?_
  refine R.extract rfl rfl ?_
  refine R.assign ?_
  refine R.assign ?_
  refine R.nil ?_
  refine E.seq ?_
  refine E.seq ?_
  refine E.regionP rfl ?_
  refine R.move ?_
  refine R.neq (b := false) rfl rfl (by decide) ?_
  refine R.move ?_
  refine R.gT rfl rfl ?_
  refine R.move ?_
  refine R.gT rfl rfl ?_
  refine R.eqlNil (b := false) Try.underlying32 rfl rfl rfl ?_
  refine R.pickF rfl ?_
  refine R.move ?_
  refine R.gT rfl rfl ?_
  refine R.move ?_
  refine R.gT rfl rfl ?_
  refine R.nilCheck rfl ?_
  refine R.gT rfl rfl ?_
  refine R.fld fa25_0 rfl ?_
  refine R.gT rfl rfl ?_
  refine R.loadB t22 hD.blk rfl rfl rfl trivial ?_
  refine R.gT rfl rfl ?_
  refine R.len Try.underlying22 hD.bls.row rfl ?_
  refine R.gT rfl rfl ?_
  refine R.move ?_
  refine R.gT rfl rfl ?_
  refine R.mulN (m := 2) (n := n) rfl rfl (by omega) ?_
  refine R.gT rfl rfl ?_
  refine R.neq (b := !decide ((((((newDk n)).bl.length : Nat) : Int)) = (((2 * n : Nat) : Int)))) rfl rfl rfl ?_
  refine R.pickF rfl ?_
  refine R.move ?_
  have hg28 := Bool.eq_false_or_eq_true (!decide ((((((newDk n)).bl.length : Nat) : Int)) = (((2 * n : Nat) : Int))))
  rcases hg28 with hg28 | hg28
  · have hg28q := hg28
    replace hg28 := nT hg28
    exact absurd hg28 (by omega)
  · have hg28q := hg28
    replace hg28 := nF hg28
    refine R.gT rfl (congrArg Value.bool hg28q) ?_
    refine R.move ?_
    refine R.gT rfl (congrArg Value.bool hg28q) ?_
    refine R.nilCheck rfl ?_
    refine R.gT rfl (congrArg Value.bool hg28q) ?_
    refine R.fld fa25_1 rfl ?_
    refine R.gT rfl (congrArg Value.bool hg28q) ?_
    refine R.loadB t23 hD.blk rfl rfl rfl trivial ?_
    refine R.gT rfl (congrArg Value.bool hg28q) ?_
    refine R.len Try.underlying23 hD.bds.row rfl ?_
    refine R.gT rfl (congrArg Value.bool hg28q) ?_
    refine R.move ?_
    refine R.gT rfl (congrArg Value.bool hg28q) ?_
    refine R.mulN (m := 2) (n := n) rfl rfl (by omega) ?_
    refine R.gT rfl (congrArg Value.bool hg28q) ?_
    refine R.neq (b := !decide ((((((newDk n)).bad.length : Nat) : Int)) = (((2 * n : Nat) : Int)))) rfl rfl rfl ?_
    refine R.pickF (congrArg Value.bool hg28q) ?_
    refine R.nil ?_
    refine E.cond (b := !decide ((((((newDk n)).bad.length : Nat) : Int)) = (((2 * n : Nat) : Int)))) rfl (fun hc37 => ?_) (fun hc37 => ?_)
    · replace hc37 := nT hc37
      exact absurd hc37 (by omega)
    · replace hc37 := nF hc37
      refine E.skip ?_
      refine E.seq ?_
      refine E.forget [(4, .pointer (some ⟨b900, 0, none⟩))] ⟨rfl, trivial⟩ (fun e => ?_)
      refine E.regionP rfl ?_
      refine R.move ?_
      refine R.build (bld69_0_3 rfl rfl) rfl ?_
      refine R.box rfl nofun ?_
      intro b40 w2 hb40 hx2 hB40
      replace hb40 := Nat.le_trans hE.size hb40
      replace hD := hD.ext hx2
      replace hE := hE.ext hx2
      replace hB40 : Blk _ b40 69 #[.pointer (some ⟨b900, 0, none⟩), .pointer none, .slice none 0 0, .int .i64 ((1 : Nat) : Int), .slice none 0 0, .bool (false), .int .i64 ((0 : Nat) : Int), .int .i64 ((0 : Nat) : Int)] := hB40
      refine R.assign ?_
      refine R.nil ?_
      refine E.seq ?_
      have hne40 : ¬ DB b900 vb vd b40 := hD.notDB hB40 (by decide)
      refine E.regionW (fun c x => x < w2.heap.size ∧ (c = false → ¬ SO b40 b900 vb vd x)) [48]  mixed rfl (by kernel_rfl) ?_
      intro w3 hx3 hh3
      replace hD := hD.ext hx3
      replace hB40 := hB40.ext hx3
      replace hE := hE.ext hx3
      have hEs : Ext w3 w3 := Upd.refl _
      have hS0 := hx3.size
      have hSB : ∀ b, b < w3.heap.size → b < w2.heap.size ∧ (true = false → (fun x => ¬ SO b40 b900 vb vd x) b) := fun b hb => ⟨by rw [hh3] at hb; exact hb, nofun⟩
      have hSA : ∀ b, b < w3.heap.size → (fun x => ¬ SO b40 b900 vb vd x) b → b < w2.heap.size ∧ (false = false → (fun x => ¬ SO b40 b900 vb vd x) b) := fun b hb h => ⟨by rw [hh3] at hb; exact hb, fun _ => h⟩
      have hDs := hD
      have hB40s := hB40
      refine R.move ?_
      refine R.move ?_
      refine R.call2 ent32 (sopen_ _ (s := sp0 n) (jp := .pointer none) ⟨⟨_, _, _, hB40, LvM.nil, Sl.nil _ _ _⟩, hD⟩ (by decide) (show 1 ≤ 9000000000 by decide) (show 0 ≤ 100000 by decide) (.inr (.inl ⟨_, _, open_new hn4 hn9, hold_new⟩))) rfl rfl ?_
      rintro v43 w4 ⟨hU4, rfl, hO⟩
      refine ⟨fun _ => hU4.agree (fun x hx => ⟨Nat.lt_of_lt_of_le hx.1 (Nat.le_trans hS0 hEs.size), hx.2 rfl⟩), ?_⟩
      clear hB40 hD
      have hsz3 := hE.size
      replace hE := hE.trans hU4 (fun x hx h => by rcases h with rfl | h; omega; have := hnD x h; omega)
      obtain ⟨pj, vl, us, hJ, hpj, hS⟩ : ∃ pj vl us, JM w4 pj b900 vl us ⟨[], 1, 0, false⟩ ∧ w.heap.size ≤ pj ∧ ShM w4 b40 b900 vb vd (.pointer (some ⟨pj, 0, none⟩)) { sp0 n with d := (newDk n).setPw (-1) } := by
        rcases hO with ⟨_, h1, _⟩ | ⟨_, _, pj, vl, us, h1, _, h2, h3, h4⟩ | ⟨_, _, _, _, _, _, h2, _⟩
        · rw [show (sp0 n).d.setPw (-1) = (newDk n).setPw (-1) from rfl, open_new hn4 hn9] at h1; simp at h1
        · rw [show (sp0 n).d.setPw (-1) = (newDk n).setPw (-1) from rfl, open_new hn4 hn9] at h1
          simp only [Prod.mk.injEq, Option.some.injEq, true_and] at h1
          obtain ⟨rfl, rfl⟩ := h1
          exact ⟨pj, vl, us, h2, Nat.le_trans hsz3 h3, h4⟩
        · exact absurd (show false = true from h2) (by simp)
      obtain ⟨⟨vL, uL, vp, hB40, hV, hP⟩, hD⟩ := hS
      refine R.move ?_
      refine R.gT rfl rfl ?_
      refine R.move ?_
      refine R.gT rfl rfl ?_
      refine R.nilCheck rfl ?_
      refine R.gT rfl rfl ?_
      refine R.fld fa69_1 rfl ?_
      refine R.gT rfl rfl ?_
      refine R.loadB t66 hB40 rfl rfl rfl (hSB b40 hB40s.lt) ?_
      refine R.gT rfl rfl ?_
      refine R.neqNil (b := true) Try.underlying66 rfl rfl rfl ?_
      refine R.pickT rfl ?_
      refine R.assign ?_
      refine R.assign ?_
      refine R.nil ?_
      refine E.ret ?_
      refine ret2 (.pointer (some ⟨b40, 0, none⟩)) (.bool (true)) rfl rfl rfl ⟨_, rfl, ?_⟩
      exact ⟨hE, _, rfl, _, _, _, _, _, _, ⟨⟨_, _, _, hB40, hV, hP⟩, hD⟩, hJ, hb40, hpj, hnD⟩
end Go.Proofs.Ytlplogplicgfiaa
