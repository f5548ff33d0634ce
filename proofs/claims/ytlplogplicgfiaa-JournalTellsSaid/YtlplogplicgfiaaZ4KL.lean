import Derived.Test.YtlplogplicgfiaaZ4KD
namespace Go.Proofs.Ytlplogplicgfiaa
open Go Go.RowKit
theorem eqTake {xs ys : List Nat} (hl : xs.length = ys.length) (h : ∀ k, k < xs.length → xs.getD k 0 = ys.getD k 0) : xs = ys := by
  apply List.ext_getElem hl; intro i h1 h2; have := h i h1; simpa [List.getD_eq_getElem?_getD, h1, h2] using this
theorem bytes_ (w : World) {v1 v2 : Value} {xs ys : List Nat} (h1 : RU8 w v1 xs) (h2 : RU8 w v2 ys) (hl : xs.length ≤ 1000000) : Calls Try.prog 56 #[v1, v2] w (Ret fun r w' => Ext w w' ∧ r = .bool (decide (xs = ys))) := by
  refine calls_E (args := [v1, v2]) 26 Try.func56 rfl rfl (by simp) ?_; have hE : Ext w w := Upd.refl w; refine E.seq ?_; refine E.regionP rfl ?_; refine R.assign ?_; refine R.nil ?_; (iterate 2 refine E.seq ?_); refine E.regionP rfl ?_; refine R.move ?_; refine R.len Try.underlying55 h1.row rfl ?_; refine R.move ?_; refine R.len Try.underlying55 h2.row rfl ?_; refine R.neq (b := !decide (((xs.length : Int)) = ((ys.length : Int)))) rfl rfl rfl ?_; refine R.nil ?_; refine E.cond (b := !decide (((xs.length : Int)) = ((ys.length : Int)))) rfl (fun hc10 => ?_) (fun hc10 => ?_)
  · replace hc10 := nT hc10; refine E.seq ?_; refine E.regionP rfl ?_; refine R.assign ?_; refine R.nil ?_; refine E.ret ?_; refine ret1 (.bool (false)) rfl rfl ⟨_, rfl, ?_⟩; refine ⟨hE, ?_⟩; rw [decide_eq_false (fun e => by rw [e] at hc10; omega)]
  · replace hc10 := nF hc10; refine E.skip ?_; (iterate 2 refine E.seq ?_); refine E.regionP rfl ?_; refine R.assign ?_; refine R.nil ?_; refine E.block ?_; refine E.loop (fun n e wr => ∃ (i : Nat), n = xs.length - i ∧ i ≤ xs.length ∧ (∀ k, k < i → xs.getD k 0 = ys.getD k 0) ∧ RU8 wr v1 xs ∧ RU8 wr v2 ys ∧ Ext w wr ∧ Has e [(0, v1), (1, v2), (5, N6 i)]) (xs.length) ?_ ?_
    · exact ⟨0, rfl, by omega, fun _ h => absurd h (Nat.not_lt_zero _), h1, h2, hE, rfl, rfl, rfl, trivial⟩
    · rintro n e wr ⟨i, rfl, hi, hz, h1, h2, hE, hH⟩; obtain ⟨e, rfl⟩ := hH.ex; clear hH; (iterate 2 refine E.seq ?_); refine E.regionP rfl ?_; (iterate 2 refine R.move ?_); refine R.len Try.underlying55 h1.row rfl ?_; refine R.lss (b := decide (((i : Int)) < ((xs.length : Int)))) rfl rfl rfl ?_; refine R.nil ?_; refine E.cond (b := decide (((i : Int)) < ((xs.length : Int)))) rfl (fun hc14 => ?_) (fun hc14 => ?_)
      · replace hc14 := dT hc14; refine E.skip ?_; refine E.seq ?_; refine E.block ?_; refine E.seq ?_; refine E.regionW allS [] mixed rfl (by kernel_rfl) ?_; intro w1 hx1 hh1; replace h1 := h1.ext hx1; replace h2 := h2.ext hx1; replace hE := hE.ext hx1; (iterate 2 refine R.move ?_); refine R.ix (m := i) Try.underlying55 t5 (by decide) h1.row rfl rfl (by omega) ?_; refine R.load (u := .int .u8 ((xs.getD i 0 : Nat) : Int)) t5 h1.row rfl (u8_getD (i := i) (by first | omega | decide)) rfl (fun _ _ => trivial) ?_; (iterate 2 refine R.move ?_); refine R.ix (m := i) Try.underlying55 t5 (by decide) h2.row rfl rfl (by omega) ?_; refine R.load (u := .int .u8 ((ys.getD i 0 : Nat) : Int)) t5 h2.row rfl (u8_getD (i := i) (by first | omega | decide)) rfl (fun _ _ => trivial) ?_; refine R.neq (b := !decide ((((xs.getD i 0 : Nat) : Int)) = (((ys.getD i 0 : Nat) : Int)))) rfl rfl rfl ?_; refine R.nil ?_; refine E.cond (b := !decide ((((xs.getD i 0 : Nat) : Int)) = (((ys.getD i 0 : Nat) : Int)))) rfl (fun hc25 => ?_) (fun hc25 => ?_)
        · replace hc25 := nT hc25; refine E.seq ?_; refine E.forget [] trivial (fun e => ?_); refine E.regionP rfl ?_; refine R.assign ?_; refine R.nil ?_; refine E.ret ?_; refine ret1 (.bool (false)) rfl rfl ⟨_, rfl, ?_⟩; refine ⟨hE, ?_⟩; rw [decide_eq_false (fun e => by rw [e] at hc25; omega)]
        · replace hc25 := nF hc25; refine E.skip ?_; refine E.forget [(0, v1), (1, v2), (5, N6 i)] ⟨rfl, rfl, rfl, trivial⟩ (fun e => ?_); refine E.regionP rfl ?_; refine R.move ?_; refine R.addN (m := i) (n := 1) rfl rfl (by omega) ?_; refine R.assign ?_; refine R.nil ?_; exact ⟨xs.length - (i + 1), by omega, i + 1, rfl, by omega, fun k hk => by rcases Nat.lt_or_ge k i with h | h; (exact hz k h); (obtain rfl : k = i := by omega); omega, h1, h2, hE, rfl, rfl, rfl, trivial⟩
      · replace hc14 := dF hc14; refine E.exit ?_; refine E.seq ?_; refine E.regionP rfl ?_; refine R.assign ?_; refine R.nil ?_; refine E.ret ?_; refine ret1 (.bool (true)) rfl rfl ⟨_, rfl, ?_⟩; refine ⟨hE, ?_⟩; rw [decide_eq_true (eqTake (by omega) (fun k hk => hz k (by omega)))]
end Go.Proofs.Ytlplogplicgfiaa

namespace Go.Proofs.Ytlplogplicgfiaa
open Go Go.RowKit
theorem RU8.new {w : World} {v : Value} {xs : List Nat} {b : Nat} (h : RU8 w v xs) (hb : w.heap.size ≤ b) : vblk v ≠ some b := fun e => by
  obtain ⟨c, ty, q⟩ := h.blk b e; obtain ⟨h1, _⟩ := Array.getElem?_eq_some_iff.1 q; omega
theorem RU8.upN {w w' : World} {v : Value} {xs : List Nat} {b : Nat} (h : RU8 w v xs) (u : Upd (fun c => c = b) w w') (hb : vblk v ≠ some b) : RU8 w' v xs := h.up u (fun x e e1 => hb (by have e2 : x = b := e1; exact e2 ▸ e))
structure LvM (w : World) (v : Value) (us : List Value) (l : List (List Nat)) : Prop where
  sl : Sl w 55 1 v l.length us
  rows : Rows8 w us l
section
variable {w w' : World} {v : Value} {us : List Value} {l : List (List Nat)}
theorem LvM.up {X : Nat → Prop} (p : LvM w v us l) (u : Upd X w w') (hX : ∀ x, X x → ¬ PB v us x) : LvM w' v us l := ⟨p.sl.up u (fun b hb e => hX b e (.inl hb)), p.rows.up u (fun x e q => hX x e (.inr q))⟩
theorem LvM.ext (p : LvM w v us l) (u : Ext w w') : LvM w' v us l := p.up u (fun _ e => e.elim)
theorem LvM.pb (p : LvM w v us l) {x : Nat} (hx : PB v us x) : ∃ ty cs, Blk w x ty cs ∧ (ty = 55 ∨ ty = 5) := by
  rcases hx with hx | hx
  · obtain ⟨c, q⟩ := p.sl.blk hx; exact ⟨_, _, q, .inl rfl⟩
  · obtain ⟨c, q⟩ := p.rows.ub hx; exact ⟨_, _, q, .inr rfl⟩
theorem LvM.new (p : LvM w v us l) {b : Nat} (hb : w.heap.size ≤ b) : ¬ PB v us b := fun e => by obtain ⟨ty, c, q, _⟩ := p.pb e; have := q.lt; omega
theorem LvM.notT (p : LvM w v us l) {b : Nat} {ty : TypeId} {cs : Array Value} (hB : Blk w b ty cs) (hne : 55 ≠ ty ∧ 5 ≠ ty) : ¬ PB v us b := fun e => by
  obtain ⟨ty', c, q, h1⟩ := p.pb e; have h2 := (q.inj hB).2; rcases h1 with rfl | rfl
  · exact hne.1 h2
  · exact hne.2 h2
theorem LvM.upN {b : Nat} (p : LvM w v us l) (u : Upd (one b) w w') (hb : ¬ PB v us b) : LvM w' v us l := p.up u (fun x e => by have e1 : x = b := e; rw [e1]; exact hb)
theorem LvM.upT {b : Nat} {ty : TypeId} {cs : Array Value} (p : LvM w v us l) (u : Upd (one b) w w') (hB : Blk w b ty cs) (hne : 55 ≠ ty ∧ 5 ≠ ty) : LvM w' v us l := p.upN u (p.notT hB hne)
theorem LvM.upS {x : Value} {ty' k' m : Nat} {ds : List Value} (p : LvM w v us l) (u : Upd (fun b => vblk x = some b) w w') (hx : Sl w ty' k' x m ds) (hne : 55 ≠ ty' ∧ 5 ≠ ty') : LvM w' v us l := p.up u (fun b e => by obtain ⟨c, q⟩ := hx.blk e; exact p.notT q hne)
theorem LvM.upD {p : Nat} {vb vd : Value} {d : Dk} (h : LvM w v us l) (u : Upd (DB p vb vd) w w') (hD : DM w p vb vd d) (_ : True) : LvM w' v us l := h.up u (fun b e => by
  rcases e with rfl | e | e
  · exact h.notT hD.blk (by decide)
  · obtain ⟨c, q⟩ := hD.bls.blk e; exact h.notT q (by decide)
  · obtain ⟨c, q⟩ := hD.bds.blk e; exact h.notT q (by decide))
theorem LvM.upA {pj p pd : Nat} {vb vd vl : Value} {us' : List Value} {j : Jn} {d : Dk} (h : LvM w v us l) (u : Upd (AB pj p vb vd) w w') (hD : DM w p vb vd d) (hJ : JM w pj pd vl us' j) (_ : True) : LvM w' v us l := h.up u (fun b e => by
  rcases e with rfl | rfl | e | e
  · exact h.notT hJ.blk (by decide)
  · exact h.notT hD.blk (by decide)
  · obtain ⟨c, q⟩ := hD.bls.blk e; exact h.notT q (by decide)
  · obtain ⟨c, q⟩ := hD.bds.blk e; exact h.notT q (by decide))
theorem LvM.nil : LvM w (.slice none 0 0) [] [] := ⟨Sl.nil _ _ _, Rows8.nil⟩
theorem LvM.cell (p : LvM w v us l) {i : Nat} (hi : i < l.length) : us[i * 1 + 0]? = some (us.getD i undef) := by
  have := p.rows.len; rw [List.getD_eq_getElem?_getD, Nat.mul_one, Nat.add_zero, List.getElem?_eq_getElem (by omega)]; rfl
end
end Go.Proofs.Ytlplogplicgfiaa

namespace Go.Proofs.Ytlplogplicgfiaa
open Go Go.RowKit
structure HoldP (j : Jn) (l : List (List Nat)) (f : Nat) : Prop where
  ok : JOK j
  fst : f = firstN j.live
  len : j.live.length = l.length
  dat : ∀ i, i < l.length → (j.live.getD i Rc0).dat = l.getD i []
  b : ∀ i, i < j.live.length → (j.live.getD i Rc0).dat.length ≤ 4032
theorem HoldP.lst {j : Jn} {l : List (List Nat)} {f : Nat} (h : HoldP j l f) : lastN j.live + 1 = f + l.length := by
  have h1 := h.fst; have h2 := h.len; rcases Nat.eq_zero_or_pos j.live.length with h0 | h0
  · have e : j.live = [] := List.length_eq_zero_iff.1 h0; rw [e] at h1 h2; rw [e]; simp [firstN, lastN, Rc0] at *; omega
  · have := h.ok.num (j.live.length - 1) (by omega); unfold lastN; omega
theorem bytesT (w : World) {v1 v2 : Value} {xs : List Nat} (h1 : RU8 w v1 xs) (h2 : RU8 w v2 xs) (hl : xs.length ≤ 1000000) : Calls Try.prog 56 #[v1, v2] w (Ret fun r w' => Ext w w' ∧ r = .bool true) :=
  (bytes_ w h1 h2 hl).mono (fun _ _ ⟨v, e, q1, q2⟩ => ⟨v, e, q1, by rw [q2]; simp⟩)
end Go.Proofs.Ytlplogplicgfiaa

namespace Go.Proofs.Ytlplogplicgfiaa
open Go Go.RowKit
theorem Rows8.drop {w : World} {us : List Value} {l : List (List Nat)} (h : Rows8 w us l) (m : Nat) : Rows8 w (us.drop m) (l.drop m) := by
  have hl := h.len; refine ⟨by simp [hl], fun i hi => ?_⟩; have h1 := h.rows (m + i) (by simp at hi; omega); simpa only [List.getD_eq_getElem?_getD, List.getElem?_drop] using h1
end Go.Proofs.Ytlplogplicgfiaa

namespace Go.Proofs.Ytlplogplicgfiaa
open Go Go.RowKit
def Dk.setPw (d : Dk) (p : Int) : Dk := { d with pw := p }
theorem DM.setPw {w w' : World} {p : Nat} {vb vd : Value} {d : Dk} {q : Int} (h : DM w p vb vd d) (u : Upd (one p) w w') (hN : Blk w' p 25 #[vb, vd, .int .i64 q, .bool d.tr]) : DM w' p vb vd (d.setPw q) :=
  ⟨hN, h.bls.upT u h.blk (by decide), h.bds.upT u h.blk (by decide), h.ok⟩
structure Sp where
  d : Dk
  live : List (List Nat)
  first : Nat
  pend : List Nat
  waits : Bool
  frm : Nat
  cnt : Nat
structure ShM (w : World) (p pd : Nat) (vb vd jp : Value) (s : Sp) : Prop where
  ex : ∃ vL uL vp, Blk w p 69 #[.pointer (some ⟨pd, 0, none⟩), jp, vL, .int .i64 (s.first : Int), vp, .bool s.waits, .int .i64 (s.frm : Int), .int .i64 (s.cnt : Int)] ∧ LvM w vL uL s.live ∧ SU8s w vp s.pend
  d : DM w pd vb vd s.d
end Go.Proofs.Ytlplogplicgfiaa

namespace Go.Proofs.Ytlplogplicgfiaa
open Go Go.RowKit
theorem writeL_n : ∀ {L : List (Nat × List Nat)} {d : Dk}, (writeL L d).1.n = d.n
  | [], d => rfl
  | (i, b) :: L, d => by
    simp only [writeL]
    split
    · rw [writeL_n, Dk.write_n]
    · exact Dk.write_n _ _ _
theorem writeL_pw {z : Int} (hz : 0 ≤ z) : ∀ {L : List (Nat × List Nat)} {d : Dk}, d.pw ≤ z → (writeL L d).1.pw ≤ z
  | [], d, h => h
  | (i, b) :: L, d, h => by
    simp only [writeL]
    split
    · exact writeL_pw hz (Dk.write_pw _ _ _ hz h)
    · exact Dk.write_pw _ _ _ hz h
theorem Dk.write_neg {d : Dk} {i : Nat} {b : List Nat} (h : d.pw < 0) (hi : i < 2 * d.n) : (d.write (i : Int) b).2 = true ∧ (d.write (i : Int) b).1.pw = d.pw := by
  unfold Dk.write; rw [if_pos ⟨by omega, by omega⟩, if_neg (by omega)]; refine ⟨rfl, ?_⟩; show (if 0 < d.pw then d.pw - 1 else d.pw) = d.pw; rw [if_neg (by omega)]
theorem writeL_neg : ∀ {L : List (Nat × List Nat)} {d : Dk}, d.pw < 0 → (∀ x ∈ L, x.1 < 2 * d.n) → (writeL L d).2 = true ∧ (writeL L d).1.pw = d.pw
  | [], d, _, _ => ⟨rfl, rfl⟩
  | (i, b) :: L, d, h, hL => by
    obtain ⟨h1, h2⟩ := Dk.write_neg (d := d) (i := i) (b := b) h (hL (i, b) List.mem_cons_self); simp only [writeL, if_pos h1]; obtain ⟨h3, h4⟩ := writeL_neg (L := L) (d := (d.write (i : Int) b).1) (by omega) (fun x hx => by rw [Dk.write_n]; exact hL x (List.mem_cons_of_mem _ hx)); exact ⟨h3, by omega⟩
theorem ajobs_in {n : Nat} {r : Rc} (hn : 0 < n) (ht : 0 < r.h.total) : ∀ x ∈ ajobs n r, x.1 < 2 * n := by
  intro x hx; unfold ajobs at hx; obtain ⟨i, hi, rfl⟩ := List.mem_map.1 hx; have hi2 := List.mem_range.1 hi; unfold ajob; have h1 := Nat.mod_lt (r.at_ + i % r.h.total) hn; have h2 : i / r.h.total < 2 := (Nat.div_lt_iff_lt_mul ht).2 hi2; have h3 : i / r.h.total * n ≤ 1 * n := Nat.mul_le_mul_right _ (by omega); show (r.at_ + i % r.h.total) % n + i / r.h.total * n < 2 * n; omega
theorem cntL_pos (m : Nat) : 1 ≤ cntL m := by unfold cntL; omega
structure JInv (n : Nat) (j : Jn) (l : List (List Nat)) (f : Nat) : Prop where
  h : HoldP j l f
  free : 0 ≤ freeI n j.live
  at_ : ∀ i, i < j.live.length → (j.live.getD i Rc0).at_ < n
  tot : ∀ i, i < j.live.length → (j.live.getD i Rc0).h.total = cntL (j.live.getD i Rc0).dat.length
  byt : ∀ i, i < j.live.length → ∀ x ∈ (j.live.getD i Rc0).dat, x < 256
  down : j.down = false
  con : ∀ i, i + 1 < j.live.length → (j.live.getD (i + 1) Rc0).at_ = ((j.live.getD i Rc0).at_ + (j.live.getD i Rc0).h.total) % n
theorem totalL_app (a b : List Rc) : totalL (a ++ b) = totalL a + totalL b := by simp [totalL]
theorem totalL_drop (l : List Rc) (k : Nat) : totalL (l.drop k) ≤ totalL l := by
  have h := totalL_app (l.take k) (l.drop k); rw [List.take_append_drop] at h; omega
theorem getD_dropA {α : Type} (l : List α) (k i : Nat) (z : α) : (l.drop k).getD i z = l.getD (k + i) z := by
  simp only [List.getD_eq_getElem?_getD, List.getElem?_drop]
theorem getD_app {α : Type} {l : List α} {y z : α} {i : Nat} (hi : i < (l ++ [y]).length) : (i < l.length ∧ (l ++ [y]).getD i z = l.getD i z) ∨ (i = l.length ∧ (l ++ [y]).getD i z = y) := by
  simp only [List.length_append, List.length_cons, List.length_nil] at hi; simp only [List.getD_eq_getElem?_getD]; rcases Nat.lt_or_ge i l.length with h | h
  · left; refine ⟨h, ?_⟩; rw [List.getElem?_append_left h]
  · right; refine ⟨by omega, ?_⟩
    rw [List.getElem?_append_right h, show i - l.length = 0 by omega]; rfl
theorem JInv.len {n : Nat} {j : Jn} {l : List (List Nat)} {f : Nat} (h : JInv n j l f) : j.live.length ≤ n := by
  have h1 := totalL_ge (l := j.live) (fun i hi => by rw [h.tot i hi]; exact cntL_pos _); have h2 := h.free; unfold freeI at h2; omega
theorem newJ_inv {d : Dk} {j : Jn} {l : List (List Nat)} {f g : Nat} {rec : List Nat} (hd : 0 < d.n) (h : JInv d.n j l f) (hg : f ≤ g) (hg2 : g ≤ f + l.length) (hrec : rec.length ≤ 4032) (hb : ∀ x ∈ rec, x < 256) (hm : f + l.length ≤ 4294967295) (hfr : (cntL rec.length : Int) ≤ freeI d.n j.live) :
    JInv d.n ⟨j.live.drop (g - firstN j.live) ++ [newR d.n j rec g], j.life, j.mended, j.down⟩ (l.drop (g - f) ++ [rec]) g := by
  have hlen := h.h.len; have hfst := h.h.fst; have hlst := h.h.lst; have hnl := d.n_le; have hf1 := h.h.ok.fst; rw [← hfst]; have hdl : (j.live.drop (g - f)).length = l.length - (g - f) := by rw [List.length_drop, hlen]
  have hT : totalL (j.live.drop (g - f) ++ [newR d.n j rec g]) = totalL (j.live.drop (g - f)) + cntL rec.length := by rw [totalL_app]; rfl
  have hTd := totalL_drop j.live (g - f); have hfree : 0 ≤ freeI d.n (j.live.drop (g - f) ++ [newR d.n j rec g]) := by unfold freeI at *; rw [hT]; omega
  have hnum : ∀ i, i < (j.live.drop (g - f) ++ [newR d.n j rec g]).length → ((j.live.drop (g - f) ++ [newR d.n j rec g]).getD i Rc0).h.number = g + i := by
    intro i hi; rcases getD_app (z := Rc0) hi with ⟨h1, e⟩ | ⟨h1, e⟩
    · rw [e, getD_dropA, h.h.ok.num _ (by omega)]; omega
    · rw [e]; show lastN j.live + 1 = _; omega
  have hF : firstN (j.live.drop (g - f) ++ [newR d.n j rec g]) = g := by
    rw [firstN_cons (by simp), hnum 0 (by simp)]; rfl
  have htot : ∀ i, i < (j.live.drop (g - f) ++ [newR d.n j rec g]).length → ((j.live.drop (g - f) ++ [newR d.n j rec g]).getD i Rc0).h.total = cntL ((j.live.drop (g - f) ++ [newR d.n j rec g]).getD i Rc0).dat.length := by
    intro i hi; rcases getD_app (z := Rc0) hi with ⟨h1, e⟩ | ⟨h1, e⟩
    · rw [e, getD_dropA]; exact h.tot _ (by omega)
    · rw [e]; rfl
  have hdat : ∀ i, i < (j.live.drop (g - f) ++ [newR d.n j rec g]).length → ((j.live.drop (g - f) ++ [newR d.n j rec g]).getD i Rc0).dat.length ≤ 4032 := by
    intro i hi; rcases getD_app (z := Rc0) hi with ⟨h1, e⟩ | ⟨h1, e⟩
    · rw [e, getD_dropA]; exact h.h.b _ (by omega)
    · rw [e]; exact hrec
  have hL : (j.live.drop (g - f) ++ [newR d.n j rec g]).length = l.length - (g - f) + 1 := by rw [List.length_append, hdl]; rfl
  have hge := totalL_ge (l := j.live.drop (g - f) ++ [newR d.n j rec g]) (fun i hi => by rw [htot i hi]; exact cntL_pos _); refine ⟨⟨⟨?_, ?_, ?_, ?_, ?_, h.h.ok.life⟩, hF.symm, ?_, ?_, hdat⟩, hfree, ?_, htot, ?_, h.down, ?_⟩
  · show (j.live.drop (g - f) ++ [newR d.n j rec g]).length ≤ 2000; unfold freeI at hfree; omega
  · intro i hi; show ((j.live.drop (g - f) ++ [newR d.n j rec g]).getD i Rc0).h.total ≤ 84; rw [htot i hi]; have := hdat i hi; unfold cntL; omega
  · intro i hi; show ((j.live.drop (g - f) ++ [newR d.n j rec g]).getD i Rc0).h.number = firstN (j.live.drop (g - f) ++ [newR d.n j rec g]) + i; rw [hF]; exact hnum i hi
  · show 1 ≤ firstN (j.live.drop (g - f) ++ [newR d.n j rec g]); rw [hF]; omega
  · show lastN (j.live.drop (g - f) ++ [newR d.n j rec g]) ≤ 4294967295; unfold lastN; rw [hnum _ (by omega)]; omega
  · show (j.live.drop (g - f) ++ [newR d.n j rec g]).length = (l.drop (g - f) ++ [rec]).length; rw [hL, List.length_append, List.length_drop]; rfl
  · intro i hi; have hi2 : i < (j.live.drop (g - f) ++ [newR d.n j rec g]).length := by rw [hL]; rw [List.length_append, List.length_drop] at hi; simpa using hi
    show ((j.live.drop (g - f) ++ [newR d.n j rec g]).getD i Rc0).dat = _; rcases getD_app (z := Rc0) hi2 with ⟨h1, e⟩ | ⟨h1, e⟩
    · rcases getD_app (z := ([] : List Nat)) hi with ⟨h2, e2⟩ | ⟨h2, e2⟩
      · rw [e, e2, getD_dropA, getD_dropA]; exact h.h.dat _ (by omega)
      · rw [List.length_drop] at h2; omega
    · rcases getD_app (z := ([] : List Nat)) hi with ⟨h2, e2⟩ | ⟨h2, e2⟩
      · rw [List.length_drop] at h2; omega
      · rw [e, e2]; rfl
  · intro i hi; show ((j.live.drop (g - f) ++ [newR d.n j rec g]).getD i Rc0).at_ < d.n; rcases getD_app (z := Rc0) hi with ⟨h1, e⟩ | ⟨h1, e⟩
    · rw [e, getD_dropA]; exact h.at_ _ (by omega)
    · rw [e]; exact newAt_lt hd
  · intro i hi; show ∀ x ∈ ((j.live.drop (g - f) ++ [newR d.n j rec g]).getD i Rc0).dat, x < 256; rcases getD_app (z := Rc0) hi with ⟨h1, e⟩ | ⟨h1, e⟩
    · rw [e, getD_dropA]; exact h.byt _ (by omega)
    · rw [e]; exact hb
  · intro i hi; show ((j.live.drop (g - f) ++ [newR d.n j rec g]).getD (i + 1) Rc0).at_ = (((j.live.drop (g - f) ++ [newR d.n j rec g]).getD i Rc0).at_ + ((j.live.drop (g - f) ++ [newR d.n j rec g]).getD i Rc0).h.total) % d.n; have hi0 : i + 1 < (j.live.drop (g - f) ++ [newR d.n j rec g]).length := hi; rcases getD_app (z := Rc0) (show i < _ from Nat.lt_of_succ_lt hi0) with ⟨h1, e⟩ | ⟨h1, e⟩
    · rcases getD_app (z := Rc0) hi0 with ⟨h2, e2⟩ | ⟨h2, e2⟩
      · rw [e, e2, getD_dropA, getD_dropA]; exact h.con (g - f + i) (by omega)
      · rw [e, e2, getD_dropA]; show newAt d.n j.live = _; unfold newAt; rw [if_neg (by omega), show j.live.length - 1 = g - f + i by omega]
    · omega
end Go.Proofs.Ytlplogplicgfiaa

namespace Go.Proofs.Ytlplogplicgfiaa
open Go Go.RowKit
theorem newDk_n {n : Nat} (h : 4 ≤ n) (h2 : n ≤ 1000) {p : Int} : ((newDk n).setPw p).n = n := by
  unfold Dk.n; show (if (List.replicate (2 * n) zeroB).length ≠ (List.replicate (2 * n) false).length ∨ (List.replicate (2 * n) zeroB).length % 2 ≠ 0 ∨ (List.replicate (2 * n) zeroB).length < 8 ∨ 2000 < (List.replicate (2 * n) zeroB).length then 0 else (List.replicate (2 * n) zeroB).length / 2) = n; simp only [List.length_replicate]; rw [if_neg (by omega)]; omega
theorem hold_new : HoldP ⟨[], 1, 0, false⟩ [] 1 := ⟨⟨by simp, by simp, by simp, by simp [firstN], by simp [lastN, Rc0], by decide⟩, rfl, rfl, by simp, by simp⟩
theorem jinv_new {n : Nat} : JInv n ⟨[], 1, 0, false⟩ [] 1 := ⟨hold_new, by simp [freeI, totalL], by simp, by simp, by simp, rfl, by simp⟩
def ShG (w : World) (N p : Nat) (s : Sp) (j : Jn) : Prop := ∃ pd vb vd pj vl us, ShM w p pd vb vd (.pointer (some ⟨pj, 0, none⟩)) s ∧ JM w pj pd vl us j ∧ N ≤ p ∧ N ≤ pj ∧ ∀ x, DB pd vb vd x → N ≤ x
def sp0 (n : Nat) : Sp := ⟨newDk n, [], 1, [], false, 0, 0⟩
end Go.Proofs.Ytlplogplicgfiaa
