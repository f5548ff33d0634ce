import Derived.Test.YtlplogplicgfiaaZ5KD
namespace Go.Proofs.Ytlplogplicgfiaa
open Go Go.RowKit
theorem eqTake {xs ys : List Nat} (hl : xs.length = ys.length) (h : ∀ k, k < xs.length → xs.getD k 0 = ys.getD k 0) : xs = ys := by
  apply List.ext_getElem hl
  intro i h1 h2
  have := h i h1
  simpa [List.getD_eq_getElem?_getD, h1, h2] using this
theorem bytes_ (w : World) {v1 v2 : Value} {xs ys : List Nat} (h1 : RU8 w v1 xs) (h2 : RU8 w v2 ys) (hl : xs.length ≤ 1000000) : Calls Try.prog 56 #[v1, v2] w (Ret fun r w' => Ext w w' ∧ r = .bool (decide (xs = ys))) := by
  refine calls_E (args := [v1, v2]) 26 Try.func56 rfl rfl (by simp) ?_
  have hE : Ext w w := Upd.refl w
  refine E.seq ?_
  refine E.regionP rfl ?_
  refine R.assign ?_
  refine R.nil ?_
  refine E.seq ?_
  refine E.seq ?_
  refine E.regionP rfl ?_
  refine R.move ?_
  refine R.len Try.underlying55 h1.row rfl ?_
  refine R.move ?_
  refine R.len Try.underlying55 h2.row rfl ?_
  refine R.neq (b := !decide ((((xs.length : Nat) : Int)) = (((ys.length : Nat) : Int)))) rfl rfl rfl ?_
  refine R.nil ?_
  refine E.cond (b := !decide ((((xs.length : Nat) : Int)) = (((ys.length : Nat) : Int)))) rfl (fun hc10 => ?_) (fun hc10 => ?_)
  · replace hc10 := nT hc10
    refine E.seq ?_
    refine E.regionP rfl ?_
    refine R.assign ?_
    refine R.nil ?_
    refine E.ret ?_
    refine ret1 (.bool (false)) rfl rfl ⟨_, rfl, ?_⟩
    refine ⟨hE, ?_⟩
    rw [decide_eq_false (fun e => by rw [e] at hc10; omega)]
  · replace hc10 := nF hc10
    refine E.skip ?_
    refine E.seq ?_
    refine E.seq ?_
    refine E.regionP rfl ?_
    refine R.assign ?_
    refine R.nil ?_
    refine E.block ?_
    refine E.loop (fun n e wr => ∃ (i : Nat), n = xs.length - i ∧ i ≤ xs.length ∧ (∀ k, k < i → xs.getD k 0 = ys.getD k 0) ∧ RU8 wr v1 xs ∧ RU8 wr v2 ys ∧ Ext w wr ∧ Has e [(0, v1), (1, v2), (5, .int .i64 ((i : Nat) : Int))]) (xs.length) ?_ ?_
    · exact ⟨0, rfl, by omega, fun _ h => absurd h (Nat.not_lt_zero _), h1, h2, hE, rfl, rfl, rfl, trivial⟩
    · rintro n e wr ⟨i, rfl, hi, hz, h1, h2, hE, hH⟩
      obtain ⟨e, rfl⟩ := hH.ex
      clear hH
      refine E.seq ?_
      refine E.seq ?_
      refine E.regionP rfl ?_
      refine R.move ?_
      refine R.move ?_
      refine R.len Try.underlying55 h1.row rfl ?_
      refine R.lss (b := decide ((((i : Nat) : Int)) < (((xs.length : Nat) : Int)))) rfl rfl rfl ?_
      refine R.nil ?_
      refine E.cond (b := decide ((((i : Nat) : Int)) < (((xs.length : Nat) : Int)))) rfl (fun hc14 => ?_) (fun hc14 => ?_)
      · replace hc14 := dT hc14
        refine E.skip ?_
        refine E.seq ?_
        refine E.block ?_
        refine E.seq ?_
        refine E.regionW allS [] mixed rfl (by kernel_rfl) ?_
        intro w1 hx1 hh1
        replace h1 := h1.ext hx1
        replace h2 := h2.ext hx1
        replace hE := hE.ext hx1
        refine R.move ?_
        refine R.move ?_
        refine R.ix (m := i) Try.underlying55 t5 (by decide) h1.row rfl rfl (by omega) ?_
        refine R.load (u := .int .u8 ((xs.getD i 0 : Nat) : Int)) t5 h1.row rfl (u8_getD (i := i) (by first | omega | decide)) rfl (fun _ _ => trivial) ?_
        refine R.move ?_
        refine R.move ?_
        refine R.ix (m := i) Try.underlying55 t5 (by decide) h2.row rfl rfl (by omega) ?_
        refine R.load (u := .int .u8 ((ys.getD i 0 : Nat) : Int)) t5 h2.row rfl (u8_getD (i := i) (by first | omega | decide)) rfl (fun _ _ => trivial) ?_
        refine R.neq (b := !decide ((((xs.getD i 0 : Nat) : Int)) = (((ys.getD i 0 : Nat) : Int)))) rfl rfl rfl ?_
        refine R.nil ?_
        refine E.cond (b := !decide ((((xs.getD i 0 : Nat) : Int)) = (((ys.getD i 0 : Nat) : Int)))) rfl (fun hc25 => ?_) (fun hc25 => ?_)
        · replace hc25 := nT hc25
          refine E.seq ?_
          refine E.forget [] trivial (fun e => ?_)
          refine E.regionP rfl ?_
          refine R.assign ?_
          refine R.nil ?_
          refine E.ret ?_
          refine ret1 (.bool (false)) rfl rfl ⟨_, rfl, ?_⟩
          refine ⟨hE, ?_⟩
          rw [decide_eq_false (fun e => by rw [e] at hc25; omega)]
        · replace hc25 := nF hc25
          refine E.skip ?_
          refine E.forget [(0, v1), (1, v2), (5, .int .i64 ((i : Nat) : Int))] ⟨rfl, rfl, rfl, trivial⟩ (fun e => ?_)
          refine E.regionP rfl ?_
          refine R.move ?_
          refine R.addN (m := i) (n := 1) rfl rfl (by omega) ?_
          refine R.assign ?_
          refine R.nil ?_
          exact ⟨xs.length - (i + 1), by omega, i + 1, rfl, by omega, fun k hk => by rcases Nat.lt_or_ge k i with h | h; (exact hz k h); (obtain rfl : k = i := by omega); omega, h1, h2, hE, rfl, rfl, rfl, trivial⟩
      · replace hc14 := dF hc14
        refine E.exit ?_
        refine E.seq ?_
        refine E.regionP rfl ?_
        refine R.assign ?_
        refine R.nil ?_
        refine E.ret ?_
        refine ret1 (.bool (true)) rfl rfl ⟨_, rfl, ?_⟩
        refine ⟨hE, ?_⟩
        rw [decide_eq_true (eqTake (by omega) (fun k hk => hz k (by omega)))]
end Go.Proofs.Ytlplogplicgfiaa

namespace Go.Proofs.Ytlplogplicgfiaa
open Go Go.RowKit
theorem RU8.new {w : World} {v : Value} {xs : List Nat} {b : Nat} (h : RU8 w v xs) (hb : w.heap.size ≤ b) : vblk v ≠ some b := fun e => by
  obtain ⟨c, ty, q⟩ := h.blk b e; obtain ⟨h1, _⟩ := Array.getElem?_eq_some_iff.1 q; omega
theorem RU8.upN {w w' : World} {v : Value} {xs : List Nat} {b : Nat} (h : RU8 w v xs) (u : Upd (fun c => c = b) w w') (hb : vblk v ≠ some b) : RU8 w' v xs := h.up u (fun x e e1 => hb (by have e2 : x = b := e1; exact e2 ▸ e))
structure LvM (w : World) (v : Value) (us : List Value) (l : List (List Nat)) : Prop where
  sl : Sl w 55 1 v l.length us
  rows : Rows8 w us l
section
variable {w w' : World} {v : Value} {us : List Value} {l : List (List Nat)}
theorem LvM.up {X : Nat → Prop} (p : LvM w v us l) (u : Upd X w w') (hX : ∀ x, X x → ¬ PB v us x) : LvM w' v us l := ⟨p.sl.up u (fun b hb e => hX b e (.inl hb)), p.rows.up u (fun x e q => hX x e (.inr q))⟩
theorem LvM.ext (p : LvM w v us l) (u : Ext w w') : LvM w' v us l := p.up u (fun _ e => e.elim)
theorem LvM.pb (p : LvM w v us l) {x : Nat} (hx : PB v us x) : ∃ ty cs, Blk w x ty cs ∧ (ty = 55 ∨ ty = 5) := by
  rcases hx with hx | hx
  · obtain ⟨c, q⟩ := p.sl.blk hx; exact ⟨_, _, q, .inl rfl⟩
  · obtain ⟨c, q⟩ := p.rows.ub hx; exact ⟨_, _, q, .inr rfl⟩
theorem LvM.new (p : LvM w v us l) {b : Nat} (hb : w.heap.size ≤ b) : ¬ PB v us b := fun e => by obtain ⟨ty, c, q, _⟩ := p.pb e; have := q.lt; omega
theorem LvM.notT (p : LvM w v us l) {b : Nat} {ty : TypeId} {cs : Array Value} (hB : Blk w b ty cs) (hne : 55 ≠ ty ∧ 5 ≠ ty) : ¬ PB v us b := fun e => by
  obtain ⟨ty', c, q, h1⟩ := p.pb e
  have h2 := (q.inj hB).2
  rcases h1 with rfl | rfl
  · exact hne.1 h2
  · exact hne.2 h2
theorem LvM.upN {b : Nat} (p : LvM w v us l) (u : Upd (one b) w w') (hb : ¬ PB v us b) : LvM w' v us l := p.up u (fun x e => by have e1 : x = b := e; rw [e1]; exact hb)
theorem LvM.upT {b : Nat} {ty : TypeId} {cs : Array Value} (p : LvM w v us l) (u : Upd (one b) w w') (hB : Blk w b ty cs) (hne : 55 ≠ ty ∧ 5 ≠ ty) : LvM w' v us l := p.upN u (p.notT hB hne)
theorem LvM.upS {x : Value} {ty' k' m : Nat} {ds : List Value} (p : LvM w v us l) (u : Upd (fun b => vblk x = some b) w w') (hx : Sl w ty' k' x m ds) (hne : 55 ≠ ty' ∧ 5 ≠ ty') : LvM w' v us l := p.up u (fun b e => by obtain ⟨c, q⟩ := hx.blk e; exact p.notT q hne)
theorem LvM.upD {p : Nat} {vb vd : Value} {d : Dk} (h : LvM w v us l) (u : Upd (DB p vb vd) w w') (hD : DM w p vb vd d) (_ : True) : LvM w' v us l := h.up u (fun b e => by
  rcases e with rfl | e | e
  · exact h.notT hD.blk (by decide)
  · obtain ⟨c, q⟩ := hD.bls.blk e; exact h.notT q (by decide)
  · obtain ⟨c, q⟩ := hD.bds.blk e; exact h.notT q (by decide))
theorem LvM.upA {pj p pd : Nat} {vb vd vl : Value} {us' : List Value} {j : Jn} {d : Dk} (h : LvM w v us l) (u : Upd (AB pj p vb vd) w w') (hD : DM w p vb vd d) (hJ : JM w pj pd vl us' j) (_ : True) : LvM w' v us l := h.up u (fun b e => by
  rcases e with rfl | rfl | e | e
  · exact h.notT hJ.blk (by decide)
  · exact h.notT hD.blk (by decide)
  · obtain ⟨c, q⟩ := hD.bls.blk e; exact h.notT q (by decide)
  · obtain ⟨c, q⟩ := hD.bds.blk e; exact h.notT q (by decide))
theorem LvM.nil : LvM w (.slice none 0 0) [] [] := ⟨Sl.nil _ _ _, Rows8.nil⟩
theorem LvM.cell (p : LvM w v us l) {i : Nat} (hi : i < l.length) : us[i * 1 + 0]? = some (us.getD i undef) := by
  have := p.rows.len
  rw [List.getD_eq_getElem?_getD, Nat.mul_one, Nat.add_zero, List.getElem?_eq_getElem (by omega)]; rfl
end
end Go.Proofs.Ytlplogplicgfiaa

namespace Go.Proofs.Ytlplogplicgfiaa
open Go Go.RowKit
structure HoldP (j : Jn) (l : List (List Nat)) (f : Nat) : Prop where
  ok : JOK j
  fst : f = firstN j.live
  len : j.live.length = l.length
  dat : ∀ i, i < l.length → (j.live.getD i Rc0).dat = l.getD i []
  b : ∀ i, i < j.live.length → (j.live.getD i Rc0).dat.length ≤ 4032
theorem HoldP.lst {j : Jn} {l : List (List Nat)} {f : Nat} (h : HoldP j l f) : lastN j.live + 1 = f + l.length := by
  have h1 := h.fst
  have h2 := h.len
  rcases Nat.eq_zero_or_pos j.live.length with h0 | h0
  · have e : j.live = [] := List.length_eq_zero_iff.1 h0
    rw [e] at h1 h2
    rw [e]
    simp [firstN, lastN, Rc0] at *
    omega
  · have := h.ok.num (j.live.length - 1) (by omega)
    unfold lastN
    omega
theorem bytesT (w : World) {v1 v2 : Value} {xs : List Nat} (h1 : RU8 w v1 xs) (h2 : RU8 w v2 xs) (hl : xs.length ≤ 1000000) : Calls Try.prog 56 #[v1, v2] w (Ret fun r w' => Ext w w' ∧ r = .bool true) :=
  (bytes_ w h1 h2 hl).mono (fun _ _ ⟨v, e, q1, q2⟩ => ⟨v, e, q1, by rw [q2]; simp⟩)
end Go.Proofs.Ytlplogplicgfiaa

namespace Go.Proofs.Ytlplogplicgfiaa
open Go Go.RowKit
theorem Rows8.drop {w : World} {us : List Value} {l : List (List Nat)} (h : Rows8 w us l) (m : Nat) : Rows8 w (us.drop m) (l.drop m) := by
  have hl := h.len
  refine ⟨by simp [hl], fun i hi => ?_⟩
  have h1 := h.rows (m + i) (by simp at hi; omega)
  simpa only [List.getD_eq_getElem?_getD, List.getElem?_drop] using h1
end Go.Proofs.Ytlplogplicgfiaa

namespace Go.Proofs.Ytlplogplicgfiaa
open Go Go.RowKit
structure Sp where
  d : Dk
  live : List (List Nat)
  first : Nat
  pend : List Nat
  waits : Bool
  frm : Nat
  cnt : Nat
structure ShM (w : World) (p pd : Nat) (vb vd jp : Value) (s : Sp) : Prop where
  ex : ∃ vL uL vp, Blk w p 69 #[.pointer (some ⟨pd, 0, none⟩), jp, vL, .int .i64 ((s.first : Nat) : Int), vp, .bool s.waits, .int .i64 ((s.frm : Nat) : Int), .int .i64 ((s.cnt : Nat) : Int)] ∧ LvM w vL uL s.live ∧ SU8s w vp s.pend
  d : DM w pd vb vd s.d
end Go.Proofs.Ytlplogplicgfiaa

namespace Go.Proofs.Ytlplogplicgfiaa
open Go Go.RowKit
theorem cntL_pos (m : Nat) : 1 ≤ cntL m := by unfold cntL; omega
structure JInv (n : Nat) (j : Jn) (l : List (List Nat)) (f : Nat) : Prop where
  h : HoldP j l f
  free : 0 ≤ freeI n j.live
  at_ : ∀ i, i < j.live.length → (j.live.getD i Rc0).at_ < n
  tot : ∀ i, i < j.live.length → (j.live.getD i Rc0).h.total = cntL (j.live.getD i Rc0).dat.length
  byt : ∀ i, i < j.live.length → ∀ x ∈ (j.live.getD i Rc0).dat, x < 256
  down : j.down = false
  con : ∀ i, i + 1 < j.live.length → (j.live.getD (i + 1) Rc0).at_ = ((j.live.getD i Rc0).at_ + (j.live.getD i Rc0).h.total) % n
theorem totalL_app (a b : List Rc) : totalL (a ++ b) = totalL a + totalL b := by simp [totalL]
theorem JInv.len {n : Nat} {j : Jn} {l : List (List Nat)} {f : Nat} (h : JInv n j l f) : j.live.length ≤ n := by
  have h1 := totalL_ge (l := j.live) (fun i hi => by rw [h.tot i hi]; exact cntL_pos _)
  have h2 := h.free
  unfold freeI at h2
  omega
end Go.Proofs.Ytlplogplicgfiaa

namespace Go.Proofs.Ytlplogplicgfiaa
open Go Go.RowKit
def ShG (w : World) (N p : Nat) (s : Sp) (j : Jn) : Prop := ∃ pd vb vd pj vl us, ShM w p pd vb vd (.pointer (some ⟨pj, 0, none⟩)) s ∧ JM w pj pd vl us j ∧ N ≤ p ∧ N ≤ pj ∧ ∀ x, DB pd vb vd x → N ≤ x
end Go.Proofs.Ytlplogplicgfiaa

namespace Go.Proofs.Ytlplogplicgfiaa
open Go Go.RowKit
theorem ShM.up {X : Nat → Prop} {w w' : World} {p pd : Nat} {vb vd jp : Value} {s : Sp} (h : ShM w p pd vb vd jp s) (u : Upd X w w') (hX : ∀ b ty cs, Blk w b ty cs → (ty = 69 ∨ ty = 25 ∨ ty = 27 ∨ ty = 4 ∨ ty = 55 ∨ ty = 5) → ¬ X b) : ShM w' p pd vb vd jp s := by
  obtain ⟨⟨vL, uL, vp, hB, hV, hP⟩, hD⟩ := h
  refine ⟨⟨vL, uL, vp, hB.up u (hX _ _ _ hB (.inl rfl)), hV.up u (fun x hx e => ?_), hP.up u (fun x e => ?_)⟩, hD.blk.up u (hX _ _ _ hD.blk (.inr (.inl rfl))), hD.bls.up u (fun x e => ?_), hD.bds.up u (fun x e => ?_), hD.ok⟩
  · obtain ⟨ty, c, q, h1⟩ := hV.pb e
    exact hX _ _ _ q (by rcases h1 with rfl | rfl <;> simp) hx
  · obtain ⟨c, q⟩ := hP.blk e; exact hX _ _ _ q (by simp)
  · obtain ⟨c, q⟩ := hD.bls.blk e; exact hX _ _ _ q (by simp)
  · obtain ⟨c, q⟩ := hD.bds.blk e; exact hX _ _ _ q (by simp)
theorem ShG.ext {w w' : World} {N p : Nat} {s : Sp} {j : Jn} (h : ShG w N p s j) (u : Ext w w') : ShG w' N p s j := by
  obtain ⟨pd, vb, vd, pj, vl, us, h1, h2, h3⟩ := h
  exact ⟨pd, vb, vd, pj, vl, us, h1.up u (fun _ _ _ _ _ e => e.elim), h2.ext u, h3⟩
theorem ShG.upT {w w' : World} {N p b : Nat} {s : Sp} {j : Jn} {ty : TypeId} {cs : Array Value} (h : ShG w N p s j) (u : Upd (one b) w w') (hB : Blk w b ty cs) (hne : ty ≠ 69 ∧ ty ≠ 25 ∧ ty ≠ 27 ∧ ty ≠ 4 ∧ ty ≠ 55 ∧ ty ≠ 5 ∧ 86 ≠ ty ∧ 106 ≠ ty ∧ 5 ≠ ty) : ShG w' N p s j := by
  obtain ⟨pd, vb, vd, pj, vl, us, h1, h2, h3⟩ := h
  refine ⟨pd, vb, vd, pj, vl, us, h1.up u (fun x ty' cs' q h4 e => ?_), h2.upT u hB ⟨hne.2.2.2.2.2.2.1, hne.2.2.2.2.2.2.2.1, hne.2.2.2.2.2.2.2.2⟩, h3⟩
  have e1 : x = b := e
  subst e1
  have := (q.inj hB).2
  subst this
  obtain ⟨n1, n2, n3, n4, n5, n6, _⟩ := hne
  rcases h4 with h | h | h | h | h | h <;> contradiction
end Go.Proofs.Ytlplogplicgfiaa

namespace Go.Proofs.Ytlplogplicgfiaa
open Go Go.RowKit
structure RcK (n : Nat) (r : Rc) : Prop where
  tot : r.h.total = cntL r.dat.length
  len : r.dat.length ≤ 4032
  totn : r.h.total ≤ n
  number : r.h.number < 4294967296
  life : r.h.life < 4294967296
  life1 : 1 ≤ r.h.life
  first1 : 1 ≤ r.h.first
  first : r.h.first ≤ r.h.number
  byt : ∀ x ∈ r.dat, x < 256
  at_ : r.at_ < n
end Go.Proofs.Ytlplogplicgfiaa

namespace Go.Proofs.Ytlplogplicgfiaa
open Go Go.RowKit
theorem RcK.pos {n : Nat} {r : Rc} (h : RcK n r) : 0 < r.h.total := by rw [h.tot]; exact cntL_pos _
theorem data_app {rec : List Nat} : ∀ m : Nat, ((List.range m).map (dataL rec)).flatten = rec.take (48 * m)
  | 0 => by simp
  | m + 1 => by
    rw [List.range_succ, List.map_append, List.flatten_append, data_app m]
    simp only [List.map_cons, List.map_nil, List.flatten_cons, List.flatten_nil, List.append_nil, dataL]
    rw [show 48 * (m + 1) = 48 * m + 48 by omega, List.take_add]
    congr 1
    rw [List.take_eq_take_iff, List.length_drop]
    omega
def Dom (x r : Rc) : Prop := r.h.number < x.h.number ∨ (r.h.number = x.h.number ∧ r.h.life ≤ x.h.life)
theorem Dom.trans {x y z : Rc} (h1 : Dom x y) (h2 : Dom y z) : Dom x z := by unfold Dom at *; omega
end Go.Proofs.Ytlplogplicgfiaa
