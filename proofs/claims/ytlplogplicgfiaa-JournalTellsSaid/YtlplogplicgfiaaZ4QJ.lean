import Derived.Test.YtlplogplicgfiaaZ4QA
import Derived.Test.YtlplogplicgfiaaZ4QG
namespace Go.Proofs.Ytlplogplicgfiaa
open Go Go.RowKit
structure KInv (n i : Nat) (s : Sp) (j : Jn) : Prop where
  dn : s.d.n = n
  pw : s.d.pw = -1
  inv : JInv n j s.live s.first
  waits : s.waits = false
  cnt : s.cnt ≤ i
  num : s.first + s.live.length ≤ 1 + i
theorem KInv.new {n : Nat} (h : 4 ≤ n) (h2 : n ≤ 1000) : KInv n 0 { sp0 n with d := (newDk n).setPw (-1) } ⟨[], 1, 0, false⟩ := ⟨newDk_n h h2, rfl, jinv_new, rfl, Nat.le_refl _, Nat.le_refl _⟩
theorem KInv.app {n i g : Nat} {s s' : Sp} {j j' : Jn} {rec : List Nat} (hn : 0 < n) (h : KInv n i s j) (hg : s.first ≤ g) (hg2 : g ≤ s.first + s.live.length) (hl : rec.length ≤ 4032) (hb : ∀ x ∈ rec, x < 256) (hi : i ≤ 1000) (hr : GRec s s' j j' g rec) : KInv n (i + 1) s' j' := by
  have hnum := h.num; have hcnt := h.cnt; have hinv := h.inv; rw [← h.dn] at hinv; rcases hr with ⟨_, rfl, rfl⟩ | ⟨d', q1, rfl⟩
  · exact ⟨h.dn, h.pw, h.inv, h.waits, by show s.cnt + 1 ≤ _; omega, by show s.first + s.live.length ≤ _; omega⟩
  · obtain ⟨_, _, _, q2, q3, q4⟩ := append_inv (by rw [h.dn]; exact hn) hinv hg hg2 hl hb (by omega) q1; refine ⟨q3.trans h.dn, (q4 (by rw [h.pw]; decide)).trans h.pw, by rw [← h.dn]; exact q2, h.waits, by show s.cnt + 1 ≤ _; omega, ?_⟩; show g + (s.live.drop (g - s.first) ++ [rec]).length ≤ _; simp only [List.length_append, List.length_drop, List.length_cons, List.length_nil]; omega
end Go.Proofs.Ytlplogplicgfiaa

namespace Go.Proofs.Ytlplogplicgfiaa
open Go Go.RowKit
theorem NoJ.upT {w w' : World} {v : Value} {b : Nat} {ty : TypeId} {cs : Array Value} (h : NoJ w v) (u : Upd (one b) w w') (hB : Blk w b ty cs) (hne : 86 ≠ ty) : NoJ w' v := h.elim .inl (fun ⟨c, e, hC⟩ => .inr ⟨c, e, hC.upT u hB hne⟩)
end Go.Proofs.Ytlplogplicgfiaa

namespace Go.Proofs.Ytlplogplicgfiaa
open Go Go.RowKit
structure Act where
  kd : Nat
  n : Int
  fi : Int
  dat : List Nat
def Act0 : Act := ⟨0, 0, 0, []⟩
abbrev actC (a : Act) (u : Value) : List Value := [.int .u8 (a.kd : Int), .int .i64 a.n, .int .i64 a.fi, u]
def actsC : List Value → List Act → List Value
  | u :: us, a :: l => actC a u ++ actsC us l
  | _, _ => []
theorem actsC_len : ∀ {us : List Value} {l : List Act}, us.length = l.length → (actsC us l).length = l.length * 4
  | [], [], _ => rfl
  | u :: us, a :: l, h => by
    have := actsC_len (us := us) (l := l) (by simpa using h); simp only [actsC, List.length_append, List.length_cons, this]; simp; omega
  | [], _ :: _, h => by simp at h
  | _ :: _, [], h => by simp at h
theorem acts_take : ∀ {us : List Value} {l : List Act} {i : Nat}, us.length = l.length → i < l.length → ((actsC us l).drop (i * 4)).take 4 = actC (l.getD i Act0) (us.getD i undef)
  | u :: us, a :: l, 0, _, _ => rfl
  | u :: us, a :: l, i + 1, h, hi => by
    have ih := acts_take (us := us) (l := l) (i := i) (by simpa using h) (by simpa using hi); rw [show (i + 1) * 4 = (actC a u).length + i * 4 by simp; omega]; show ((actC a u ++ actsC us l).drop _).take 4 = _; rw [← List.drop_drop, List.drop_left, ih]; rfl
  | [], _ :: _, _, h, _ => by simp at h
  | _, [], _, _, hi => by simp at hi
def okA2 (a : Act) : Prop := a.kd < 256 ∧ -9223372036854775808 ≤ a.n ∧ a.n ≤ 9223372036854775807 ∧ -9223372036854775808 ≤ a.fi ∧ a.fi ≤ 9223372036854775807 ∧ (∀ x ∈ a.dat, x < 256) ∧ a.dat.length ≤ 100000
structure ActM (X : Nat → Prop) (w : World) (v : Value) (us : List Value) (l : List Act) : Prop where
  row : Row w 4 v l.length (actsC us l)
  len : us.length = l.length
  rows : ∀ i, i < l.length → RU8 w (us.getD i undef) (l.getD i Act0).dat
  rx : ∀ b, vblk v = some b → ¬ X b
  rxs : ∀ i, i < l.length → ∀ b, vblk (us.getD i undef) = some b → ¬ X b
  ok : ∀ i, i < l.length → okA2 (l.getD i Act0)
theorem ActM.ext {X : Nat → Prop} {w w' : World} {v : Value} {us : List Value} {l : List Act} (h : ActM X w v us l) (u : Upd X w w') : Row w' 4 v l.length (actsC us l) := Row.up h.row u h.rx
theorem ActM.get {X : Nat → Prop} {w w' : World} {v : Value} {us : List Value} {l : List Act} (h : ActM X w v us l) (u : Upd X w w') {i : Nat} (hi : i < l.length) : RU8 w' (us.getD i undef) (l.getD i Act0).dat := (h.rows i hi).up u (h.rxs i hi)
theorem ActM.one {X : Nat → Prop} {w : World} {v : Value} {us : List Value} {l : List Act} (h : ActM X w v us l) {i : Nat} (hi : i < l.length) : (us.getD i undef).oneCell' = true := (h.rows i hi).one
def PJ (w : World) (N b9 b900 : Nat) (vb vd jv : Value) (dc : Dk) (er : Nat) : Option Jn → Prop
  | none => er ≠ 0 ∧ er ≤ 1000 ∧ jv = .pointer none ∧ ∃ rb rd, Blk w b9 93 (rj0 rb rd dc) ∧ RD w rb rd dc ∧ (∀ x, vblk rd = some x → ¬ DB b900 vb vd x)
  | some j => er = 0 ∧ ∃ pj vl us rb rd vR vP uR, jv = .pointer (some ⟨pj, 0, none⟩) ∧ JM w pj b900 vl us j ∧ N ≤ pj ∧ Blk w b9 93 (rjC rb rd vR vP dc j) ∧ RJ w rb rd vR vP uR dc j ∧ (∀ x, vblk rd = some x → ¬ DB b900 vb vd x) ∧ JG dc.n j
structure PX (w : World) (N b9 b900 : Nat) (vb vd jv : Value) (n : Nat) (dc : Dk) (er : Nat) (jo : Option Jn) : Prop where
  d : DM w b900 vb vd dc
  dn : dc.n = n
  pw : dc.pw ≤ 9223372036854775807
  pw2 : -9223372036854775808 ≤ dc.pw
  n9 : N ≤ b9
  j : PJ w N b9 b900 vb vd jv dc er jo
theorem OF.ndb {w : World} {a b vb vd : Value} {p : Nat} {d : Dk} (h : OF w a b) (hD : DM w p vb vd d) (ha : ∀ x, vblk a = some x → ¬ DB p vb vd x) : ∀ x, vblk b = some x → ¬ DB p vb vd x := fun x hx e => by
  rcases h x hx with h1 | h1
  · exact ha x h1 e
  · rcases e with rfl | e | e
    · have := hD.blk.lt; omega
    · have := hD.bls.lt x e; omega
    · have := hD.bds.lt x e; omega
theorem writeL_pw2 : ∀ {L : List (Nat × List Nat)} {d : Dk}, -9223372036854775808 ≤ d.pw → -9223372036854775808 ≤ (writeL L d).1.pw
  | [], d, h => h
  | (i, b) :: L, d, h => by
    simp only [writeL]
    split
    · exact writeL_pw2 (Dk.write_pw2 _ _ _ h)
    · exact Dk.write_pw2 _ _ _ h
theorem mendL_pw2 : ∀ {J : List (Nat × List Nat)} {d : Dk} {m : Nat}, -9223372036854775808 ≤ d.pw → -9223372036854775808 ≤ (mendL J d m).1.pw
  | [], d, m, h => h
  | (i, b) :: J, d, m, h => by
    simp only [mendL]
    split
    · exact mendL_pw2 h
    · split
      · exact mendL_pw2 (Dk.write_pw2 _ _ _ h)
      · exact Dk.write_pw2 _ _ _ h
theorem mendL_pw1 : ∀ {J : List (Nat × List Nat)} {d : Dk} {m : Nat}, d.pw ≤ 9223372036854775807 → (mendL J d m).1.pw ≤ 9223372036854775807
  | [], d, m, h => h
  | (i, b) :: J, d, m, h => by
    simp only [mendL]
    split
    · exact mendL_pw1 h
    · split
      · exact mendL_pw1 (Dk.write_pw _ _ _ (by decide) h)
      · exact Dk.write_pw _ _ _ (by decide) h
theorem openL_pws {d d' : Dk} {e : Nat} {o : Option Jn} (h : openL d = (d', e, o)) (h1 : d.pw ≤ 9223372036854775807) (h2 : -9223372036854775808 ≤ d.pw) : d'.pw ≤ 9223372036854775807 ∧ -9223372036854775808 ≤ d'.pw := by
  have hm := mendL_pw1 (J := jobsL d.n ((openC d).getD [])) (d := d) (m := 0) h1; have hm2 := mendL_pw2 (J := jobsL d.n ((openC d).getD [])) (d := d) (m := 0) h2; unfold openL at h
  split at h
  · cases h; exact ⟨h1, h2⟩
  · split at h
    · cases h; exact ⟨h1, h2⟩
    · rename_i l hl
      rw [hl] at hm hm2; simp only [Option.getD_some] at hm hm2
      split at h
      · cases h; exact ⟨h1, h2⟩
      · cases hx : mendL (jobsL d.n l) d 0 with
        | mk d2 x =>
          obtain ⟨m, b⟩ := x; rw [hx] at h hm hm2; cases b <;> (cases h; exact ⟨hm, hm2⟩)
theorem appendL_G {d d' : Dk} {j j' : Jn} {rec : List Nat} {first : Int} {n' e' : Nat} (hn : 0 < d.n) (hg : JG d.n j) (hb : ∀ x ∈ rec, x < 256) (h1 : d.pw ≤ 9223372036854775807) (h2 : -9223372036854775808 ≤ d.pw) (h : appendL d j rec first = (d', j', n', e')) : d'.n = d.n ∧ JG d'.n j' ∧ d'.pw ≤ 9223372036854775807 ∧ -9223372036854775808 ≤ d'.pw ∧ n' ≤ 4294967296 ∧ e' ≤ 1000 := by
  unfold appendL at h; have hlst := hg.lst; have hmx := hg.ok.max; have hf1 := hg.ok.fst
  split at h
  · cases h; exact ⟨rfl, hg, h1, h2, by omega, by omega⟩
  · split at h
    · cases h; exact ⟨rfl, hg, h1, h2, by omega, by omega⟩
    · split at h
      · cases h; exact ⟨rfl, hg, h1, h2, by omega, by omega⟩
      · split at h
        · cases h; exact ⟨rfl, hg, h1, h2, by omega, by omega⟩
        · rename_i c1 c2 c3 c4
          have hwn := writeL_n (L := ajobs d.n (newR d.n j rec first.toNat)) (d := d); have hw1 := writeL_pw (z := 9223372036854775807) (by decide) (L := ajobs d.n (newR d.n j rec first.toNat)) (d := d) h1; have hw2 := writeL_pw2 (L := ajobs d.n (newR d.n j rec first.toNat)) (d := d) h2
          cases hw : writeL (ajobs d.n (newR d.n j rec first.toNat)) d with
          | mk d2 b =>
            rw [hw] at h hwn hw1 hw2; have hwn' : d2.n = d.n := hwn
            cases b with
            | true =>
              cases h; have := (newG hn d.n_le hg (f := first.toNat) (by omega) (by omega) (by omega) hb (by omega) (by omega)).1; refine ⟨hwn', by rw [hwn']; exact this, hw1, hw2, by omega, by omega⟩
            | false =>
              cases h; refine ⟨hwn', by rw [hwn']; exact ⟨⟨hg.ok.len, hg.ok.tot, hg.ok.num, hg.ok.fst, hg.ok.max, hg.ok.life⟩, hg.free, hg.at_, hg.tot, hg.len, hg.byt⟩, hw1, hw2, by omega, by omega⟩
theorem n_bl {d : Dk} {n : Nat} (h : d.n = n) (hn : 0 < n) : d.bl.length = 2 * n ∧ d.bad.length = 2 * n ∧ n ≤ 1000 := by
  have := Dk.n_pos (d := d) (by omega); omega
def blkOf (xs : List Nat) : List Nat := xs.take 64 ++ List.replicate (64 - (xs.take 64).length) 0
theorem blkOf_ok {xs : List Nat} (h : ∀ x ∈ xs, x < 256) : BlockP (blkOf xs) := by
  refine ⟨?_, fun x hx => ?_⟩
  · unfold blkOf; simp only [List.length_append, List.length_take, List.length_replicate]; omega
  · unfold blkOf at hx; rcases List.mem_append.1 hx with h1 | h1
    · exact h x (List.mem_of_mem_take h1)
    · rw [List.eq_of_mem_replicate h1]; decide
end Go.Proofs.Ytlplogplicgfiaa

namespace Go.Proofs.Ytlplogplicgfiaa
open Go Go.RowKit
theorem lput_blk (xs : List Nat) : lput zeroB 0 (xs.take 64) = blkOf xs := by
  unfold lput blkOf; rw [List.take_zero, List.nil_append, Nat.zero_add]
  congr 1
  show (List.replicate 64 0).drop _ = _; rw [List.drop_replicate]
theorem block_ (w : World) {v : Value} {xs : List Nat} (hr : U8s w v xs) (hb : ∀ x ∈ xs, x < 256) : Calls Try.prog 47 #[v] w (Ret fun r w' => Ext w w' ∧ r = .agg (blkV (blkOf xs))) := by
  refine calls_E (args := [v]) 8 Try.func47 rfl rfl (by simp) ?_; have hE : Ext w w := Upd.refl w; refine E.seq ?_; refine E.regionP rfl ?_; refine R.alloc t26 nofun ?_; intro b2 w1 hb2 hx1 hB2; replace hb2 := Nat.le_trans hE.size hb2; replace hE := hE.ext hx1; replace hB2 : Blk _ b2 26 (Array.replicate 64 (.int .u8 0)) := hB2; rw [← zeroV] at hB2; refine R.nil ?_; refine E.seq ?_; refine E.regionP rfl ?_; refine R.alloc t26 nofun ?_; intro b3 w2 hb3 hx2 hB3; have ne2_3 : b2 ≠ b3 := by have := hB2.lt; omega
  replace hb3 := Nat.le_trans hE.size hb3; replace hB2 := hB2.ext hx2; replace hE := hE.ext hx2; replace hB3 : Blk _ b3 26 (Array.replicate 64 (.int .u8 0)) := hB3; rw [← zeroV] at hB3; refine R.nil ?_; refine E.seq ?_; refine E.regionP rfl ?_; refine R.slcA (l := 0) (r := 64) Try.underlying26 t5 rfl rfl rfl (by decide) (by decide) (by decide) ?_; refine R.move ?_; refine R.copy (b := b3) (off := 0 + 0) (dl := 64 - 0) (m := xs.length) (cs := u8s xs) Try.underlying55 t5 hB3 (Row.ext hr hE) u8s_one rfl rfl (by rw [blkV_size zeroB_ok.1]; decide) nofun ?_; intro w42 hU42 hs42 hN42; replace hB2 := hB2.up hU42 (fun h => ne2_3 h); replace hE := hE.own hU42 hb3; have et : (u8s xs).take (64 - 0) = u8s (xs.take 64) := by unfold u8s; rw [← List.map_take]
  rw [et, put_blk (by rw [zeroB_ok.1, List.length_take]; omega)] at hN42; replace hB3 : Blk w42 b3 26 (blkV (blkOf xs)) := by rw [← lput_blk]; exact hN42
  refine R.nil ?_; refine E.seq ?_; refine E.regionP rfl ?_; refine R.loadA t26 hB3 rfl (blkV_size (blkOf_ok hb).1) rfl trivial ?_; refine R.storeA t26 hB2 rfl rfl (blkV_size zeroB_ok.1) (blkV_size (blkOf_ok hb).1) blkV_ones nofun ?_; intro w3 hU3 hs3 hN3; replace hB3 := hB3.up hU3 (fun h => ne2_3 h.symm); replace hE := hE.own hU3 hb2; replace hB2 : Blk _ b2 26 (blkV ((blkOf xs))) := hN3; refine R.nil ?_; refine E.ret ?_; refine retA  t26 hB2 (blkV_size (blkOf_ok hb).1) rfl rfl ⟨_, rfl, ?_⟩; exact ⟨hE, rfl⟩
end Go.Proofs.Ytlplogplicgfiaa

namespace Go.Proofs.Ytlplogplicgfiaa
open Go Go.RowKit
theorem RD.upQ {w w' : World} {rb rd vb vd : Value} {p : Nat} {r d : Dk} (h : RD w rb rd r) (u : Upd (DB p vb vd) w w') (hD : DM w p vb vd d) (hq : ∀ x, vblk rd = some x → ¬ DB p vb vd x) : RD w' rb rd r := ⟨h.bls.upD u hD (by decide), h.bds.up u hq, h.ok⟩
theorem RD.upQA {w w' : World} {rb rd vb vd : Value} {p pj : Nat} {r d : Dk} {cs : Array Value} (h : RD w rb rd r) (u : Upd (AB pj p vb vd) w w') (hD : DM w p vb vd d) (hB : Blk w pj 86 cs) (hq : ∀ x, vblk rd = some x → ¬ DB p vb vd x) : RD w' rb rd r := by
  have k : ∀ {ty : TypeId} {k n : Nat} {v : Value} {c : List Value}, (86 ≠ ty) → Sl w ty k v n c → (∀ x, vblk v = some x → ¬ DB p vb vd x) → Sl w' ty k v n c := fun ht hs h1 => hs.up u (fun b hb e => by
    obtain ⟨c2, q⟩ := hs.blk hb; rcases e with rfl | e
    · exact ht (hB.inj q).2
    · exact h1 b hb e)
  refine ⟨k (by decide) h.bls (fun x hx e => ?_), k (by decide) h.bds hq, h.ok⟩; obtain ⟨c, q⟩ := h.bls.blk hx; exact hD.notDB q (by decide) e
theorem RJ.upQ {w w' : World} {rb rd vb vd vR vP : Value} {uR : List Value} {p : Nat} {r d : Dk} {j : Jn} (h : RJ w rb rd vR vP uR r j) (u : Upd (DB p vb vd) w w') (hD : DM w p vb vd d) (hq : ∀ x, vblk rd = some x → ¬ DB p vb vd x) : RJ w' rb rd vR vP uR r j := ⟨h.d.upQ u hD hq, h.recs.upD u hD trivial, h.pls.upD u hD (by decide)⟩
theorem RJ.upQA {w w' : World} {rb rd vb vd vR vP : Value} {uR : List Value} {p pj : Nat} {r d : Dk} {j : Jn} {cs : Array Value} (h : RJ w rb rd vR vP uR r j) (u : Upd (AB pj p vb vd) w w') (hD : DM w p vb vd d) (hB : Blk w pj 86 cs) (hq : ∀ x, vblk rd = some x → ¬ DB p vb vd x) : RJ w' rb rd vR vP uR r j := by
  have k : ∀ {ty : TypeId} {k n : Nat} {v : Value} {c : List Value}, (86 ≠ ty ∧ 25 ≠ ty ∧ 27 ≠ ty ∧ 4 ≠ ty) → Sl w ty k v n c → Sl w' ty k v n c := fun ht hs => hs.up u (fun b hb e => by
    obtain ⟨c2, q⟩ := hs.blk hb; rcases e with rfl | e
    · exact ht.1 (hB.inj q).2
    · exact hD.notDB q ht.2 e)
  exact ⟨h.d.upQA u hD hB hq, ⟨k (by decide) h.recs.sl, h.recs.rows.len, fun i hi => k (by decide) (h.recs.rows.rows i hi)⟩, k (by decide) h.pls⟩
theorem PX.ext {w w' : World} {N b9 b900 n er : Nat} {vb vd jv : Value} {dc : Dk} {jo : Option Jn} (h : PX w N b9 b900 vb vd jv n dc er jo) (u : Ext w w') : PX w' N b9 b900 vb vd jv n dc er jo := by
  refine ⟨h.d.ext u, h.dn, h.pw, h.pw2, h.n9, ?_⟩; have hj := h.j
  cases jo with
  | none =>
    obtain ⟨h1, h2, h3, rb, rd, h4, h5, h6⟩ := hj; exact ⟨h1, h2, h3, rb, rd, h4.ext u, h5.ext u, h6⟩
  | some j =>
    obtain ⟨h1, pj, vl, us, rb, rd, vR, vP, uR, h2, h3, h4, h5, h6, h7, h8⟩ := hj; exact ⟨h1, pj, vl, us, rb, rd, vR, vP, uR, h2, h3.ext u, h4, h5.ext u, h6.ext u, h7, h8⟩
theorem rappendP (w : World) {rb rd vR vP : Value} {uR : List Value} {d d' : Dk} {j j' : Jn} {v : Value} {rec : List Nat} {first : Int} {n e : Nat} (hG : RJ w rb rd vR vP uR d j) (hg : JG d.n j) (hn : 0 < d.n) (hr : U8s w v rec) (hrb : ∀ x ∈ rec, x < 256) (hrl0 : rec.length ≤ 9223372036854775807) (hpw0 : d.pw ≤ 9223372036854775807) (hpw02 : -9223372036854775808 ≤ d.pw) (hfi : -9223372036854775808 ≤ first) (hfi2 : first ≤ 9223372036854775807) (hp : appendL d j rec first = (d', j', n, e)) :
    Calls Try.prog 46 #[.agg (rjC rb rd vR vP d j), v, .int .i64 first] w (Ret fun x w' => Ext w w' ∧ RARes w w' rd x (d', j', n, e)) := by rw [← hp]; exact rappend_ w hG hg hn hr hrb hrl0 hpw0 hpw02 hfi hfi2
theorem DM.setTr2 {w w' : World} {p : Nat} {vb vd : Value} {d : Dk} {b : Bool} (h : DM w p vb vd d) (u : Upd (one p) w w') (hN : Blk w' p 25 #[vb, vd, .int .i64 d.pw, .bool b]) : DM w' p vb vd { d with tr := b } :=
  ⟨hN, h.bls.upT u h.blk (by decide), h.bds.upT u h.blk (by decide), h.ok⟩
def POJ (w : World) (N b900 : Nat) (jv : Value) : Option Jn → Prop
  | none => jv = .pointer none
  | some j => ∃ pj vl us, jv = .pointer (some ⟨pj, 0, none⟩) ∧ JM w pj b900 vl us j ∧ N ≤ pj
theorem POJ.ext {w w' : World} {N b900 : Nat} {jv : Value} {o : Option Jn} (h : POJ w N b900 jv o) (u : Ext w w') : POJ w' N b900 jv o := by
  cases o with
  | none => exact h
  | some j =>
    obtain ⟨pj, vl, us, h1, h2, h3⟩ := h; exact ⟨pj, vl, us, h1, h2.ext u, h3⟩
theorem POJ.upT {w w' : World} {N b900 b : Nat} {jv : Value} {o : Option Jn} {ty : TypeId} {cs : Array Value} (h : POJ w N b900 jv o) (u : Upd (one b) w w') (hB : Blk w b ty cs) (hne : 86 ≠ ty ∧ 106 ≠ ty ∧ 5 ≠ ty) : POJ w' N b900 jv o := by
  cases o with
  | none => exact h
  | some j =>
    obtain ⟨pj, vl, us, h1, h2, h3⟩ := h; exact ⟨pj, vl, us, h1, h2.upT u hB hne, h3⟩
theorem POJ.one {w : World} {N b900 : Nat} {jv : Value} {o : Option Jn} (h : POJ w N b900 jv o) : jv.oneCell' = true := by
  cases o with
  | none => obtain rfl := (show jv = .pointer none from h); rfl
  | some j => obtain ⟨pj, vl, us, rfl, _, _⟩ := h; rfl
theorem openG (w : World) {N b900 : Nat} {vb vd : Value} {d d' : Dk} {e : Nat} {o : Option Jn} (hD : DM w b900 vb vd d) (hpw0 : d.pw ≤ 9223372036854775807) (hp : openL d = (d', e, o)) (hN : N ≤ w.heap.size) :
    Calls Try.prog 39 #[.pointer (some ⟨b900, 0, none⟩)] w (Ret fun r w' => Upd (DB b900 vb vd) w w' ∧ DM w' b900 vb vd d' ∧ ∃ jv, r = .tuple #[jv, .int .i64 (e : Int)] ∧ POJ w' N b900 jv o) := by
  refine (openP w hD hpw0 hp).mono ?_; rintro en w' ⟨v, hv, h1, h2, h3⟩; refine ⟨v, hv, h1, h2, ?_⟩
  cases o with
  | none => exact ⟨_, h3, rfl⟩
  | some j =>
    obtain ⟨pj, vl, us, h4, h5, h6⟩ := h3; exact ⟨_, h4, pj, vl, us, rfl, h5, Nat.le_trans hN h6⟩
def RT (w : World) (rb rd c4 c5 c6 c7 c8 c9 : Value) (d : Dk) : Option Jn → Prop
  | none => c4 = .slice none 0 0 ∧ c5 = .slice none 0 0 ∧ c6 = .int .i64 ((0 : Nat) : Int) ∧ c7 = .int .i64 ((0 : Nat) : Int) ∧ c8 = .int .i64 ((0 : Nat) : Int) ∧ c9 = .bool false
  | some j => ∃ uR, c6 = .int .i64 ((firstN j.live : Nat) : Int) ∧ c7 = .int .i64 (j.life : Int) ∧ c8 = .int .i64 (j.mended : Int) ∧ c9 = .bool j.down ∧ RJ w rb rd c4 c5 uR d j
theorem RT.ext {w w' : World} {rb rd c4 c5 c6 c7 c8 c9 : Value} {d : Dk} {o : Option Jn} (h : RT w rb rd c4 c5 c6 c7 c8 c9 d o) (u : Ext w w') : RT w' rb rd c4 c5 c6 c7 c8 c9 d o := by
  cases o with
  | none => exact h
  | some j =>
    obtain ⟨uR, h1, h2, h3, h4, h5⟩ := h; exact ⟨uR, h1, h2, h3, h4, h5.ext u⟩
theorem RT.upT {w w' : World} {b : Nat} {rb rd c4 c5 c6 c7 c8 c9 : Value} {d : Dk} {o : Option Jn} {ty : TypeId} {cs : Array Value} (h : RT w rb rd c4 c5 c6 c7 c8 c9 d o) (u : Upd (one b) w w') (hB : Blk w b ty cs) (hne : 26 ≠ ty ∧ 4 ≠ ty ∧ 55 ≠ ty ∧ 5 ≠ ty ∧ 3 ≠ ty) : RT w' rb rd c4 c5 c6 c7 c8 c9 d o := by
  cases o with
  | none => exact h
  | some j =>
    obtain ⟨uR, h1, h2, h3, h4, h5⟩ := h; exact ⟨uR, h1, h2, h3, h4, h5.upT u hB hne⟩
theorem ropenG (w : World) {rb rd : Value} {r d' : Dk} {e : Nat} {o : Option Jn} (hR : RD w rb rd r) (hbl : r.bl.length ≤ 1000000) (hpw : r.pw ≤ 9223372036854775807) (hpw2 : -9223372036854775808 ≤ r.pw) (ho : openL r = (d', e, o)) :
    Calls Try.prog 45 #[.agg #[rb, rd, .int .i64 r.pw, .bool r.tr]] w (Ret fun x w' => Ext w w' ∧ ∃ rb2 rd2 c4 c5 c6 c7 c8 c9, x = .tuple #[.agg #[rb2, rd2, .int .i64 d'.pw, .bool d'.tr, c4, c5, c6, c7, c8, c9], .int .i64 (e : Int)] ∧ RD w' rb2 rd2 d' ∧ OF w rd rd2 ∧ (c4.oneCell' = true ∧ c5.oneCell' = true ∧ c6.oneCell' = true ∧ c7.oneCell' = true ∧ c8.oneCell' = true ∧ c9.oneCell' = true) ∧ RT w' rb2 rd2 c4 c5 c6 c7 c8 c9 d' o) := by
  refine (ropenP w hR hbl hpw hpw2 ho).mono ?_; rintro en w' ⟨v, hv, h1, h2⟩; refine ⟨v, hv, h1, ?_⟩
  cases o with
  | none =>
    obtain ⟨rb2, rd2, h3, h4, h5⟩ := h2; exact ⟨rb2, rd2, _, _, _, _, _, _, h3, h4, h5, ⟨rfl, rfl, rfl, rfl, rfl, rfl⟩, rfl, rfl, rfl, rfl, rfl, rfl⟩
  | some j =>
    obtain ⟨rb2, rd2, vR, vP, uR, h3, h4, h5⟩ := h2; exact ⟨rb2, rd2, _, _, _, _, _, _, h3, h4.d, h5, ⟨h4.recs.sl.one, h4.pls.one, rfl, rfl, rfl, rfl⟩, uR, rfl, rfl, rfl, rfl, h4⟩
theorem PX.of {w : World} {N b9 b900 n er : Nat} {vb vd jv rb rd c4 c5 c6 c7 c8 c9 : Value} {dc : Dk} {o : Option Jn} (hD : DM w b900 vb vd dc) (hn : dc.n = n) (h1 : dc.pw ≤ 9223372036854775807) (h2 : -9223372036854775808 ≤ dc.pw) (h9 : N ≤ b9) (hB : Blk w b9 93 #[rb, rd, .int .i64 dc.pw, .bool dc.tr, c4, c5, c6, c7, c8, c9]) (hR : RD w rb rd dc) (hrd : ∀ x, vblk rd = some x → ¬ DB b900 vb vd x) (hO : POJ w N b900 jv o) (hT : RT w rb rd c4 c5 c6 c7 c8 c9 dc o) (hp : (er = 0 ∧ 0 < n ∧ ∃ j, o = some j ∧ JG dc.n j) ∨ (er ≠ 0 ∧ er ≤ 1000 ∧ o = none)) : PX w N b9 b900 vb vd jv n dc er o := by
  refine ⟨hD, hn, h1, h2, h9, ?_⟩; rcases hp with ⟨rfl, _, j, rfl, hg⟩ | ⟨he0, he1, rfl⟩
  · obtain ⟨pj, vl, us, h3, h4, h5⟩ := hO; obtain ⟨uR, rfl, rfl, rfl, rfl, h6⟩ := hT; exact ⟨rfl, pj, vl, us, rb, rd, c4, c5, uR, h3, h4, h5, hB, h6, hrd, hg⟩
  · obtain ⟨rfl, rfl, rfl, rfl, rfl, rfl⟩ := hT; exact ⟨he0, he1, hO, rb, rd, hB, hR, hrd⟩
def zW (a : Int) : Int := IntKind.i64.wrap a
theorem R.addW {P : Program} {ops : Array Oper} {S : Bool → Nat → Prop} {dr : Bool} {B : List Nat} {F : Env → World → Prop} {rest : List Oper} {e : Env} {w : World} {d : Tmp} {ty : TypeId} {pos : String} {aft : Array Edge} {t t' : TypeId} {x y : Operand} {m n : Int} (hx : ev e x = .int .i64 m) (hy : ev e y = .int .i64 n)
    (h : wpR P ops S dr (kind B) F rest (upd e d (.int .i64 (zW (m + n)))) w) : wpR P ops S dr (kind B) F (⟨some d, .binOp .add t x y t', ty, pos, aft, none⟩ :: rest) e w :=
  R.bin hx hy _ (fun w => by simp [binOp, Op.intArith, zW]) h
theorem n_bad {d : Dk} {db : List Bool} (h : db.length = d.bad.length) : ({ d with bad := db } : Dk).n = d.n := by unfold Dk.n; simp only [h]
theorem two_at {a b : Int} {k : Nat} (hk : k < 2) : [Value.int .i64 a, Value.int .i64 b][k * 1 + 0]? = some (.int .i64 (if k = 0 then a else b)) := by
  rcases (show k = 0 ∨ k = 1 by omega) with rfl | rfl <;> rfl
end Go.Proofs.Ytlplogplicgfiaa
