import Derived.Test.YtlplogplicgfiaaZ4KL
import Derived.Test.YtlplogplicgfiaaZ4KD
namespace Go.Proofs.Ytlplogplicgfiaa
open Go Go.RowKit
theorem ShM.up {X : Nat → Prop} {w w' : World} {p pd : Nat} {vb vd jp : Value} {s : Sp} (h : ShM w p pd vb vd jp s) (u : Upd X w w') (hX : ∀ b ty cs, Blk w b ty cs → (ty = 69 ∨ ty = 25 ∨ ty = 27 ∨ ty = 4 ∨ ty = 55 ∨ ty = 5) → ¬ X b) : ShM w' p pd vb vd jp s := by
  obtain ⟨⟨vL, uL, vp, hB, hV, hP⟩, hD⟩ := h; refine ⟨⟨vL, uL, vp, hB.up u (hX _ _ _ hB (.inl rfl)), hV.up u (fun x hx e => ?_), hP.up u (fun x e => ?_)⟩, hD.blk.up u (hX _ _ _ hD.blk (.inr (.inl rfl))), hD.bls.up u (fun x e => ?_), hD.bds.up u (fun x e => ?_), hD.ok⟩
  · obtain ⟨ty, c, q, h1⟩ := hV.pb e; exact hX _ _ _ q (by rcases h1 with rfl | rfl <;> simp) hx
  · obtain ⟨c, q⟩ := hP.blk e; exact hX _ _ _ q (by simp)
  · obtain ⟨c, q⟩ := hD.bls.blk e; exact hX _ _ _ q (by simp)
  · obtain ⟨c, q⟩ := hD.bds.blk e; exact hX _ _ _ q (by simp)
theorem ShG.ext {w w' : World} {N p : Nat} {s : Sp} {j : Jn} (h : ShG w N p s j) (u : Ext w w') : ShG w' N p s j := by
  obtain ⟨pd, vb, vd, pj, vl, us, h1, h2, h3⟩ := h; exact ⟨pd, vb, vd, pj, vl, us, h1.up u (fun _ _ _ _ _ e => e.elim), h2.ext u, h3⟩
theorem ShG.upT {w w' : World} {N p b : Nat} {s : Sp} {j : Jn} {ty : TypeId} {cs : Array Value} (h : ShG w N p s j) (u : Upd (one b) w w') (hB : Blk w b ty cs) (hne : ty ≠ 69 ∧ ty ≠ 25 ∧ ty ≠ 27 ∧ ty ≠ 4 ∧ ty ≠ 55 ∧ ty ≠ 5 ∧ 86 ≠ ty ∧ 106 ≠ ty ∧ 5 ≠ ty) : ShG w' N p s j := by
  obtain ⟨pd, vb, vd, pj, vl, us, h1, h2, h3⟩ := h; refine ⟨pd, vb, vd, pj, vl, us, h1.up u (fun x ty' cs' q h4 e => ?_), h2.upT u hB ⟨hne.2.2.2.2.2.2.1, hne.2.2.2.2.2.2.2.1, hne.2.2.2.2.2.2.2.2⟩, h3⟩; have e1 : x = b := e; subst e1; have := (q.inj hB).2; subst this; obtain ⟨n1, n2, n3, n4, n5, n6, _⟩ := hne; rcases h4 with h | h | h | h | h | h <;> contradiction
theorem append_inv {d d' : Dk} {j j' : Jn} {l : List (List Nat)} {f g k : Nat} {rec : List Nat} (hd : 0 < d.n) (h : JInv d.n j l f) (hg : f ≤ g) (hg2 : g ≤ f + l.length) (hrec : rec.length ≤ 4032) (hb : ∀ x ∈ rec, x < 256) (hm : f + l.length ≤ 4294967295)
    (ha : appendL d j rec (g : Int) = (d', j', k, 0)) : (cntL rec.length : Int) ≤ freeI d.n j.live ∧ writeL (ajobs d.n (newR d.n j rec g)) d = (d', true) ∧ j' = ⟨j.live.drop (g - firstN j.live) ++ [newR d.n j rec g], j.life, j.mended, j.down⟩ ∧ JInv d.n j' (l.drop (g - f) ++ [rec]) g ∧ d'.n = d.n ∧ (d.pw < 0 → d'.pw = d.pw) := by
  have hlst := h.h.lst; have hfst := h.h.fst; rcases (show freeI d.n j.live < (cntL rec.length : Int) ∨ (cntL rec.length : Int) ≤ freeI d.n j.live by omega) with hfr | hfr
  · unfold appendL at ha; rw [if_neg (by rw [h.down]; simp), if_neg (by omega), if_neg (by omega), if_pos (.inl hfr)] at ha; simp at ha
  · cases hw : writeL (ajobs d.n (newR d.n j rec g)) d with
    | mk d2 b =>
      have hA := appendL_w (d := d) (j := j) (rec := rec) (f := g) h.down (by omega) (by omega) (by omega) hw; rw [ha] at hA
      cases b with
      | false => simp at hA
      | true =>
        simp only [if_true, Prod.mk.injEq] at hA; obtain ⟨rfl, rfl, _⟩ := hA; have hn := writeL_n (L := ajobs d.n (newR d.n j rec g)) (d := d); rw [hw] at hn; refine ⟨hfr, rfl, rfl, newJ_inv hd h hg hg2 hrec hb hm hfr, hn, fun hp => ?_⟩; have := (writeL_neg (L := ajobs d.n (newR d.n j rec g)) (d := d) hp (ajobs_in hd (cntL_pos _))).2; rw [hw] at this; exact this
def GRec (s s' : Sp) (j j' : Jn) (g : Nat) (rec : List Nat) : Prop :=
  (appendL s.d j rec (g : Int) = (s.d, j, 0, 4) ∧ s' = { s with cnt := s.cnt + 1 } ∧ j' = j) ∨
  (∃ d', appendL s.d j rec (g : Int) = (d', j', s.first + s.live.length, 0) ∧ s' = { s with d := d', live := s.live.drop (g - s.first) ++ [rec], first := g, cnt := s.cnt + 1 })
end Go.Proofs.Ytlplogplicgfiaa

namespace Go.Proofs.Ytlplogplicgfiaa
open Go Go.RowKit
structure RcK (n : Nat) (r : Rc) : Prop where
  tot : r.h.total = cntL r.dat.length
  len : r.dat.length ≤ 4032
  totn : r.h.total ≤ n
  number : r.h.number < 4294967296
  life : r.h.life < 4294967296
  life1 : 1 ≤ r.h.life
  first1 : 1 ≤ r.h.first
  first : r.h.first ≤ r.h.number
  byt : ∀ x ∈ r.dat, x < 256
  at_ : r.at_ < n
end Go.Proofs.Ytlplogplicgfiaa

namespace Go.Proofs.Ytlplogplicgfiaa
open Go Go.RowKit
theorem RcK.pos {n : Nat} {r : Rc} (h : RcK n r) : 0 < r.h.total := by rw [h.tot]; exact cntL_pos _
theorem data_app {rec : List Nat} : ∀ m : Nat, ((List.range m).map (dataL rec)).flatten = rec.take (48 * m)
  | 0 => by simp
  | m + 1 => by
    rw [List.range_succ, List.map_append, List.flatten_append, data_app m]; simp only [List.map_cons, List.map_nil, List.flatten_cons, List.flatten_nil, List.append_nil, dataL]; rw [show 48 * (m + 1) = 48 * m + 48 by omega, List.take_add]
    congr 1
    rw [List.take_eq_take_iff, List.length_drop]; omega
def Dom (x r : Rc) : Prop := r.h.number < x.h.number ∨ (r.h.number = x.h.number ∧ r.h.life ≤ x.h.life)
theorem Dom.trans {x y z : Rc} (h1 : Dom x y) (h2 : Dom y z) : Dom x z := by unfold Dom at *; omega
end Go.Proofs.Ytlplogplicgfiaa

namespace Go.Proofs.Ytlplogplicgfiaa
open Go Go.RowKit
theorem lifeL_iff {d : Dk} {lam : Nat} : ∀ k : Nat, lifeL d k ≤ lam ↔ ∀ i, i < k → ∀ g j dt, tk d (i : Int) = some (g, j, dt) → g.life ≤ lam
  | 0 => by simp [lifeL]
  | k + 1 => by
    have ih := lifeL_iff (d := d) (lam := lam) k
    cases hk : tk d (k : Int) with
    | none =>
      rw [lifeL_none hk, ih]; refine ⟨fun h i hi g j dt e => ?_, fun h i hi => h i (by omega)⟩; rcases Nat.lt_or_ge i k with h1 | h1
      · exact h i h1 g j dt e
      · obtain rfl : i = k := by omega
        rw [hk] at e; exact absurd e (by simp)
    | some x =>
      obtain ⟨g0, j0, dt0⟩ := x; rw [lifeL_some hk]; refine ⟨fun h i hi g j dt e => ?_, fun h => ?_⟩
      · rcases Nat.lt_or_ge i k with h1 | h1
        · exact ih.1 (by omega) i h1 g j dt e
        · obtain rfl : i = k := by omega
          rw [hk] at e; simp only [Option.some.injEq, Prod.mk.injEq] at e; rw [← e.1]; omega
      · have h1 := ih.2 (fun i hi => h i (by omega)); have h2 := h k (by omega) g0 j0 dt0 hk; omega
theorem lstep_life {d : Dk} {pl : Nat} {s : Rc × Nat} {o : Option (Hd × Nat × List Nat)} {lam : Nat} : (lstep d pl s o).2 ≤ lam ↔ s.2 ≤ lam ∧ ∀ g j dt, o = some (g, j, dt) → g.life ≤ lam := by
  cases o with
  | none => simp [lstep]
  | some x =>
    obtain ⟨g, k, dt⟩ := x; have e : (lstep d pl s (some (g, k, dt))).2 = max s.2 g.life := by
      simp only [lstep]
      split
      · rfl
      · split <;> rfl
    rw [e]; constructor
    · intro h; refine ⟨by omega, fun g' j' dt' e' => ?_⟩; simp only [Option.some.injEq, Prod.mk.injEq] at e'; rw [← e'.1]; omega
    · rintro ⟨h1, h2⟩; have := h2 g k dt rfl; omega
theorem lastL_iff {d : Dk} {lam : Nat} : ∀ p : Nat, (lastL d p).2 ≤ lam ↔ ∀ pl t, pl < p → t < 2 → ∀ g j dt, tk d ((pl + t * d.n : Nat) : Int) = some (g, j, dt) → g.life ≤ lam
  | 0 => by simp [lastL]
  | p + 1 => by
    have ih := lastL_iff (d := d) (lam := lam) p; have e : lastL d (p + 1) = lstep d p (lstep d p (lastL d p) (tk d ((p + 0 * d.n : Nat) : Int))) (tk d ((p + 1 * d.n : Nat) : Int)) := rfl; rw [e, lstep_life, lstep_life, ih]; constructor
    · rintro ⟨⟨h1, h2⟩, h3⟩ pl t hp ht g j dt hk; rcases Nat.lt_or_ge pl p with h | h
      · exact h1 pl t h ht g j dt hk
      · obtain rfl : pl = p := by omega
        rcases (show t = 0 ∨ t = 1 by omega) with rfl | rfl
        · exact h2 g j dt hk
        · exact h3 g j dt hk
    · intro h; exact ⟨⟨fun pl t hp ht => h pl t (by omega) ht, h p 0 (by omega) (by decide)⟩, h p 1 (by omega) (by decide)⟩
theorem lifeL_last {d : Dk} (hn : 0 < d.n) : lifeL d (2 * d.n) = (lastL d d.n).2 := by
  apply Nat.le_antisymm
  · rw [lifeL_iff]; intro i hi g j dt hk; have e : i = i % d.n + i / d.n * d.n := by rw [Nat.mul_comm]; exact (Nat.mod_add_div i d.n).symm
    have h1 : i / d.n < 2 := (Nat.div_lt_iff_lt_mul hn).2 hi; rw [e] at hk; exact (lastL_iff d.n).1 (Nat.le_refl _) _ _ (Nat.mod_lt i hn) h1 g j dt hk
  · rw [lastL_iff]; intro pl t hp ht g j dt hk; have h2 : t * d.n ≤ 1 * d.n := Nat.mul_le_mul_right _ (by omega); exact (lifeL_iff _).1 (Nat.le_refl _) _ (by omega) g j dt hk
theorem rlifeP (w : World) {rb rd : Value} {r : Dk} (hR : RD w rb rd r) (hn : 0 < r.n) : Calls Try.prog 59 #[.agg #[rb, rd, .int .i64 r.pw, .bool r.tr]] w (Ret fun x w' => Ext w w' ∧ x = .int .i64 (((lastL r r.n).2 : Nat) : Int)) := by
  have h := Dk.n_pos hn; have := rlife_ w hR (by omega); rw [h.2.1, lifeL_last hn] at this; exact this
structure PcD (r : Rc) (l : List (List Nat)) : Prop where
  len : l.length = r.h.total
  dat : ∀ k, k < r.h.total → l.getD k [] = dataL r.dat k
theorem PcD.of {d : Dk} (hd : okD d) {r : Rc} {l : List (List Nat)} (hr : RcP d r) (hf : foundR d r.at_ r.h = some l) : PcD r l := by
  have hfi := hr.find; rw [findL_foundR, hf] at hfi; have hdat : l.flatten = r.dat := by simpa using hfi
  unfold foundR at hf
  split at hf
  · exact absurd hf (by simp)
  · obtain ⟨q1, q2⟩ := foundL_parts hf; have hp : ∀ i, i < l.length → (i + 1 ≠ r.h.total → (l.getD i []).length = 48) ∧ (l.getD i []).length ≤ 48 := fun i hi => by
      have h1 := q2 i (by omega); obtain ⟨z, hz⟩ := partL_tk h1; have h2 := tk_ok hd hz; exact ⟨h2.2.2.2.1, partL_len h1⟩
    refine ⟨q1, fun k hk => ?_⟩; rw [← hdat]; exact (flat_data (by omega) (fun i hi => (hp i (by omega)).1 (by omega)) (fun i hi => (hp i hi).2)).symm
theorem rbytesP (w : World) {d : Dk} {y : Rc} {l : List (List Nat)} {k : Nat} {v : Value} (hv : SU8s w v (l.getD k [])) (hp : PcD y l) (hk : k < y.h.total) (hy : RcP d y) : Calls Try.prog 62 #[.agg (pcC y.h k v)] w (Ret fun r w' => Ext w w' ∧ r = .agg (blkV (pcB y k))) := by
  have e := hp.dat k hk; rw [e] at hv; have h1 := hy.numb; have h2 := hy.life; have h3 := hy.num; exact rbytes_ w hv dataL_le (fun x hx => hy.d.byt x (List.mem_of_mem_drop (List.mem_of_mem_take hx))) (by omega) (by omega) (by omega)
structure AllM (w : World) (v : Value) (vs : List Value) (uss : List (List Value)) (ls : List (List (List Nat))) (L : List Rc) : Prop where
  sl : Sl w 115 1 v L.length vs
  lv : vs.length = L.length
  rows : ∀ i, i < L.length → PS w (vs.getD i undef) (uss.getD i []) (L.getD i Rc0).h (ls.getD i [])
  pc : ∀ i, i < L.length → PcD (L.getD i Rc0) (ls.getD i [])
def AlB (v : Value) (vs : List Value) (uss : List (List Value)) (n x : Nat) : Prop := vblk v = some x ∨ ∃ i, i < n ∧ PB (vs.getD i undef) (uss.getD i []) x
section
variable {w w' : World} {v : Value} {vs : List Value} {uss : List (List Value)} {ls : List (List (List Nat))} {L : List Rc}
theorem AllM.up {X : Nat → Prop} (p : AllM w v vs uss ls L) (u : Upd X w w') (hX : ∀ x, X x → ¬ AlB v vs uss L.length x) : AllM w' v vs uss ls L :=
  ⟨p.sl.up u (fun b hb e => hX b e (.inl hb)), p.lv, fun i hi => (p.rows i hi).up u (fun x e q => hX x e (.inr ⟨i, hi, q⟩)), p.pc⟩
theorem AllM.ext (p : AllM w v vs uss ls L) (u : Ext w w') : AllM w' v vs uss ls L := p.up u (fun _ e => e.elim)
theorem AllM.ty (p : AllM w v vs uss ls L) {x : Nat} (hx : AlB v vs uss L.length x) : ∃ ty cs, Blk w x ty cs ∧ (ty = 115 ∨ ty = 120 ∨ ty = 5) := by
  rcases hx with hx | ⟨i, hi, hx⟩
  · obtain ⟨c, q⟩ := p.sl.blk hx; exact ⟨_, _, q, .inl rfl⟩
  · obtain ⟨ty, c, q, h⟩ := (p.rows i hi).pb hx; exact ⟨_, _, q, .inr h⟩
theorem AllM.lt (p : AllM w v vs uss ls L) {x : Nat} (hx : AlB v vs uss L.length x) : x < w.heap.size := by
  obtain ⟨ty, c, q, _⟩ := p.ty hx; exact q.lt
theorem AllM.new (p : AllM w v vs uss ls L) {b : Nat} (hb : w.heap.size ≤ b) : ¬ AlB v vs uss L.length b := fun e => by have := p.lt e; omega
theorem AllM.upN {b : Nat} (p : AllM w v vs uss ls L) (u : Upd (one b) w w') (hb : ¬ AlB v vs uss L.length b) : AllM w' v vs uss ls L := p.up u (fun x e => by have e1 : x = b := e; rw [e1]; exact hb)
theorem AllM.notT (p : AllM w v vs uss ls L) {b : Nat} {ty : TypeId} {cs : Array Value} (hB : Blk w b ty cs) (hne : 115 ≠ ty ∧ 120 ≠ ty ∧ 5 ≠ ty) : ¬ AlB v vs uss L.length b := fun e => by
  obtain ⟨ty', c, q, h1⟩ := p.ty e; have h2 := (q.inj hB).2; rcases h1 with rfl | rfl | rfl
  · exact hne.1 h2
  · exact hne.2.1 h2
  · exact hne.2.2 h2
theorem AllM.upT {b : Nat} {ty : TypeId} {cs : Array Value} (p : AllM w v vs uss ls L) (u : Upd (one b) w w') (hB : Blk w b ty cs) (hne : 115 ≠ ty ∧ 120 ≠ ty ∧ 5 ≠ ty) : AllM w' v vs uss ls L := p.upN u (p.notT hB hne)
theorem AllM.upS {x : Value} {ty' k' m : Nat} {ds : List Value} (p : AllM w v vs uss ls L) (u : Upd (fun b => vblk x = some b) w w') (hx : Sl w ty' k' x m ds) (hne : 115 ≠ ty' ∧ 120 ≠ ty' ∧ 5 ≠ ty') : AllM w' v vs uss ls L := p.up u (fun b e => by obtain ⟨c, q⟩ := hx.blk e; exact p.notT q hne)
theorem AllM.nil : AllM w (.slice none 0 0) [] [] [] [] := ⟨Sl.nil _ _ _, rfl, fun i hi => by simp at hi, fun i hi => by simp at hi⟩
theorem AllM.cons {a pv : Value} {us : List Value} {l : List (List Nat)} {y : Rc} (p : AllM w v vs uss ls L) (hs : Sl w 115 1 a (1 + L.length) ([pv] ++ vs)) (hp : PS w pv us y.h l) (hd : PcD y l) : AllM w a (pv :: vs) (us :: uss) (l :: ls) (y :: L) := by
  refine ⟨by rw [List.length_cons, Nat.add_comm]; exact hs, by simp [p.lv], fun i hi => ?_, fun i hi => ?_⟩
  · cases i with
    | zero => exact hp
    | succ k => exact p.rows k (by simpa using hi)
  · cases i with
    | zero => exact hd
    | succ k => exact p.pc k (by simpa using hi)
theorem AllM.cell (p : AllM w v vs uss ls L) {i : Nat} (hi : i < L.length) : vs[i * 1 + 0]? = some (vs.getD i undef) := by
  have := p.lv; rw [Nat.mul_one, Nat.add_zero, List.getD_eq_getElem?_getD, List.getElem?_eq_getElem (by omega)]; rfl
theorem AllM.one (p : AllM w v vs uss ls L) : ∀ u ∈ vs, u.oneCell' = true := fun u hu => by
  obtain ⟨i, hi, rfl⟩ := List.mem_iff_getElem.1 hu; have h1 := (p.rows i (by have := p.lv; omega)).sl.one; rw [List.getD_eq_getElem?_getD, List.getElem?_eq_getElem hi] at h1; exact h1
end
def plsC (L : List Rc) : List Value := L.map (fun r => .int .i64 (r.at_ : Int))
theorem plsC_len (L : List Rc) : (plsC L).length = L.length := by simp [plsC]
theorem plsC_at {L : List Rc} {i : Nat} (hi : i < L.length) : (plsC L)[i * 1 + 0]? = some (.int .i64 (((L.getD i Rc0).at_ : Nat) : Int)) := by
  rw [Nat.mul_one, Nat.add_zero]; unfold plsC; rw [List.getElem?_map, List.getElem?_eq_getElem hi, List.getD_eq_getElem?_getD, List.getElem?_eq_getElem hi]; rfl
theorem plsC_one (L : List Rc) : ∀ u ∈ plsC L, u.oneCell' = true := fun u hu => by
  obtain ⟨r, _, rfl⟩ := List.mem_map.1 hu; rfl
structure RJ (w : World) (rb rd vR vP : Value) (uR : List Value) (d : Dk) (j : Jn) : Prop where
  d : RD w rb rd d
  recs : LvM w vR uR (j.live.map (·.dat))
  pls : Sl w 3 1 vP j.live.length (plsC j.live)
abbrev rjC (rb rd vR vP : Value) (d : Dk) (j : Jn) : Array Value := #[rb, rd, .int .i64 d.pw, .bool d.tr, vR, vP, .int .i64 ((firstN j.live : Nat) : Int), .int .i64 (j.life : Int), .int .i64 (j.mended : Int), .bool j.down]
abbrev rj0 (rb rd : Value) (d : Dk) : Array Value := #[rb, rd, .int .i64 d.pw, .bool d.tr, .slice none 0 0, .slice none 0 0, .int .i64 ((0 : Nat) : Int), .int .i64 ((0 : Nat) : Int), .int .i64 ((0 : Nat) : Int), .bool false]
def OF (w : World) (a b : Value) : Prop := ∀ x, vblk b = some x → vblk a = some x ∨ w.heap.size ≤ x
theorem OF.refl (w : World) (a : Value) : OF w a a := fun _ h => .inl h
theorem OF.w {w w1 : World} {a b c qb qd : Value} (h : (b = qb ∧ c = qd) ∨ (Fresh w1 b ∧ Fresh w1 c)) (ho : OF w a qd) (hs : w.heap.size ≤ w1.heap.size) : OF w a c := fun x hx => by
  rcases h with ⟨_, rfl⟩ | ⟨_, h⟩
  · exact ho x hx
  · have := h x hx; right; omega
def RORes (w w' : World) (rd0 : Value) (x : Value) : Dk × Nat × Option Jn → Prop
  | (d', e, none) => ∃ rb rd, x = .tuple #[.agg (rj0 rb rd d'), .int .i64 (e : Int)] ∧ RD w' rb rd d' ∧ OF w rd0 rd
  | (d', e, some j) => ∃ rb rd vR vP uR, x = .tuple #[.agg (rjC rb rd vR vP d' j), .int .i64 (e : Int)] ∧ RJ w' rb rd vR vP uR d' j ∧ OF w rd0 rd
structure Cur (d : Dk) (x y : Rc) (L : List Rc) : Prop where
  rc : RcP d y
  xrc : RcP d x
  ch : (L = [] ∧ y = x ∧ openC d = chainS d x [x]) ∨ (Chn d x L ∧ 0 < L.length ∧ y.h.number + 1 = (L.getD 0 Rc0).h.number ∧ x.h.first < (L.getD 0 Rc0).h.number ∧ chainS d x L = openC d ∧ beforeL d (L.getD 0 Rc0).at_ (L.getD 0 Rc0).h.number = some y)
theorem RcP.xpos {d : Dk} {x : Rc} (h : RcP d x) : 0 < x.h.number := by have := h.first; have := h.num; omega
theorem Cur.len {d : Dk} {x y : Rc} {L : List Rc} (h : Cur d x y L) : L.length ≤ d.n := by
  rcases h.ch with ⟨rfl, _⟩ | ⟨h1, _⟩
  · simp
  · exact h1.len
theorem Cur.over {d : Dk} {x y : Rc} {L : List Rc} (h : Cur d x y L) (ho : freeI d.n (y :: L) < 0) : openC d = none := by
  have h0 := h.xrc.xpos; rcases h.ch with ⟨rfl, rfl, _⟩ | ⟨h1, h2, h3, h4, h5, h6⟩
  · have := h.rc.totn; unfold freeI at ho; rw [totalL_cons] at ho; simp [totalL] at ho; omega
  · rw [← h5]; exact chainS_full h0 h4 h6 ho
theorem Cur.chn {d : Dk} {x y : Rc} {L : List Rc} (h : Cur d x y L) (ho : 0 ≤ freeI d.n (y :: L)) : Chn d x (y :: L) ∧ chainS d x (y :: L) = openC d := by
  have h0 := h.xrc.xpos; rcases h.ch with ⟨rfl, rfl, h1⟩ | ⟨h1, h2, h3, h4, h5, h6⟩
  · have := Chn.start (d := d) (x := y) (.inr h.xrc); rw [if_neg (by omega)] at this; exact ⟨this, h1.symm⟩
  · exact ⟨h1.cons h0 h.rc h3 h4 ho, (chainS_step h0 h4 h6 h3 (by omega)).trans h5⟩
theorem Cur.stop {d : Dk} {x y : Rc} {L : List Rc} (h : Cur d x y L) (ho : 0 ≤ freeI d.n (y :: L)) (hf : y.h.number = x.h.first) : openC d = some (y :: L) := by
  rw [← (h.chn ho).2]; exact chainS_stop (.inr (by show y.h.number ≤ _; omega))
theorem Cur.lt {d : Dk} {x y : Rc} {L : List Rc} (h : Cur d x y L) (ho : 0 ≤ freeI d.n (y :: L)) (hf : y.h.number ≠ x.h.first) : x.h.first < y.h.number := by
  have := (h.chn ho).1.fst h.xrc.xpos; have : x.h.first ≤ y.h.number := this; omega
theorem Cur.none_ {d : Dk} {x y : Rc} {L : List Rc} (h : Cur d x y L) (ho : 0 ≤ freeI d.n (y :: L)) (hf : y.h.number ≠ x.h.first) (hb : beforeL d y.at_ y.h.number = none) : openC d = none := by
  rw [← (h.chn ho).2]; exact chainS_rot h.xrc.xpos (h.lt ho hf) hb
theorem Cur.next {d : Dk} (hd : okD d) (hn : 0 < d.n) {x y z : Rc} {L : List Rc} (h : Cur d x y L) (ho : 0 ≤ freeI d.n (y :: L)) (hf : y.h.number ≠ x.h.first) (hb : beforeL d y.at_ y.h.number = some z) : Cur d x z (y :: L) := by
  obtain ⟨h1, h2⟩ := beforeL_P hd hn hb; exact ⟨h1, h.xrc, .inr ⟨(h.chn ho).1, by simp, h2, h.lt ho hf, (h.chn ho).2, hb⟩⟩
theorem Cur.start {d : Dk} (hP : (lastL d d.n).1 = Rc0 ∨ RcP d (lastL d d.n).1) (h0 : (lastL d d.n).1 ≠ Rc0) : Cur d (lastL d d.n).1 (lastL d d.n).1 [] := by
  have h1 := hP.resolve_left h0; refine ⟨h1, h1, .inl ⟨rfl, rfl, ?_⟩⟩; unfold openC; rw [if_neg (by have := h1.xpos; omega)]
theorem open_zero {d : Dk} (h0 : (lastL d d.n).1 = Rc0) : openC d = some [] := by unfold openC; rw [h0]; rfl
theorem Dk.write_pw2 (d : Dk) (i : Int) (b : List Nat) (h : -9223372036854775808 ≤ d.pw) : -9223372036854775808 ≤ (d.write i b).1.pw := by
  unfold Dk.write
  split
  · split
    · exact h
    · show _ ≤ (if 0 < d.pw then d.pw - 1 else d.pw)
      split <;> omega
  · exact h
theorem Cur.tl {d : Dk} {x y : Rc} {L : List Rc} (h : Cur d x y L) : totalL L ≤ d.n := by
  rcases h.ch with ⟨rfl, _⟩ | ⟨h1, _⟩
  · exact Nat.zero_le _
  · have := h1.free; unfold freeI at this; omega
structure SzM (w : World) (N : Nat) : Prop where
  le : N ≤ w.heap.size
theorem SzM.up {X : Nat → Prop} {w w' : World} {N : Nat} (h : SzM w N) (u : Upd X w w') : SzM w' N := ⟨Nat.le_trans h.le u.size⟩
theorem SzM.ext {w w' : World} {N : Nat} (h : SzM w N) (u : Ext w w') : SzM w' N := h.up u
theorem SzM.upT {w w' : World} {N b : Nat} {ty : TypeId} {cs : Array Value} (h : SzM w N) (u : Upd (one b) w w') (_ : Blk w b ty cs) (_ : True) : SzM w' N := h.up u
theorem SzM.upS {w w' : World} {N ty' k' m : Nat} {x : Value} {ds : List Value} (h : SzM w N) (u : Upd (fun b => vblk x = some b) w w') (_ : Sl w ty' k' x m ds) (_ : True) : SzM w' N := h.up u
theorem app_ge {w w' : World} {v v' : Value} {n N : Nat} (hs : SzM w N) (hf : ∀ b, vblk v = some b → N ≤ b) (hd : (vblk v' = vblk v ∧ n ≤ vcap v ∧ vcap v' = vcap v) ∨ (∃ b, vblk v' = some b ∧ w.heap.size ≤ b ∧ Ext w w')) : ∀ b, vblk v' = some b → N ≤ b := by
  intro b hb; rcases hd with ⟨e, _, _⟩ | ⟨b', e, h1, _⟩
  · rw [e] at hb; exact hf b hb
  · rw [e] at hb; have := Option.some.inj hb; have := hs.le; omega
theorem dat_take {rec : List Nat} {k : Nat} : rec.take (48 * k) ++ dataL rec k = rec.take (48 * (k + 1)) := by
  have h1 := data_app (rec := rec) k; have h2 := data_app (rec := rec) (k + 1); rw [List.range_succ, List.map_append, List.flatten_append, h1] at h2; simpa using h2
theorem dat_all {r : Rc} (h : RcD r) : r.dat.take (48 * r.h.total) = r.dat := List.take_of_length_le h.lenle
end Go.Proofs.Ytlplogplicgfiaa
